/- What walks of Go code need. No condition. -/
import Derived.Test.YtjjfmdpchohfaaaGreatTCT2
import Derived.Laws.StructEq
import Derived.Laws.Strings
import Derived.Laws.BitsLemmas
set_option linter.unusedSimpArgs false
set_option linter.unusedVariables false
namespace Go.TI
open Go Go.RowKit
variable {E E' E1:St} {P:Program} {N i sz n e j d by_ b t:Nat} {Q:Exit->St->Prop} {ops ops2:Array Oper} {α β V S γ W σ A:Type} {dn FA UA q:List Nat} {w:World} {y:Code} {f sf g:FuncId} {as:List AV} {blk:Root->Nat} {fn:Func} {s:SV} {FS US:Root->List Nat} {T T':TypeId} {row row':List TV} {p:Prop} {t':TV} {K:St->Prop} {rest:List Oper} {r:β} {l:List α} {kk:α->Option β} {s0:S} {k:V->Option β} {u:List α} {fin:α->List TV} {Am:List γ->RV} {m:List α} {l':List γ} {tx:Option β} {ty:Option β} {xl:List γ}
section
variable {x:α}
def ET (o:Oper):TypeId×TypeId×Operand×Operand:=match o.op with
 | .call c=>match c.callee,c.args.toList,c.argTypes.toList with
  | .builtin .append,[s,x],[t,t']=>(t,t',s,x)
  |_,_,_=>(0,0,.tmp 0,.tmp 0)
 |_=>(0,0,.tmp 0,.tmp 0)
end
section
variable {x:α}
def AAX (o:Oper):Bool:=match o.op with
 | .call c=>match c.callee,c.args.toList,c.argTypes.toList with
  | .builtin .append,[s,x],[t,t']=>true
  |_,_,_=>false
 |_=>false
end
theorem kR {o:Oper} (h:AAX o=true):o.op= .call {callee:= .builtin .append,args:= #[(ET o).2.2.1,(ET o).2.2.2],argTypes:= #[(ET o).1,(ET o).2.1]}:=by
 unfold AAX at h;unfold ET;split at h
 ·rename_i c hc;split at h
  ·rename_i s x t t' h1 h2 h3;obtain⟨callee,args,types⟩:=c;simp only at h1 h2 h3;subst h1;obtain rfl:args= #[s,x]:=by grind
   obtain rfl:types= #[t,t']:=by grind
   rw[hc]
  cases h
 cases h
def ACS (P:Program) (N:Nat) (o:Oper) (sz by_:Nat):Bool:=AAX o&&Nat.beq (ET o).1 (ET o).2.1&&WP P (ET o).1 sz&&(Mg P<|YB P (ET o).1).isSome&&Nat.beq (P.bytesOf<|YB P (ET o).1) by_&&Nat.blt 0 by_&&G7 N o
def Uv (P:Program) (E:St) (o:Oper) (sz:Nat):Option (List TV×St):=match E.cell1 P (ET o).1 (ET o).2.2.1 with
 |some sv=>match DD E sv with
  |some (.sl true e s cells,E1)=>bif Nat.beq e (YB P (ET o).1)&&Nat.beq s sz then some (cells,E1)else none
  |_=>none
 |none=>none
def apE (P:Program) (E:St) (o:Oper) (sz:Nat):St:=((Uv P E o sz).map Prod.snd).getD E
def apV (P:Program) (o:Oper) (sz:Nat) (a:List TV):SV:= .one (.sl true (YB P (ET o).1) sz a)
def ABt (P:Program) (E1:St) (o:Oper) (sz:Nat):Option (Nat×List TV×St):=match E1.ref (ET o).2.2.2 with
 |some (r,q,j)=>match E1.place r q j with
  |some (.sl _ _ s cells)=>bif Nat.beq s sz then(match FD E1 (VI E1 r (q++ [j]) 0 cells)with
   |some (news,E2)=>some (cells.length,news,E2)
   |none=>none)else none
  |_=>none
 |none=>none
theorem Zb {t e:TypeId} (h:P.underlying t=some (.slice e)):YB P t=e:=by unfold YB;rw[h]
section
variable {o:Oper} {f:α->List TV} {x:α}
theorem AER {E2:St} {r:Root} {e2:Nat} {cells2:List TV} (hf:∀x,(f x).length=sz) (l m:List α) (h:ap by_ l m=some u) (hd:Uv P E o sz=some (AC f l,E1)) {b:Bool} (hr:E1.ref (ET o).2.2.2=some (r,q,j)) (hp:E1.place r q j=some (.sl b e2 sz cells2)) (hn:FD E1 (VI E1 r (q++ [j]) 0 cells2)=some (AC f m,E2)) (hl:cells2.length=m.length*sz) (ho:ACS P N o sz by_=true):C0 P N false E o=some (E2.put o.dst (apV P o sz (AC f u))):=by
 obtain⟨rfl,i⟩:=ACR h;simp only[ACS,Ai]at ho;obtain⟨⟨⟨⟨⟨⟨a1,a2⟩,a3⟩,a4⟩,a5⟩,a6⟩,a7⟩:=ho;obtain⟨d,a8,_,a9⟩:=ES a7;obtain⟨e,b1,b2,b3⟩:=Mj a3;have a:=Zb b1;rw[a]at a4 a5;have h0':0<sz:=by simp_all
 have hb0':0<by_:=by simp_all
 have hb:=Bf a5;have c:=Bf a2;unfold Uv at hd;rw[a]at hd;split at hd
 ·rename_i sv hs;split at hd
  ·rename_i e1 s g E1' h1
   cases hc:(Nat.beq e1 e&&Nat.beq s sz)with
   |false=>grind
   |true=>
    rw[hc]at hd;simp only[Ae]at hd
    injection hd with hd
    injection hd with hd1 hd2
    rw[Ai]at hc;have c1:=Bf hc.1;have c2:=Bf hc.2;subst hd1 hd2 c1 c2;have k:(AC f l).length/s=l.length:=by rw[ER hf];simp_all
    have n:cells2.length/s=m.length:=by simp_all
    have p:l.length+m.length<=(l.length+m.length)*by_:=Nat.le_mul_of_pos_right _ hb0';unfold C0;rw[a8];simp only[AG a9,kR a1,AG c,NY,b1,hs,h1,hr,hp,hn];rw[AG ⟨trivial,b2.symm,trivial,h0',a4,by omega,by grind⟩,Ta,apV,a]
  cases hd
 cases hd
end
theorem Vg {o:Oper} {a:List TV} (h:(Uv P E o sz).map Prod.fst=some a):Uv P E o sz=some (a,apE P E o sz):=by
 unfold apE
 cases hx:Uv P E o sz with
 |none=>grind
 |some z=>grind
section
variable {o:Oper} {f:α->List TV} {x:α}
theorem Ch (hf:∀x,(f x).length=sz) (hg:∀x,J7 (f x)=true) (l:List α) (h:ap by_ l m=some u) (hd:(Uv P E o sz).map Prod.fst=some (AC f l):=by kernel_rfl) (hm:f8 (apE P E o sz) (ET o).2.2.2 sz=some (AC f m):=by kernel_rfl) (ho:ACS P N o sz by_=true:=by kernel_rfl):
  C0 P N false E o=some ((apE P E o sz).put o.dst<|apV P o sz<|AC f u):=by
 obtain⟨r,q,j,a,e,h1,h2⟩:=QJ hm;exact AER hf l m h (Vg hd) h1 h2 (by rw[Z9 _<|UN hg m,RI<|UN hg m]) (ER hf m) ho
end
section
variable {o:Oper} {f:α->List TV} {x:α}
theorem Wy (hf:∀x,(f x).length=sz) (l m:List α) (h:ap by_ l m=some u) (hd:(Uv P E o sz).map Prod.fst=some (AC f l):=by kernel_rfl) (hm:(ABt P (apE P E o sz) o sz).map (λz=>(z.1,z.2.1))=some (m.length*sz,AC f m):=by kernel_rfl) (ho:ACS P N o sz by_=true:=by kernel_rfl):
  C0 P N false E o=some ((((ABt P (apE P E o sz) o sz).map λz=>z.2.2).getD E).put o.dst<|apV P o sz<|AC f u):=by
 have hd':=Vg hd;generalize hE:apE P E o sz=E1 at hm hd'⊢;unfold ABt at hm⊢
 cases hr:E1.ref (ET o).2.2.2 with
 |none=>grind
 |some z=>
  obtain⟨r,q,j⟩:=z;simp only[hr]at hm⊢
  cases hp:E1.place r q j with
  |none=>grind
  |some t=>
   simp only[hp]at hm⊢
   cases t with
   |sl own e2 s cells=>
    simp only at hm⊢
    cases hb:Nat.beq s sz with
    |false=>grind
    |true=>
     rw[hb]at hm;simp only[Ae]at hm⊢;have:=Bf hb;subst this
     cases hn:FD E1 (VI E1 r (q++ [j]) 0 cells)with
     |none=>grind
     |some y=>
      obtain⟨news,E2⟩:=y;simp only[hn,By]at hm⊢
      injection hm with hm
      injection hm with hm1 hm2
      subst hm2;exact AER hf l m h hd' hr hp hn hm1 ho
   |_=>grind
end
def ADs (P:Program) (N:Nat) (o:Oper):Bool:=AAX o&&WP P (ET o).1 1&&gX P (ET o).2.1&&!Nat.beq (ET o).1 (ET o).2.1&&ACu P (YB P (ET o).1)&&G7 N o
section
variable {o:Oper} {n:Int}
theorem tA {f:Int->List TV} {b:ByteArray} {u:List Int} (hf:∀n,f n=[.int .u8 n]) (l:List Int) (h:aps l b=some u) (hd:(Uv P E o 1).map Prod.fst=some (AC f l):=by kernel_rfl) (hx:XD P E (ET o).2.1 (ET o).2.2.2=some b:=by kernel_rfl) (ho:ADs P N o=true:=by kernel_rfl):
  C0 P N false E o=some ((apE P E o 1).put o.dst<|apV P o 1<|AC f u):=by
 have hd':=Vg hd;simp only[ADs,Ai,D5]at ho;obtain⟨⟨⟨⟨⟨a1,a2⟩,a3⟩,a4⟩,a5⟩,a6⟩:=ho;obtain⟨d,a8,_,a9⟩:=ES a6;obtain⟨e,b1,b2,b3⟩:=Mj a2;have a:=Zb b1;have c:=Wk a3;have g:=Lw hx;have hne':(ET o).1≠(ET o).2.1:=by grind
 rw[a]at a5;unfold aps at h;split at h
 case isFalse=>cases h
 rename_i hb
 injection h with h
 subst h;have hl:(AC f l).length=l.length:=by rw[ER (sz:=1) (λn=>by rw[hf];rfl),zA]
 generalize hE:apE P E o 1=E1 at hd'⊢;unfold Uv at hd';rw[a]at hd';split at hd'
 ·rename_i sv hs;split at hd'
  ·rename_i e1 s i E1' h1
   cases hc:(Nat.beq e1 e&&Nat.beq s 1)with
   |false=>grind
   |true=>
    rw[hc]at hd';simp only[Ae]at hd'
    injection hd' with hd'
    injection hd' with hd1 hd2
    rw[Ai]at hc;have c1:=Bf hc.1;have c2:=Bf hc.2;subst hd1 hd2 c1 c2;unfold C0;rw[a8];simp only[AG a9,kR a1,AH hne',R1,b1,c,hs,g,h1];rw[AG ⟨trivial,trivial,a5,by rw[hl];exact hb⟩,XC hf,Ta,apV,a]
  cases hd'
 cases hd'
end
def Ul (o:Oper):TypeId×Operand×Operand:=match o.op with
 | .makeSlice t l c=>(t,l,c)
 |_=>(0,.tmp 0,.tmp 0)
def ADV (o:Oper):Bool:=match o.op with
 | .makeSlice .. =>true
 |_=>false
theorem ACx {o:Oper} (h:ADV o=true):o.op= .makeSlice (Ul o).1 (Ul o).2.1 (Ul o).2.2:=by
 unfold ADV at h;unfold Ul
 grind
def AEK (P:Program) (N:Nat) (o:Oper) (sz by_:Nat):Bool:=ADV o&&WP P (Ul o).1 sz&&Nat.beq (P.bytesOf<|YB P (Ul o).1) by_&&G7 N o
section
variable {o:Oper} {f:α->List TV} {n:Int} {x:α}
theorem fmk (hf:∀x,(f x).length=sz) (z:α) (h:mk by_ z n=some u) (hl:Un P E (Ul o).2.1=some n:=by kernel_rfl) (hc:Un P E (Ul o).2.2=some n:=by kernel_rfl) (hz:Mg P (YB P (Ul o).1)=some (f z):=by kernel_rfl) (ho:AEK P N o sz by_=true:=by kernel_rfl):
  C0 P N false E o=some (E.put o.dst<|.one<|.sl true (YB P (Ul o).1) sz<|AC f u):=by
 simp only[AEK,Ai]at ho;obtain⟨⟨⟨a1,a2⟩,a3⟩,a4⟩:=ho;obtain⟨d,a5,a6,_⟩:=ES a4;obtain⟨e,b1,b2,b3⟩:=Mj a2;have a:=Zb b1;rw[a]at hz a3⊢;obtain⟨k1,hl⟩:=I6 hl;obtain⟨k2,hc⟩:=I6 hc;rw[a5];exact AFh z h (ACx a1) a5 a6 b1 hl hc hz rfl (Bf a3) b2
end
def ADU (o:Oper):Bool:=match o.op with
 | .convert .. =>true
 |_=>false
theorem ACw {o:Oper} (h:ADU o=true):o.op= .convert (RM o).1 (RM o).2.1 (RM o).2.2:=by
 unfold ADU at h;unfold RM
 grind
def AEx (P:Program) (N:Nat) (o:Oper):Bool:=ADU o&&gX P (RM o).1&&WP P (RM o).2.1 1&&oT P (YB P (RM o).2.1)&&G7 N o
section
variable {o:Oper} {n:Int}
theorem fsb {f:Int->List TV} {b:ByteArray} (hf:∀n,f n=[.int .u8 n]) (hx:XD P E (RM o).1 (RM o).2.2=some b) (ho:AEx P N o=true:=by kernel_rfl):C0 P N false E o=some (E.put o.dst<|.one<|.sl false (YB P (RM o).2.1) 1<|AC f<|rI b):=by
 simp only[AEx,Ai]at ho;obtain⟨⟨⟨⟨a1,a2⟩,a3⟩,a4⟩,a5⟩:=ho;obtain⟨d,a6,a7,_⟩:=ES a5;obtain⟨e,b1,b2,b3⟩:=Mj a3;have a:=Zb b1;rw[a]at a4⊢;rw[a6];exact AFg hf (ACw a1) a6 a7 (Wk a2) b1 (Lw hx) a4
end
section
variable {x:α}
def Sh (o:Oper):TypeId×Operand×Operand:=match o.op with
 | .store t a x=>(t,a,x)
 |_=>(0,.tmp 0,.tmp 0)
end
def ADT (o:Oper):Bool:=match o.op with
 | .store .. =>o.dst.isNone
 |_=>false
theorem ACv {o:Oper} (h:ADT o=true):o.op= .store (Sh o).1 (Sh o).2.1 (Sh o).2.2/\o.dst=none:=by
 unfold ADT at h;unfold Sh;split at h
 ·simp_all
 cases h
def WN (P:Program) (E:St) (o:Oper):Option (List TV×St):=match E.val P (Sh o).1 (Sh o).2.2 with
 |some s=>Nb E s
 |none=>none
def zR (P:Program) (E:St) (o:Oper):List TV:=((WN P E o).map Prod.fst).getD []
def rB (P:Program) (E:St) (o:Oper):St:=((WN P E o).map Prod.snd).getD E
def stP (P:Program) (E:St) (o:Oper):Root×List Nat×Nat:=HE (rB P E o) (Sh o).2.1
def wF (P:Program) (E:St) (o:Oper) (k sz:Nat):Bool:=ADT o&&(WN P E o).isSome&&Nat.beq (zR P E o).length (P.cellsOf (Sh o).1)&&Nat.blt 0 (zR P E o).length&&Nat.ble (k+(zR P E o).length) sz
section
variable {o:Oper} {f:α->List TV} {n:Int} {x:α}
theorem AEN {r:Root} (hf:∀x,(f x).length=sz) (hx:gi l n=some x) (k:Nat) {c:Nat} {cs cs':List TV} (ho:wF P E o k sz=true) (hp:(rB P E o).ptr? (Sh o).2.1=some (r,c::q,n.toNat*sz+k)) (hr:(rB P E o).root r=some cs) (A:At cs (c::q) (AC f l) (λa=>setRow a (n.toNat*sz+k) (zR P E o)) cs'):C0 P N false E o=some (((rB P E o).setRoot r cs').bump r):=by
 simp only[wF,Ai]at ho;obtain⟨⟨⟨⟨a1,a2⟩,a3⟩,a4⟩,a5⟩:=ho;obtain⟨b1,b2⟩:=ACv a1;have ht:WN P E o=some (zR P E o,rB P E o):=by
  unfold zR rB
  cases hh:WN P E o with
  |none=>grind
  |some z=>rfl
 generalize hX:zR P E o=xs at*;generalize hE:rB P E o=E1 at*;unfold WN at ht;split at ht
 ·rename_i s hs;have h0':0<xs.length:=by simp_all
  simp only[C0,b2,b1,W0,hs,ht,hp,hr,A.c];rw[AG ⟨A.o,Bf a3,h0',AD0 hf hx a5⟩,AH (by simp),A.u]
 cases ht
end
section
variable {o:Oper}
def AB8 (E:St) (r:Root) (c:Nat) (a:List TV):List TV:=match E.root r with
 |some cs=>match cs[c]? with
  |some (.sl o e s _)=>cs.set c<|.sl o e s a
  |_=>cs
 |none=>[]
end
def S5 (E:St) (r:Root) (c:Nat):Option (List TV):=match E.root r with
 |some cs=>match cs[c]? with
  |some (.sl true e s row)=>some row
  |_=>none
 |none=>none
theorem S4 {r:Root} {c:Nat} {a:List TV} (h:S5 E r c=some a):∃cs e s,E.root r=some cs/\cs[c]?=some (.sl true e s a)/\∀row',AB8 E r c row'=cs.set c (.sl true e s row'):=by
 unfold S5 at h;unfold AB8
 grind
section
variable {o:Oper} {f:α->List TV} {n:Int} {x:α}
theorem Kx (hf:∀x,(f x).length=sz) (hx:gi l n=some x) (k c:Nat) (z:α) (ho:wF P E o k sz=true:=by kernel_rfl) (hp:(rB P E o).ptr? (Sh o).2.1=some ((stP P E o).1,[c],n.toNat*sz+k):=by kernel_rfl) (hr:S5 (rB P E o) (stP P E o).1 c=some (AC f l):=by kernel_rfl) (hz:setRow (f x) k (zR P E o)=f z:=by kernel_rfl):C0 P N false E o=some (((rB P E o).setRoot (stP P E o).1<|AB8 (rB P E o) (stP P E o).1 c<|AC f<|si l n z).bump (stP P E o).1):=by
 obtain⟨cs,e,s,h1,h2,h3⟩:=S4 hr;refine AEN hf hx k ho hp h1 ?_;rw[h3];have hk:Nat.ble (k+(zR P E o).length) sz=true:=by
  simp only[wF,Ai]at ho;exact ho.2
 exact At.one (WQ hf hx hk hz) h2 rfl
end
section
variable {o:Oper} {f:α->List TV} {n:Int} {x:α}
theorem ACG {α':Type} {f':α'->List TV} {sz':Nat} {l':List α'} {n':Int} {x':α'} {s:Nat} (hf:∀x,(f x).length=sz) (hx:gi l n=some x) (k c:Nat) (z:α) (hf':∀x,(f' x).length=sz') (hx':gi l' n'=some x') (k':Nat) (z':α') (ho:(wF P E o k sz&&Nat.blt k' sz')=true:=by kernel_rfl) (hp:(rB P E o).ptr? (Sh o).2.1=some ((stP P E o).1,[c,n'.toNat*sz'+k'],n.toNat*sz+k):=by kernel_rfl) (hr:S5 (rB P E o) (stP P E o).1 c=some (AC f' l'):=by kernel_rfl) (hz:setRow (f x) k (zR P E o)=f z:=by kernel_rfl) (hc:(f' x')[k']?=some (.sl true e s<|AC f l):=by rfl) (hc':(f' x').set k' (.sl true e s<|AC f<|si l n z)=f' z':=by rfl):C0 P N false E o=some (((rB P E o).setRoot (stP P E o).1<|AB8 (rB P E o) (stP P E o).1 c<|AC f'<|si l' n' z').bump (stP P E o).1):=by
 obtain⟨cs,e1,s1,h1,h2,h3⟩:=S4 hr;rw[Ai]at ho;refine AEN hf hx k ho.1 hp h1 ?_;rw[h3];have hk:Nat.ble (k+(zR P E o).length) sz=true:=by
  have:=ho.1;simp only[wF,Ai]at this;exact this.2
 exact AE2 hf' hx' (At.one (WQ hf hx hk hz) hc hc') ho.2 h2 rfl
end
theorem KB.o {ops:Array Oper} {ts dn:List Nat} (mv:Bool) (h:KW P N ops ts (i::dn) ((C0 P N mv E (oA ops i)).getD E) Q) (hs:(C0 P N mv E (oA ops i)).isSome=true:=by kernel_rfl) (hk:(RY P ops E i&&(kp (oA ops i)||ts.contains i))=true:=by kernel_rfl):KB P N ops ts dn i E Q:=FP (getD_some hs) h hk
def bits:Nat->List (TypeId×Operand)->List (Bool×TypeId×Operand)
 |_,[]=>[]
 |m,(t,x)::l=>(Nat.beq (m %2) 1,t,x)::bits (m/2) l
def Qo (o:Oper):Nat:=match o.op with
 | .call c=>match c.callee with
  | .value (.func f)=>f
  |_=>0
 |_=>0
def GG (o:Oper):List (TypeId×Operand):=match o.op with
 | .call c=>c.argTypes.toList.zip c.args.toList
 |_=>[]
def TW (P:Program) (N:Nat) (o:Oper):Bool:=(match o.op with
 | .call c=>match c.callee with
  | .value (.func f)=>Nat.beq c.argTypes.size c.args.size&&(match P.funcs[f]? with
   | some fn => !(fn.name == "runtime.NumGoroutine") && !fn.body.isNone
   |none=>false)
  |_=>false
 |_=>false)&&(match o.dst with
 |some d=>Nat.blt d N
 |none=>true)
theorem Qr:∀{l:List (TypeId×Operand)} {m:Nat},(bits m l).map (λx=>x.2.2)=l.map Prod.snd
 |[],m=>rfl
 |(t,x)::l,m=>by simp only[bits,C6,Qr]
theorem Px {o:Oper} (h:TW P N o=true):∃args tys,o.op= .call {callee:= .value (.func<|Qo o),args:=args,argTypes:=tys}/\eQ P (Qo o)/\(∀d,o.dst=some d->d<N)/\(GG o).map Prod.snd=args.toList:=by
 simp only[TW,Ai]at h;obtain⟨h1,h2⟩:=h;have hN:∀d,o.dst=some d->d<N:=by
  intro d hd;simp_all
 unfold Qo GG;split at h1
 ·rename_i c hc;split at h1
  ·rename_i f a;rw[Ai]at h1;obtain⟨h3,h4⟩:=h1;split at h4
   ·rename_i fn b;simp only[Ai,D5]at h4;obtain⟨callee,args,types⟩:=c;simp only at a h3;subst a;have hz:=Bf h3;refine⟨args,types,by simp only[hc],?_,hN,?_⟩
    ·exact⟨fn,b,by grind,h4.2⟩
    exact List.map_snd_zip<|by simp[hz]
   cases h4
  cases h1
 cases h1
def mvA (P:Program) (E:St) (o:Oper) (m:Nat):Option (List (Option SV)×St):=Nh P E<|bits m<|GG o
def clE (P:Program) (E:St) (o:Oper) (m:Nat):St:=((mvA P E o m).map Prod.snd).getD E
def shA (P:Program) (E:St) (o:Oper) (m:Nat):Option (List AV×Bool):=match mvA P E o m with
 |some (ss,E1)=>Jp P E1 (bits m<|GG o) ss
 |none=>none
def dG (P:Program) (E:St) (o:Oper) (m:Nat):Option (List AV):=(shA P E o m).map Prod.fst
def shB (P:Program) (E:St) (o:Oper) (m:Nat):Bool:=match shA P E o m with
 |some (_,b)=>b
 |none=>false
theorem ABb {m:Nat} {o:Oper} {a:SV} (h:dG P E o m=some as) (hc:shB P E o m=true\/AN a=false):Zd P E o.dst (bits m (GG o)) as a ((clE P E o m).put o.dst a):=by
 unfold dG shB shA at*;unfold clE
 cases hm:mvA P E o m with
 |none=>grind
 |some z=>
  obtain⟨ss,E1⟩:=z;rw[hm]at h hc;simp only at h hc
  cases hs:Jp P E1 (bits m<|GG o) ss with
  |none=>grind
  |some y=>
   obtain⟨as',c⟩:=y;rw[hs]at h hc;simp only[By]at h hc
   injection h with h
   subst h;exact⟨ss,E1,c,hm,hs,hc,rfl⟩
theorem ca {γ:Type _} {l l':List γ} {a b:γ} (h:a=b) (k:l=l'):a::l=b::l':=by rw[h,k]
theorem cs {a b:List TV} (h:B5 a=b):TV.sl false e sz (B5 a)= .sl false e sz b:=by rw[h]
theorem co {a b:TV} (h:a=b):AV.sv (.one a)= .sv (.one b):=by rw[h]
theorem NM {a b:List TV} (h:a=b):AV.sv (.agg a)= .sv (.agg b):=by rw[h]
theorem RW.c {l:List AV} {x:Option α} (m:Nat) (h:x.bind kk=some r) {enc:α->SV} (a:∀v,x=some v->A3 P (Qo (oA ops i)) l (enc v) (List.replicate n .gone)) (hk:∀v,x=some v->kk v=some r->RW P N ops (i+1) ((clE P E (oA ops i) m).put (oA ops i).dst (enc v)) Q) (b:dG P E (oA ops i) m=some l:=by kernel_rfl) (hc:shB P E (oA ops i) m=true\/∀v,AN (enc v)=false:=by exact .inl<|by kernel_rfl) (ho:(RY P ops E i&&TW P N (oA ops i))=true:=by kernel_rfl):RW P N ops i E Q:=by
 obtain⟨v,hv,h⟩:=An.1 h;rw[Ai]at ho;obtain⟨h1,h2⟩:=HW ho.1;obtain⟨args,tys,h3,h4,h5,h6⟩:=Px ho.2;unfold RW;rw[GP h1];exact Hi.call h3 h4 h2 h5 (bits m<|GG<|oA ops i) (by rw[Qr,h6]) (a v hv) (ABb b<|hc.imp id λh=>h v)<|hk v hv h
section
variable {ts:List Nat}
theorem KB.c {l:List AV} {x:Option α} (m:Nat) (h:x.bind kk=some r) {enc:α->SV} (a:∀v,x=some v->A3 P (Qo (oA ops i)) l (enc v) (List.replicate n .gone)) (hk:∀v,x=some v->kk v=some r->KW P N ops ts (i::dn) ((clE P E (oA ops i) m).put (oA ops i).dst (enc v)) Q) (b:dG P E (oA ops i) m=some l:=by kernel_rfl) (hc:shB P E (oA ops i) m=true\/∀v,AN (enc v)=false:=by exact .inl<|by kernel_rfl) (ho:(RY P ops E i&&TW P N (oA ops i)&&((bits m<|GG<|oA ops i).all (λx=>!x.1)||ts.contains i))=true:=by kernel_rfl):KB P N ops ts dn i E Q:=by
 obtain⟨v,hv,h⟩:=An.1 h;simp only[Ai]at ho;obtain⟨h1,h2⟩:=HW ho.1.1;obtain⟨args,tys,h3,h4,h5,h6⟩:=Px ho.1.2;exact iU.call i (IY h1) h3 h4 h2 h5 (bits m<|GG<|oA ops i) (by rw[Qr,h6]) ho.2 (a v hv) (ABb b<|hc.imp id λh=>h v)<|hk v hv h
end
theorem gs {l l':List AV} {x:Option α} {enc:α->SV} (e:l=l') (h:∀v,x=some v->A3 P f l' (enc v) (List.replicate n .gone)):∀v,x=some v->A3 P f l (enc v) (List.replicate n .gone):=e▸h
def pK (E:St) (o:Oper):Root:=match GG o with
 |(_,x)::_=>(HE E x).1
 |[]=> .hand
def yJ (E:St) (o:Oper):Bool:=match GG o with
 |(_,x)::_=>(match E.ptr? x with
  |some (r,[],0)=>r.mem
  |_=>false)
 |[]=>false
def cxA (P:Program) (E:St) (o:Oper):Option (List AV×Bool):=Jp P (E.without<|pK E o) (bits 0 (GG o).tail)<|List.replicate (bits 0 (GG o).tail).length none
def yK (P:Program) (E:St) (o:Oper):Option (List AV):=(cxA P E o).map Prod.fst
def cxB (P:Program) (E:St) (o:Oper):Bool:=match cxA P E o with
 |some (_,b)=>b
 |none=>false
theorem ADn {o:Oper} (h:yJ E o=true):∃t x l,GG o=(t,x)::l/\E.ptr? x=some (pK E o,[],0)/\(pK E o).mem=true:=by
 unfold yJ at h;unfold pK;split at h
 ·rename_i t x l hl;split at h
  ·rename_i r hp;refine⟨t,x,l,hl,?_,?_⟩
   ·simp only[HE,hp,AT]
   simpa only[HE,hp,AT]using h
  cases h
 cases h
theorem ABd {o:Oper} (h:yK P E o=some as) (hc:cxB P E o=true\/p):∃c,Jp P (E.without (pK E o)) (bits 0 (GG o).tail) (List.replicate (bits 0 (GG o).tail).length none)=some (as,c)/\(c=true\/p):=by
 unfold yK cxB at*
 cases hs:cxA P E o with
 |none=>grind
 |some y=>
  obtain⟨as',c⟩:=y;rw[hs]at h hc;simp only[By]at h hc
  injection h with h
  subst h;exact⟨c,hs,hc⟩
theorem AEZ {l:List AV} {x:Option α} (h:x.bind kk=some r) {enc:α->SV} {b:List TV} (e:∀v,x=some v->A3 P (Qo (oA ops i)) (.ext b::l) (enc v) (.ext (fin v)::List.replicate n .gone)) (d:∀v,(fin v).length=b.length) (hk:∀v,x=some v->kk v=some r->RW P N ops (i+1) (((E.setRoot (pK E (oA ops i)) (fin v)).bump (pK E (oA ops i))).put (oA ops i).dst (enc v)) Q) (f:yK P E (oA ops i)=some l:=by kernel_rfl) (hb:E.boxes (pK E<|oA ops i)=some b:=by kernel_rfl) (hc:cxB P E (oA ops i)=true\/∀v,AN (enc v)=false/\Ay (fin v)=false:=by exact .inl<|by kernel_rfl) (ho:(RY P ops E i&&TW P N (oA ops i)&&yJ E (oA ops i))=true:=by kernel_rfl):RW P N ops i E Q:=by
 obtain⟨v,hv,h⟩:=An.1 h;simp only[Ai]at ho;obtain⟨h1,h2⟩:=HW ho.1.1;obtain⟨args,tys,h3,h4,h5,h6⟩:=Px ho.1.2;obtain⟨t,x0,l0,h7,h8,h9⟩:=ADn ho.2;obtain⟨c,h10,h11⟩:=ABd f hc;unfold RW;rw[GP h1];intro w0 FA UA w a blk FS US hr hF hU;simp only[wpList,Cl hr h2,Ce];refine .inl<|pR hr hF hU h3 h4 h5 (x:=x0) (l:=bits 0 (GG<|oA ops i).tail) ?_ h9 h8 hb (d v) h10 (h11.imp id λh=>h v) (e v hv) λw' v' blk' FS' US' k1 k2 k3=>hk v hv h _ _ _ _ _ _ _ _ k1 k2 k3;rw[Qr,<-h6,h7];rfl
theorem AE1 {ts:List Nat} {l:List AV} {x:Option α} (h:x.bind kk=some r) {enc:α->SV} {b:List TV} (e:∀v,x=some v->A3 P (Qo (oA ops i)) (.ext b::l) (enc v) (.ext (fin v)::List.replicate n .gone)) (d:∀v,(fin v).length=b.length) (hk:∀v,x=some v->kk v=some r->KW P N ops ts (i::dn) (((E.setRoot (pK E (oA ops i)) (fin v)).bump (pK E (oA ops i))).put (oA ops i).dst (enc v)) Q) (f:yK P E (oA ops i)=some l:=by kernel_rfl) (hb:E.boxes (pK E<|oA ops i)=some b:=by kernel_rfl) (hc:cxB P E (oA ops i)=true\/∀v,AN (enc v)=false/\Ay (fin v)=false:=by exact .inl<|by kernel_rfl) (ho:(RY P ops E i&&TW P N (oA ops i)&&yJ E (oA ops i)&&ts.contains i)=true:=by kernel_rfl):KB P N ops ts dn i E Q:=by
 obtain⟨v,hv,h⟩:=An.1 h;simp only[Ai]at ho;obtain⟨h1,h2⟩:=HW ho.1.1.1;obtain⟨args,tys,h3,h4,h5,h6⟩:=Px ho.1.1.2;obtain⟨t,x0,l0,h7,h8,h9⟩:=ADn ho.1.2;obtain⟨c,h10,h11⟩:=ABd f hc;intro w0 FA UA w a blk FS US hr hF hU;unfold wpOp;simp only[IY h1,Cl hr h2,Ce];refine .inl (pR hr hF hU h3 h4 h5 (x:=x0) (l:=bits 0 (GG<|oA ops i).tail) ?_ h9 h8 hb (d v) h10 (h11.imp id λh=>h v) (e v hv) λw' v' blk' FS' US' k1 k2 k3=>⟨λht=>(by grind),_,_,_,_,hk v hv h,k1,k2,k3⟩);rw[Qr,<-h6,h7];rfl
theorem wc {b:Bool} {c:Operand} {x y:Code} (h:(bif b then tx else ty)=some r) (ht:tx=some r->Wp P N x E Q) (hf:ty=some r->Wp P N y E Q) (hc:E.cell1 P 0 c=some (.bool b):=by kernel_rfl):Wp P N (.cond c x y) E Q:=Wp.c h ht hf hc
theorem wt {c:Operand} {x y:Code} (ht:Wp P N x E Q) (hc:E.cell1 P 0 c=some (.bool true):=by kernel_rfl):Wp P N (.cond c x y) E Q:=AEV ht hc
theorem wf {c:Operand} {x y:Code} (hf:Wp P N y E Q) (hc:E.cell1 P 0 c=some (.bool false):=by kernel_rfl):Wp P N (.cond c x y) E Q:=AEW hf hc
theorem rsz {rs:List ResultVar} {a:SV} (h:(DU P E rs).map (λz=>EJ z.1)=some a):∃ss E',DU P E rs=some (ss,E')/\EJ ss=a:=by simp_all
theorem rsx {rt:Root} {rs:List ResultVar} {b:SV} {a:List TV} (h:(DU P E rs).map (λz=>(EJ z.1,z.2.boxes rt))=some (b,some a)):∃ss E',DU P E rs=some (ss,E')/\EJ ss=b/\E'.boxes rt=some a:=by simp_all
theorem gkx {c:Code} {a cells':List TV} {b:SV} (hf:P.funcs[f]?=some fn) (hb:fn.body=some c) (hN:fn.ntmps=N) (h:Wp P N c (D8 (.ext a::as)) λe E=>(e= .normal\/e= .ret)/\∃ss E',DU P E fn.results.toList=some (ss,E')/\EJ ss=b/\E'.boxes (.ext 0)=some cells') (d:cells'.isEmpty=false:=by rfl):A3 P f (.ext a::as) b (.ext cells'::List.replicate as.length .gone):=yE hf hb (by rw[hN];exact h) d
theorem gk {c:Code} {a:SV} (hf:P.funcs[f]?=some fn) (hb:fn.body=some c) (hN:fn.ntmps=N) (h:Wp P N c (D8 as) λe E=>(e= .normal\/e= .ret)/\∃ss E',DU P E fn.results.toList=some (ss,E')/\EJ ss=a):A3 P f as a (List.replicate as.length .gone):=AA3 hf hb (by rw[hN];exact h)
theorem rF:∀t:TV,(Mw t).isSl=t.isSl:=by intro t;cases t<;>rfl
theorem K3:∀(cs:List TV) (j:Nat),(B5 cs)[j]?=cs[j]?.map Mw
 |[],j=>by simp[B5]
 |t::ts,0=>by simp[B5]
 |t::ts,j+1=>by simpa[B5]using K3 ts j
theorem Yj:∀(q:List Nat) (cs:List TV),BL (B5 cs) q=(BL cs q).map B5
 |[],cs=>rfl
 |c::q,cs=>by
  simp only[BL,K3]
  cases cs[c]? with
  |none=>rfl
  |some t=>
   cases t with
   |sl o e sz cells=>exact Yj q cells
   |_=>rfl
def sZ:TV->List TV->TV
 | .sl _ e s _,row=> .sl false e s row
 |t,_=>t
def bL (cs:List TV) (j:Nat) (a:List TV):List TV:=match cs[j]? with
 |some t=>cs.set j<|sZ t a
 |none=>cs
theorem lS {s:Nat} {cs:List TV} {a:List TV} (h:cs[j]?=some (.sl true e s a)) (c:Nat):(bL cs j (B5 a))[c]?=if c=j then some (.sl false e s (B5 a))else cs[c]? :=by
 have hj:=(Af.1 h).1;simp only[bL,h,sZ]
 grind
theorem AA7 {s:Nat} {r1:List TV} {cs:List TV} {a:List TV} (h:cs[j]?=some (.sl true e s a)) (hq:BL cs q=some r1) (i:Nat):
  ∃r2,BL (bL cs j (B5 a)) q=some r2/\(r1[i]?.isSome=true->r2[i]?.isSome=true)/\(Ls r1[i]?=true->Ls r2[i]?=true):=by
 cases q with
 |nil=>
  simp only[BL]at hq
  injection hq with hq
  subst hq;refine⟨_,rfl,?_,?_⟩
  ·rw[lS h]
   grind
  rw[lS h];split
  ·intro _;rfl
  exact id
 |cons c q=>
  simp only[BL,lS h];simp only[BL]at hq;by_cases hc:c=j
  ·subst hc;rw[h]at hq;simp only at hq;rw[AG rfl];simp only[Yj,hq,By];refine⟨_,rfl,?_,?_⟩
   ·rw[K3];simp
   rw[K3]
   cases r1[i]? with
   |none=>exact id
   |some t=>simp only[Ls,By,rF];exact id
  grind
theorem ZV:∀{ts:List TV} {vs:List Value} {F U:List Nat} {j:Nat} {t:TV},Bo w ts vs F U->ts[j]?=some t->F.Nodup->(∀v F1 U1,Cx w t v F1 U1->∃F2 U2,Cx w t' v F2 U2/\Jn F1 U1 F2 U2)->
  ∃F' U',Bo w (ts.set j t') vs F' U'/\Jn F U F' U'
 |[],vs,F,U,j,t,h,hj,_,_=>by simp at hj
 |x::ts,vs,F,U,0,t,h,hj,hn,hk=>by
  simp at hj;subst hj;simp only[Bo]at h;obtain⟨v,a,F1,F2,U1,U2,rfl,rfl,rfl,h1,h2⟩:=h;obtain⟨F1',U1',a1,a2⟩:=hk v F1 U1 h1;exact⟨F1'++F2,U1'++U2,by simp only[Ev,Bo];grind,T3 hn a2 Jn.refl⟩
 |x::ts,vs,F,U,j+1,t,h,hj,hn,hk=>by
  simp only[Bo]at h;obtain⟨v,a,F1,F2,U1,U2,rfl,rfl,rfl,h1,h2⟩:=h;obtain⟨F2',U2',a1,a2⟩:=ZV h2 (by simpa using hj) (CL.1 hn).2.1 hk;exact⟨F1++F2',U1++U2',by simp only[NO,Bo];grind,T3 hn Jn.refl a2⟩
theorem cA {a:Act} {blk:Root->Nat}:∀{ts:List TV} {vs:List Value} {F U:List Nat} {j:Nat} {t:TV},CO w a E blk ts vs F U->ts[j]?=some t->F.Nodup->(∀v F1 U1,CN w a E blk t v F1 U1->∃F2 U2,CN w a E blk t' v F2 U2/\Jn F1 U1 F2 U2)->
  ∃F' U',CO w a E blk (ts.set j t') vs F' U'/\Jn F U F' U'
 |[],vs,F,U,j,t,h,hj,_,_=>by simp at hj
 |x::ts,vs,F,U,0,t,h,hj,hn,hk=>by
  simp at hj;subst hj;obtain⟨v,b,F1,F2,U1,U2,rfl,rfl,rfl,h1,h2⟩:=h;obtain⟨F1',U1',a1,a2⟩:=hk v F1 U1 h1;exact⟨F1'++F2,U1'++U2,by rw[Ev];exact⟨v,b,F1',F2,U1',U2,rfl,rfl,rfl,a1,h2⟩,T3 hn a2 Jn.refl⟩
 |x::ts,vs,F,U,j+1,t,h,hj,hn,hk=>by
  obtain⟨v,b,F1,F2,U1,U2,rfl,rfl,rfl,h1,h2⟩:=h;obtain⟨F2',U2',a1,a2⟩:=cA h2 (by simpa using hj) (CL.1 hn).2.1 hk;exact⟨F1++F2',U1++U2',by rw[NO];exact⟨v,b,F1,F2',U1,U2',rfl,rfl,rfl,h1,a1⟩,T3 hn Jn.refl a2⟩
def frE (E:St) (r:Root) (j:Nat) (a:List TV):St:=match E.root r with
 |some cs=>E.setRoot r<|bL cs j a
 |none=>E
theorem sW {a:Act} {r:Root} {s:Nat} {cs:List TV} {b:List TV} (hr:E.root r=some cs) (hj:cs[j]?=some (.sl true e s b)) (hh:r≠ .hand) (R:Root):Cp w w a a E (E.setRoot r (bL cs j (B5 b))) blk blk R:=by
 have d:(E.setRoot r<|bL cs j<|B5 b).ver=E.ver:=by cases r<;>rfl
 have f:(E.setRoot r<|bL cs j<|B5 b).gen=E.gen:=by cases r<;>rfl
 have g:(bL cs j<|B5 b).length=cs.length:=by simp[bL,hj]
 have c:∀cs0,E.root R=some cs0->∃cs1,(E.setRoot r<|bL cs j<|B5 b).root R=some cs1/\∀q r1,BL cs0 q=some r1->∀i:Nat,∃r2,BL cs1 q=some r2/\(r1[i]?.isSome=true->r2[i]?.isSome=true)/\(Ls r1[i]?=true->Ls r2[i]?=true):=by
  intro cs0 h0;by_cases hR:R=r
  ·subst hR;rw[hr]at h0
   injection h0 with h0
   subst h0;refine⟨bL cs j<|B5 b,?_,λq r1 hq i=>AA7 hj hq i⟩
   cases R with
   |slot n=>
    simp only[St.root,St.setRoot,Cg,Ce]at hr⊢
    injection hr with hr
    congr 1
    cases hs:E.slots n with
    |one t=>
     rw[hs]at hr;simp only[SV.cells]at hr;subst hr;have:(bL [t] j<|B5 b).length=1:=g
     match hf:bL [t] j (B5 b),this with
     |[x],_=>rfl
    |agg ts=>rfl
    |tup ss=>
     rw[hs]at hr;simp only[SV.cells]at hr
     grind
   |box n=>simp[St.root,St.setRoot,Cg]
   |ext n=>simp[St.root,St.setRoot,Cg]
   |hand=>exact absurd rfl hh
  refine⟨cs0,?_,λq r1 hq i=>⟨r1,hq,id,id⟩⟩;rw[<-h0];cases r<;>cases R<;>simp only[St.root,St.setRoot,Cg]<;>first
   |exact absurd rfl hh
   |rfl
   |grind
   |(rw[AH];intro e;injection e with e;exact hR<|by rw[e])
   |(rw[AH];intro e;cases e)
 constructor
 ·refine .inr ⟨by rw[d],λq i v h1 h2=>⟨h1,?_⟩,λq i ad hq h1 h2=>⟨h1,?_⟩⟩
  ·unfold St.place at h2⊢
   cases h0:E.root R with
   |none=>rw[h0]at h2;cases h2
   |some cs0=>
    rw[h0]at h2;obtain⟨cs1,k1,k2⟩:=c cs0 h0;simp only[Aa]at h2
    cases hc:BL cs0 q with
    |none=>rw[hc]at h2;cases h2
    |some r1=>
     rw[hc]at h2;obtain⟨r2,k3,_,k4⟩:=k2 q r1 hc i
     grind
  unfold St.place at h2⊢
  cases h0:E.root R with
  |none=>grind
  |some cs0=>
   rw[h0]at h2;obtain⟨cs1,k1,k2⟩:=c cs0 h0;simp only[Aa]at h2
   cases hc:BL cs0 q with
   |none=>grind
   |some r1=>
    rw[hc]at h2;obtain⟨r2,k3,k4,_⟩:=k2 q r1 hc i
    grind
 refine .inr ⟨by rw[f],λi ad h1 h2=>⟨h1,?_⟩⟩;unfold St.place at h2⊢
 cases h0:E.root R with
 |none=>grind
 |some cs0=>
  rw[h0]at h2;obtain⟨cs1,k1,k2⟩:=c cs0 h0;simp only[Aa]at h2;obtain⟨r2,k3,k4,_⟩:=k2 [] cs0 rfl i;rw[k1];simp only[Aa,k3];exact k4 h2
section
variable {w0:Base} {a:Act}
theorem CF.freeze {r:Root} {s:Nat} (h:CF w0 FA UA N w a E blk FS US) {cs:List TV} {c:List TV} (hr:E.root r=some cs) (hj:cs[j]?=some (.sl true e s c)) (hh:r≠ .hand):
  ∃FS' US',CF w0 FA UA N w a (E.setRoot r (bL cs j (B5 c))) blk FS' US'/\FS' .hand=FS .hand/\US' .hand=US .hand:=by
 have u:=sW (w:=w) (a:=a) (blk:=blk) hr hj hh;have i:bL cs j (B5 c)=cs.set j (.sl false e s<|B5 c):=by simp only[bL,hj,sZ]
 have l:∀v F1 U1,Cx w (.sl true e s c) v F1 U1->∃F2 U2,Cx w (.sl false e s<|B5 c) v F2 U2/\Jn F1 U1 F2 U2:=λv F1 U1 h1=>ADH h1<|yY.s rfl
 have x:∃F' U',Jn (FS r) (US r) F' U'/\(∀n,r= .slot n->E8 w a (E.setRoot r<|bL cs j<|B5 c) blk ((E.slots n).withCells<|bL cs j<|B5 c) (a.eval<|.tmp n) F' U')/\
   (r.mem=true->∃d T F,w.heap[blk r]?=some (.cells d T (0,0))/\Bo w (bL cs j<|B5 c) d.toList F U'/\F'=blk r::F):=by
  cases r with
  |slot n=>
   simp only[St.root]at hr
   injection hr with hr
   have hs:=Ik u (h.slot n) (λ_ _=>rfl) λ_ _=>rfl
   cases f:E.slots n with
   |one t=>
    rw[f]at hr hs;simp only[SV.cells]at hr;subst hr;have y:j=0:=by grind
    subst y;simp at hj;subst hj;simp only[E8]at hs;obtain⟨F2,U2,k1,k2⟩:=l _ _ _ hs.1;refine⟨F2,U2,k2,λm hm=>?_,λhm=>by cases hm⟩
    injection hm with hm
    subst hm;rw[f,i];simp only[Ev,SV.withCells,E8];exact⟨k1,λ_=>hs.2 rfl⟩
   |agg ts=>
    rw[f]at hr hs;simp only[SV.cells]at hr;subst hr;simp only[E8]at hs;obtain⟨vs,k0,k1⟩:=hs;obtain⟨F2,U2,k2,k3⟩:=cA (t':= .sl false e s (B5 c)) k1 hj (h.nodup _) l;refine⟨F2,U2,k3,λm hm=>?_,λhm=>by cases hm⟩
    injection hm with hm
    subst hm;rw[f,i];simp only[SV.withCells,E8]
    grind
   |tup ss=>
    rw[f]at hr;simp only[SV.cells]at hr
    grind
  |hand=>exact absurd rfl hh
  |box n=>
   rcases h.box (.box n) rfl with⟨k,_⟩|⟨cs0,d,T,F,k1,k2,k3,k4⟩
   ·simp only[St.root]at hr;grind
   simp only[St.root]at hr;rw[k1]at hr
   injection hr with hr
   subst hr;have g:=h.nodup<|.box n;rw[k4]at g;obtain⟨z,o⟩:=CY.1 g;obtain⟨F2,U2,k5,k6⟩:=ZV (t':= .sl false e s (B5 c)) k3 hj o l;refine⟨blk (.box n)::F2,U2,?_,λm hm=>(by cases hm),λ_=>⟨d,T,F2,k2,by rw[i];exact k5,rfl⟩⟩;rw[k4];refine⟨k6.1.cons_cons _,λb hb=>?_⟩
   rcases k6.2 b hb with q|⟨q1,q2⟩
   ·exact .inl q
   grind
  |ext n=>
   rcases h.box (.ext n) rfl with⟨k,_⟩|⟨cs0,d,T,F,k1,k2,k3,k4⟩
   ·simp only[St.root]at hr;grind
   simp only[St.root]at hr;rw[k1]at hr
   injection hr with hr
   subst hr;have g:=h.nodup<|.ext n;rw[k4]at g;obtain⟨z,o⟩:=CY.1 g;obtain⟨F2,U2,k5,k6⟩:=ZV (t':= .sl false e s (B5 c)) k3 hj o l;refine⟨blk (.ext n)::F2,U2,?_,λm hm=>(by cases hm),λ_=>⟨d,T,F2,k2,by rw[i];exact k5,rfl⟩⟩;rw[k4];refine⟨k6.1.cons_cons _,λb hb=>?_⟩
   rcases k6.2 b hb with q|⟨q1,q2⟩
   ·exact .inl q
   grind
 obtain⟨F',U',hl,h0,h2⟩:=x
 have p:∀b∈F',b∈FS r:=λb hb=>hl.1.subset hb
 refine⟨Cg FS r F',Cg US r U',?_,by rw[Bq λe=>hh e.symm],by rw[Bq λe=>hh e.symm]⟩;have hF:∀R b,b∈Cg FS r F' R->b∈FS R:=by
  intro R b hb;by_cases hR:R=r
  ·subst hR;rw[BQ]at hb;exact p b hb
  rw[Bq hR]at hb;exact hb
 have hU:∀R b,b∈Cg US r U' R->b∈US R\/(R=r/\b∈FS r/\b∉F'):=by
  intro R b hb;by_cases hR:R=r
  ·subst hR;rw[BQ]at hb
   rcases hl.2 b hb with q|⟨q1,q2⟩
   ·exact .inl q
   grind
  rw[Bq hR]at hb;exact .inl hb
 constructor
 ·intro n;by_cases hn:r= .slot n
  ·subst hn;rw[BQ,BQ];have:=h0 n rfl;simpa only[St.setRoot,Cg,Ce]using this
  rw[Bq λe=>hn e.symm,Bq λe=>hn e.symm];have h1:(E.setRoot r<|bL cs j<|B5 c).slots n=E.slots n:=by
   cases r with
   |slot m=>
    simp only[St.setRoot,Cg]
    grind
   |_=>rfl
  rw[h1];exact Ik u (h.slot n) (λ_ _=>rfl) λ_ _=>rfl
 ·intro R hm;by_cases hR:R=r
  ·subst hR;right;obtain⟨d,T,F,k1,k2,k3⟩:=h2 hm;refine⟨_,d,T,F,?_,k1,by rw[BQ];exact k2,by rw[BQ,k3]⟩
   cases R with
   |slot n=>cases hm
   |hand=>cases hm
   |box n=>simp[St.setRoot,Cg]
   |ext n=>simp[St.setRoot,Cg]
  rw[Bq hR,Bq hR];have h1:(E.setRoot r<|bL cs j<|B5 c).boxes R=E.boxes R:=by
   cases r<;>simp only[St.setRoot,Cg]<;>first
    |rfl
    |(rw[AH hR])
  rw[h1];exact h.box R hm
 ·have:(E.setRoot r<|bL cs j<|B5 c).boxes .hand=E.boxes .hand:=by
   cases r<;>simp only[St.setRoot,Cg]<;>first
    |exact absurd rfl hh
    |rfl
    |(rw[AH<|by simp])
  rw[this];exact h.nohand
 ·intro R;by_cases hR:R=r
  ·subst hR;rw[BQ];exact hl.1.nodup<|h.nodup R
  rw[Bq hR];exact h.nodup R
 ·exact λR S h3 b hb hb'=>h.dis R S h3 b (hF R b hb)<|hF S b hb'
 ·intro R S b hb hb'
  rcases hU S b hb' with q|⟨rfl,q1,q2⟩
  ·exact h.disU R S b (hF R b hb) q
  by_cases hR:R=S
  ·subst hR;rw[BQ]at hb;exact q2 hb
  exact h.dis R S hR b (hF R b hb) q1
 ·exact λR b hb=>h.inF R b<|hF R b hb
 ·intro R b hb
  rcases hU R b hb with q|⟨rfl,q1,_⟩
  ·exact h.inU R b q
  obtain⟨q2,q3⟩:=h.inF R b q1
  grind
 ·exact h.disA
 ·exact h.os
 ·exact h.tape
 ·exact h.output
 ·exact h.size
 ·exact h.keep
 ·exact h.len
 ·exact h.nodef
 ·exact h.xblk
 ·rw[EM];exact h.ambB
 ·rw[EM];exact h.ambI
 ·rw[Im];exact h.frz
 ·exact h.ambF
 rw[EM];exact h.pin
end
theorem AA9 {r:Root} (h:S5 E r j=some row):∃cs e s,E.root r=some cs/\cs[j]?=some (.sl true e s row)/\frE E r j (B5 row)=E.setRoot r (bL cs j (B5 row)):=by
 obtain⟨cs,e,s,h1,h2,_⟩:=S4 h;exact⟨cs,e,s,h1,h2,by unfold frE;rw[h1]⟩
def YS:Root->Bool
 | .hand=>false
 |_=>true
theorem UR {r:Root} (h:YS r=true):r≠ .hand:=by rintro rfl;cases h
theorem RW.fz (r:Root) (j:Nat) (hs:B5 row=row') (h:RW P N ops i (frE E r j row') Q) (ho:S5 E r j=some row:=by kernel_rfl) (hh:YS r=true:=by rfl):RW P N ops i E Q:=by
 intro w0 FA UA w a blk FS US hr hF hU;obtain⟨cs,e,s,h1,h2,h3⟩:=AA9 ho;obtain⟨FS',US',k1,k2,k3⟩:=hr.freeze h1 h2<|UR hh;rw[<-hs,h3]at h;exact h _ _ _ _ _ _ _ _ k1 (by rw[k2,hF])<|by rw[k3,hU]
theorem KW.fz {ts:List Nat} (r:Root) (j:Nat) (hs:B5 row=row') (h:KW P N ops ts dn (frE E r j row') Q) (ho:S5 E r j=some row:=by kernel_rfl) (hh:YS r=true:=by rfl):KW P N ops ts dn E Q:=by
 intro hq hc w0 FA UA w a blk FS US hr hF hU;obtain⟨cs,e,s,h1,h2,h3⟩:=AA9 ho;obtain⟨FS',US',k1,k2,k3⟩:=hr.freeze h1 h2<|UR hh;rw[<-hs,h3]at h;exact h hq hc _ _ _ _ _ _ _ _ k1 (by rw[k2,hF])<|by rw[k3,hU]
theorem Wp.fz {c:Code} (r:Root) (j:Nat) (hs:B5 row=row') (h:Wp P N c (frE E r j row') Q) (ho:S5 E r j=some row:=by kernel_rfl) (hh:YS r=true:=by rfl):Wp P N c E Q:=by
 intro w0 FA UA w a blk FS US hr hF hU;obtain⟨cs,e,s,h1,h2,h3⟩:=AA9 ho;obtain⟨FS',US',k1,k2,k3⟩:=hr.freeze h1 h2<|UR hh;rw[<-hs,h3]at h;exact h _ _ _ _ _ _ _ _ k1 (by rw[k2,hF])<|by rw[k3,hU]
def St.fzs (E:St) (f:Option Nat):St:={E with fz:=f}
theorem rA {a:Act} {f:Option Nat} (r:Root):Cp w w a a E (E.fzs f) blk blk r:=by
 have hp:∀q j,(E.fzs f).place r q j=E.place r q j:=λq j=>by cases r<;>rfl
 exact⟨.inr ⟨rfl,λq j v h1 h2=>⟨h1,by rw[hp];exact h2⟩,λq j ad _ h1 h2=>⟨h1,by rw[hp];exact h2⟩⟩,.inr ⟨rfl,λj ad h1 h2=>⟨h1,by rw[hp];exact h2⟩⟩⟩
theorem CF.fzs {w0:Base} {a:Act} (h:CF w0 FA UA N w a E blk FS US) (f:Option Nat) (hf:∀n,f=some n->Frz w0 a n):CF w0 FA UA N w a (E.fzs f) blk FS US where
 slot:=λn=>Ik rA (h.slot n) (λ_ _=>rfl) λ_ _=>rfl
 box:=h.box
 nohand:=h.nohand
 nodup:=h.nodup
 dis:=h.dis
 disU:=h.disU
 inF:=h.inF
 inU:=h.inU
 disA:=h.disA
 os:=h.os
 tape:=h.tape
 output:=h.output
 size:=h.size
 keep:=h.keep
 len:=h.len
 nodef:=h.nodef
 xblk:=h.xblk
 ambB:=h.ambB
 ambI:=h.ambI
 frz:=hf
 ambF:=h.ambF
 pin:=h.pin
theorem vF (n:Nat):(2*n+1)/2=n:=by omega
theorem vE (n:Nat):¬(2*n+1) %2=0:=by omega
def ACC (o:Oper):Bool:=match o.op with
 | .buildSlice t len parts=>Nat.beq len 0&&Nat.beq parts.size 0
 |_=>false
theorem ADE {a:Act} {nx:Next} {w':World} {o:Oper} (hb:ACC o=true) (hd:o.dst=some d) (hN:d<N) (hs:C0 P N false E o=some E') (hr:(execOp a.eval o).run P w= .ok nx w'):∃B,nx= .value (.slice B 0 0):=by
 unfold ACC at hb;split at hb
 ·rename_i t len parts ho;rw[Ai]at hb;have h1:=Bf hb.1;have h2:=Bf hb.2;subst h1;have h3:parts= #[]:=Array.eq_empty_of_size_eq_zero h2;subst h3;simp only[C0,hd,AG hN,ho,Mt]at hs;split at hs
  ·rename_i e hu;split at hs
   ·rename_i zs ss hz b;obtain⟨i,z,hi,c,f,g⟩:=Ka (w:=w) hz;simp[execOp,ho,Instr.buildSlice,run_underlying hu,sizeOf,typeInfo,hi,newRow,Instr.fill]at hr
    grind
   cases hs
  cases hs
 cases hb
def zU (x:Operand):Nat:=match x with
 | .tmp n=>n
 |_=>0
theorem tW {ts:List Nat} (h:KW P N ops ts (i::dn) (((C0 P N false E (oA ops i)).getD E).fzs (some (2*((oA ops i).dst.getD 0)+1))) Q) (hs:(C0 P N false E (oA ops i)).isSome=true:=by kernel_rfl) (hk:(RY P ops E i&&ACC (oA ops i)&&G7 N (oA ops i))=true:=by kernel_rfl):KB P N ops ts dn i E Q:=by
 have hs':=getD_some (a:=E) hs;generalize hE:(C0 P N false E<|oA ops i).getD E=E' at h hs';simp only[Ai]at hk;obtain⟨h1,h2⟩:=HW hk.1.1;obtain⟨d,h3,_,h4⟩:=ES hk.2;rw[h3]at h;simp only[AT]at h;have b:kp (oA ops i)=true:=by
  have:=hk.1.2;unfold ACC at this;unfold kp
  grind
 intro w0 FA UA w a blk FS US hr hF hU;unfold wpOp;simp only[IY h1,Cl hr h2,Ce];obtain⟨nx,w',v,blk',FS',US',k1,k2,k3,k4,k5,k6⟩:=Sf hr hF hU hs';obtain⟨B,hB⟩:=ADE (N:=N) hk.1.2 h3 h4 hs' k1;have hv:v= .slice B 0 0:=by grind
 refine .inl ?_;unfold Oper.wp;rw[k1,hB];refine⟨λ_=>k6 b,_,blk',FS',US',h,?_,k4,k5⟩;rw[hv]at k3;refine k3.fzs _ λn hn=>?_
 injection hn with hn
 subst hn;unfold Frz;rw[AH<|vE d,vF d,h3];refine⟨B,?_⟩;have:=k3.len;simp only[Act.eval,Act.put];rw[E7];have hl:=hr.len
 grind
theorem KB.a {ts:List Nat} (hs:C0 P N false E (oA ops i)=some E') (h:KW P N ops ts (i::dn) (E'.fzs none) Q) (hk:(RY P ops E i&&AAX (oA ops i)&&Nat.beq (ET (oA ops i)).1 (ET (oA ops i)).2.1&&G7 N (oA ops i))=true:=by kernel_rfl) (hx:(ET<|oA ops i).2.2.1= .tmp (zU (ET<|oA ops i).2.2.1):=by kernel_rfl) (hz:E.fz=some (2*zU (ET<|oA ops i).2.2.1+1):=by kernel_rfl):KB P N ops ts dn i E Q:=by
 simp only[Ai]at hk;obtain⟨⟨⟨h0,h5⟩,h6⟩,h7⟩:=hk;obtain⟨h1,h2⟩:=HW h0;obtain⟨d,h3,_,h4⟩:=ES h7;have c:=Bf h6;have ho:=kR h5;rw[<-c]at ho;intro w0 FA UA w a blk FS US hr hF hU;unfold wpOp;simp only[IY h1,Cl hr h2,Ce];have he:NY P E d (ET<|oA ops i).1 (ET<|oA ops i).2.2.1 (ET<|oA ops i).2.2.2=some E':=by
  unfold C0 at hs
  grind
 obtain⟨nx,w',v,blk',FS',US',k1,k2,k3,k4,k5,_,k6⟩:=WE hr hF hU ho h3 h4 he;have b:=hr.frz _ hz;unfold Frz at b;rw[AH<|vE _,vF,<-hx]at b;obtain⟨B,hB⟩:=b;refine .inl ?_;unfold Oper.wp;rw[k1]
 rcases k2 with rfl|⟨rfl,rfl⟩
 ·exact⟨λ_=>k6 B hB,_,blk',FS',US',h,k3.fzs none (λn hn=>by cases hn),k4,k5⟩
 exact⟨λ_=>k6 B hB,_,blk',FS',US',h,k3.fzs none (λn hn=>by cases hn),k4,k5⟩
def rm (k:IntKind) (a b:Int):Option Int:=if b=0 then none else some<|a.tmod b
def ban (k:IntKind) (a b:Int):Int:=k.wrap (BitVec.ofInt k.bits a&&&BitVec.ofInt k.bits b).toNat
def bxo (k:IntKind) (a b:Int):Int:=k.wrap (BitVec.ofInt k.bits a^^^BitVec.ofInt k.bits b).toNat
def ADb (P:Program) (E:St) (o:Oper) (k:IntKind) (q:Bool):Option (Int×Int):=match o.op with
 | .binOp op t x y _=>bif(match op with| .rem=>!q| .quo=>q|_=>false)then(match E.cell1 P t x,E.cell1 P t y with
  |some (.int k' a),some (.int k'' b)=>bif decide (k'=k)&&decide (k''=k)then some (a,b)else none
  |_,_=>none)else none
 |_=>none
theorem prm {o:Oper} {k:IntKind} {a b v:Int} (hx:rm k a b=some v) (hc:ADb P E o k false=some (a,b):=by kernel_rfl):AW P E o=some (.one<|.int k v):=by
 unfold ADb at hc;split at hc
 ·rename_i op t x y t' ho;cases op<;>simp only[AQ,Ae,Ac,reduceCtorEq]at hc;split at hc
  ·rename_i k' a' k2 b' h1 h2
   cases hk:(decide (k'=k)&&decide (k2=k))with
   |false=>grind
   |true=>
    rw[hk]at hc;simp only[Ae]at hc
    injection hc with hc
    injection hc with hc1 hc2
    rw[Ai]at hk;have e1:=OH hk.1;have e2:=OH hk.2;subst hc1 hc2 e1 e2;unfold rm at hx;split at hx
    ·cases hx
    rename_i hb
    injection hx with hx
    subst hx;simp only[AW,ho,h1,h2,Xy,Ce,Yo,AAY,AH hb,By]
  cases hc
 cases hc
def mQ (P:Program) (f:FuncId) (as:List AV) (a:List TV):Prop:=∀(w:World) (vs:List Value) (FA UA:List Nat),Lj w as vs FA UA->FA.Nodup->(∀b∈FA,b∉UA)->(∀b∈FA++UA,b<w.heap.size)->
  Calls P f vs.toArray w λe w'=>∃v F U G V,e= .returned v/\ABE w w' FA UA (.tup []) [.ext a] [v] (.tuple #[]) F U G V
theorem gkp {c:Code} {cells:List TV} (hf:P.funcs[f]?=some fn) (hb:fn.body=some c) (hN:fn.ntmps=N) (h:Wp P N c (D8 as) λe E=>(e= .normal\/e= .ret)/\∃t r,fn.results.toList=[.tmp t]/\E.ptr? (.tmp t)=some (r,[],0)/\r.mem=true/\E.boxes r=some cells) (l:cells.isEmpty=false:=by rfl):mQ P f as cells:=by
 subst hN;intro w vs FA UA ha m j o;obtain⟨blk,FS,US,hr,hF,hU⟩:=Tf (N:=fn.ntmps) ha m j o (A:=RV.none) (fz:=none) trivial (λb hb=>by cases hb);refine calls_of_wp hf hb<|wp_mono (h _ _ _ _ _ _ _ _ hr hF hU) ?_;rintro e a w' ⟨E,blk',FS',US',⟨he,t,r,h1,h2,h3,h4⟩,k3,h5,h6⟩;obtain⟨u,ad,d,p⟩:=KJ k3 h2;have s:ad=⟨blk' r,0,none⟩:=by
  cases r with
  |slot n=>cases h3
  |hand=>cases h3
  |box n=>simp only[pa]at d;injection d with d;rw[<-d];simp[Addr.add]
  |ext n=>simp only[pa]at d;injection d with d;rw[<-d];simp[Addr.add]
 obtain⟨g,T,F3,b2,b3,b4⟩:∃g T F3,w'.heap[blk' r]?=some (.cells g T (0,0))/\Bo w' cells g.toList F3 (US' r)/\FS' r=blk' r::F3:=by
  rcases k3.box r h3 with⟨q,_⟩|⟨cs,g,T,F3,q1,q2,q3,q4⟩
  ·rw[h4]at q;cases q
  grind
 have hne':cells≠ []:=by rintro rfl;cases l
 have k:(fn.results.toList.mapM<|QM P a.tmps).run P w'= .ok [a.eval<|.tmp t] w':=by
  rw[h1,List.mapM_cons];rfl
 have i:a.defers=[]/\∃v,(results fn a.tmps).run P w'= .ok v w'/\∃v' F U G V,Ending.returned v= .returned v'/\ABE w w' FA UA (.tup []) [.ext cells] [v'] (.tuple #[]) F U G V:=by
  refine⟨k3.nodef,_,Pg k,a.eval<|.tmp t,[],[],FS' r,US' r,by simp,?_⟩
  exact{
   res:=by simp only[Y1];exact⟨[],rfl,by simp[Q5]⟩
   fin:=⟨_,[],FS' r,[],US' r,[],rfl,by simp,by simp,⟨blk' r,g,T,F3,by rw[p,s],b2,b3,b4,hne'⟩,⟨rfl,rfl,rfl⟩⟩
   nodup:=by simpa using k3.nodup r
   dis:=λb hb hb'=>k3.disU r r b (by simpa using hb)<|by simpa using hb'
   inF:=λb hb=>k3.inF r b<|by simpa using hb
   inU:=λb hb=>k3.inU r b<|by simpa using hb
   os:=k3.os
   tape:=k3.tape
   output:=k3.output
   size:=k3.size
   keep:=λb hb hF=>k3.keep b hb hF (λe=>by cases e)}
 rcases he with rfl|rfl
 ·exact i
 exact i
section
variable {w0:Base} {a:Act}
theorem ABm {l:List (Bool×TypeId×Operand)} {ss:List (Option SV)} {K:Act->World->Prop} {Q:Exit->Act->World->Prop} (h:CF w0 FA UA N w a E blk FS US) (hF:FS .hand=[]) (hU:US .hand=[]) {o:Oper} {args:Array Operand} {tys:Array TypeId} (ho:o.op= .call {callee:= .value (.func f),args:=args,argTypes:=tys}) (hf:eQ P f) (hd:o.dst=some d) (hN:d<N) (hl:l.map (λx=>x.2.2)=args.toList) {i:List TV} (hg:mQ P f as i) {c:Bool} (h1:Nh P E l=some (ss,E1)) (h2:Jp P E1 l ss=some (as,c)) (h3:c=true\/Ay i=false) (hK:∀w' v blk' FS' US',CF w0 FA UA N w' (a.put (some d) v) (E1.newBox d i) blk' FS' US'->FS' .hand=[]->US' .hand=[]->K (a.put (some d) v) w'):o.wp P a w K Q:=by
 obtain⟨FS1,US1,F,U,k1,k2,k3,k4,_⟩:=QS h h1;rw[hF,A7]at k3;rw[hU,A7]at k4;obtain⟨U',k5,k6⟩:=L0 k2 k1 h2;have h9:l.map (λx=>a.eval x.2.2)=(args.map a.eval).toList:=by
  rw[Qy,<-hl,GN];rfl
 rw[h9]at k5;have m:∀b∈F,b∉U':=by
  intro b hb hb';rw[<-k3]at hb
  rcases k6 b hb' with h4|⟨r,h4⟩|⟨_,r,h5,h4⟩
  ·rw[<-k4]at h4;exact k2.disU .hand .hand b hb h4
  ·exact k2.disU .hand r b hb h4
  exact k2.dis .hand r (HY h5) b hb h4
 have k:=hg w _ F U' k5 (by rw[<-k3];exact k2.nodup .hand) m (by
  intro b hb
  rcases Ap.1 hb with hb|hb
  ·exact(k2.inF .hand b (by rw[k3];exact hb)).2
  rcases k6 b hb with h4|⟨r,h4⟩|⟨_,r,h5,h4⟩
  ·exact(k2.inU .hand b (by rw[k4];exact h4)).2
  ·exact(k2.inU r b h4).2
  exact(k2.inF r b h4).2)
 unfold Oper.wp;rw[I1 ho hf];simp only[Oper.upon];rw[RG]at k;refine Calls.mono k ?_;rintro e w' ⟨v,Fr,Ur,G,V,rfl,g⟩;obtain⟨v0,vs0,G1,G2,V1,V2,p,rfl,rfl,⟨b0,a0,T,F0,rfl,e1,e2,rfl,e3⟩,⟨rfl,rfl,rfl⟩⟩:=g.fin
 injection p with p _
 subst p;have t:=g.res;simp only[Y1,Q5]at t;obtain⟨_,_,_,rfl,rfl⟩:=t;have u:=g.nodup;simp only[A7,A9]at u;have a5:∀b∈b0::F0,(b∈FS1 .hand\/w.heap.size<=b)/\b<w'.heap.size:=by
  intro b hb;have:=g.inF b<|by simpa using hb
  grind
 have y:∀b∈V1,(∃s,b∈US1 s)\/((b∈FS1 .hand\/w.heap.size<=b)/\b∉b0::F0/\b<w'.heap.size):=by
  intro b hb;obtain⟨h4,h5⟩:=g.inU b<|by simpa using hb
  have a4:b∉b0::F0:=λe=>g.dis b (by simpa using e)<|by simpa using hb
  rcases h4 with h4|h4|h4
  ·rcases k6 b h4 with h6|h6|⟨h6,r,h7,h8⟩
   ·grind
   ·exact .inl h6
   rcases h3 with h3|h3
   ·grind
   have:=KI e2 h3
   grind
  ·grind
  grind
 have j:∀b,b<w.heap.size->b∉FS1 .hand->w'.heap[b]?=w.heap[b]? :=λb hb z=>g.keep b hb<|by grind
 let E2:St:={E1 with boxes:=Cg E1.boxes (.box d)<|some i,ver:=Cg E1.ver (.box d)<|E1.ver (.box d)+1,gen:=Cg E1.gen (.box d) (E1.gen (.box d)+1)}
 let blk1:=Cg blk (.box d) b0
 have a1:Root.box d≠Root.hand:=by simp
 have a2:∀s,Cp w w' a a E1 E2 blk blk1 s:=by
  intro s;by_cases hs:s= .box d
  ·subst hs;exact⟨.inl (by simp[E2,Cg]),.inl<|by simp[E2,Cg]⟩
  have hv:E2.ver s=E1.ver s:=by simp[E2,Cg,hs]
  have hg:E2.gen s=E1.gen s:=by simp[E2,Cg,hs]
  by_cases hh:s= .hand
  ·subst hh;exact Gq hv hg<|by simp[St.root,k2.nohand]
  refine DZ k2 hv hg ?_ (λ_ _=>rfl) (λ_=>by simp[blk1,Cg,hs]) (λb hb=>j b (k2.inF s b hb).2<|k2.dis s .hand hh b hb) λb hb=>j b (k2.inU s b hb).2 λe=>k2.disU .hand s b e hb;cases s<;>simp_all [E2,St.root,Cg]
 have g1:=k2.two (w':=w') (a':=a) (E':=E2) (blk':=blk1) (r1:= .box d) (r2:= .hand) (L1:=b0::F0) (L2:=[]) (V1:=V1) (V2:=[]) a1
  (by simpa using u)
  (λb hb=>by grind)
  (λb hb=>by
   have hb':b∈V1:=by simpa using hb
   rcases y b hb' with q|⟨q1,q2,q3⟩
   ·exact .inl q
   grind)
  g.size g.os g.tape g.output (λb hb _ z=>j b hb z) a2
  (λn _ _=>⟨rfl,rfl⟩)
  (λs _ hs _=>⟨by simp[E2,Cg,hs],by simp[blk1,Cg,hs]⟩)
  (.inr ⟨i,a0,T,F0,by simp[E2,Cg],by simp[blk1,Cg,e1],e2,by simp[blk1,Cg]⟩)
  trivial (by simp[E2,Cg,k2.nohand]) k2.len k2.nodef (hfz:=λn hn=>k2.frz n hn)
 have a3:E8 w' a E2 blk1 (.one<|.ptr (.box d) (E2.gen<|.box d) [] 0) (.pointer<|some ⟨b0,0,none⟩) [] []:=by
  have h0:E2.stamp (.box d) []=E2.gen (.box d):=rfl;rw[<-h0];refine Wb ?_ ?_
  ·cases hc:i with
   |nil=>exact absurd hc e3
   |cons x xs=>simp[St.place,St.root,E2,Cg,BL,hc]
  simp[pa,blk1,Cg,Addr.add]
 have g2:=g1.put (d:=d) hN a3 cZ.none;have:=hK w' _ blk1 _ _ g2 (by rfl) (by rfl);rw[hd];exact this
end
theorem ABz {l:List AV} {x:Option α} (h:x.bind kk=some r) {f:α->List TV} (g:∀v,x=some v->mQ P (Qo (oA ops i)) l (f v)) (hk:∀v,x=some v->kk v=some r->RW P N ops (i+1) ((clE P E (oA ops i) 0).newBox ((oA ops i).dst.getD 0) (f v)) Q) (b:dG P E (oA ops i) 0=some l:=by kernel_rfl) (hc:shB P E (oA ops i) 0=true:=by kernel_rfl) (ho:(RY P ops E i&&TW P N (oA ops i)&&G7 N (oA ops i))=true:=by kernel_rfl):RW P N ops i E Q:=by
 obtain⟨v,hv,h⟩:=An.1 h;simp only[Ai]at ho;obtain⟨h1,h2⟩:=HW ho.1.1;obtain⟨args,tys,h3,h4,h5,h6⟩:=Px ho.1.2;obtain⟨d,h7,_,h8⟩:=ES ho.2;have e:=hk v hv h;rw[h7]at e;simp only[AT]at e;unfold RW;rw[GP h1];intro w0 FA UA w a blk FS US hr hF hU;simp only[wpList,Cl hr h2,Ce];unfold dG shB shA at*;unfold clE at e
 cases hm:mvA P E (oA ops i) 0 with
 |none=>grind
 |some z=>
  obtain⟨ss,E1⟩:=z;rw[hm]at b hc e;simp only at b hc e
  cases hs:Jp P E1 (bits 0<|GG<|oA ops i) ss with
  |none=>grind
  |some y=>
   obtain⟨as',c⟩:=y;rw[hs]at b hc;simp only[By]at b hc
   injection b with b
   subst b;refine .inl<|ABm hr hF hU h3 h4 h7 h8 (l:=bits 0<|GG<|oA ops i) (by rw[Qr,h6]) (g v hv) hm hs (.inl hc) λw' v' blk' FS' US' k1 k2 k3=>e _ _ _ _ _ _ _ _ k1 k2 k3
theorem rsp {rs:List ResultVar} {a:List TV} (t:Nat) (h1:rs=[.tmp t]) (h:(match E.ptr? (.tmp t)with
 |some (r,[],0)=>bif r.mem then E.boxes r else none
 |_=>none)=some a):∃t r,rs=[.tmp t]/\E.ptr? (.tmp t)=some (r,[],0)/\r.mem=true/\E.boxes r=some a:=by grind
def xtE (N:Nat) (E:St) (o:Oper):Option St:=match o.op,o.dst with
 | .extract t ix,some d=>bif Nat.blt d N then OA E d t ix else none
 |_,_=>none
theorem ADx {w0:Base} {a:Act} (h:CF w0 FA UA N w a E blk FS US) (hF:FS .hand=[]) (hU:US .hand=[]) {o:Oper} (he:xtE N E o=some E'):
  ∃v blk' FS' US',(∀w2,(execOp a.eval o).run P w2= .ok (.value v) w2)/\CF w0 FA UA N w (a.put o.dst v) E' blk' FS' US'/\FS' .hand=[]/\US' .hand=[]:=by
 unfold xtE at he;split at he
 ·rename_i t ix d ho hd
  cases hN:Nat.blt d N with
  |false=>grind
  |true=>
   rw[hN]at he;simp only[Ae]at he;have hN':d<N:=by simpa[B7]using hN
   obtain⟨nx,w',v,blk',FS',US',k1,k2,k3,k4,k5,_⟩:=EL.extract (P:=P) h hF hU ho hd hN' he;have f:∃x,∀w2,(execOp a.eval o).run P w2= .ok (.value x) w2:=by
    unfold OA at he;split at he
    ·rename_i n;split at he
     ·rename_i ss b;split at he
      ·rename_i s c;have hs:=h.slot n;rw[b]at hs;simp only[E8]at hs;obtain⟨vs,e,hx⟩:=hs;obtain⟨v,A,B,C,D,F1,U1,h1,h2,h3,h4,h5⟩:=Zu ix hx c;exact⟨v,λw2=>by simp[execOp,ho,Instr.extract,e,h1]⟩
      cases he
     cases he
    cases he
   grind
 cases he
theorem Ih {ts:List Nat} (i:Nat) (h:KW P N ops ts (i::dn) ((xtE N E (oA ops i)).getD E) Q) (hs:(xtE N E (oA ops i)).isSome=true:=by kernel_rfl) (hk:(RY P ops E i&&qR ops ts dn i)=true:=by kernel_rfl):KW P N ops ts dn E Q:=by
 have hs':=getD_some (a:=E) hs;generalize hE:(xtE N E<|oA ops i).getD E=E' at h hs';simp only[Ai,qR]at hk;obtain⟨h1,h3,h4⟩:=hk;obtain⟨h5,h6⟩:=HW h1;unfold KW at h⊢;rw[Wi (i:=i) h3];intro hQ hc w0 FA UA w a blk FS US k1 k2 k3;obtain⟨e1,e2,e3,e4,e5⟩:=Ww h4;obtain⟨v,blk',FS',US',g1,g2,g3,g4⟩:=ADx (P:=P) k1 k2 k3 hs';refine Nr (v:=v) (n:=ops.size) (IY h5) (Region.noSelect_spec e1) (λc a w hx=>?_) e4 e5 _ _ a w hc (Region.free_spec (IY h5) e2) e3 (.inl ⟨Cl k1 h6,λw2 _=>g1 w2⟩) ?_
 ·obtain⟨E',blk',FS',US',m1,_⟩:=hx
  grind
 exact h hQ (LW hc e3) _ _ _ _ _ _ _ _ g2 g3 g4
def mL (P:Program) (E:St) (o:Oper) (s:SV):Prop:=∀(N:Nat) (w0:Base) (FA UA:List Nat) (w:World) (a:Act) (blk:Root->Nat) (FS US:Root->List Nat),CF w0 FA UA N w a E blk FS US->Fy P w a E blk FS US o s
theorem AFA (hp:mL P E (oA ops i) s) (h:RW P N ops (i+1) (E.put (oA ops i).dst s) Q) (hk:(RY P ops E i&&G7 N (oA ops i))=true:=by kernel_rfl):RW P N ops i E Q:=by
 rw[Ai]at hk;obtain⟨h1,h2⟩:=HW hk.1;obtain⟨d,h3,_,h4⟩:=ES hk.2;rw[h3]at h;unfold RW;rw[GP h1];intro w0 FA UA w a blk FS US hr hF hU;simp only[wpList,Cl hr h2,Ce];exact .inl<|(Me hr hF hU (hp _ _ _ _ _ _ _ _ _ hr) h3 h4).wp λw' v blk' FS' US' k1 k2 k3 _=>h _ _ _ _ _ _ _ _ k1 k2 k3
theorem AF8 {m:Nat} (hp:mL P E (oA ops i) s) (h:SW P N ops m (i+1) (E.put (oA ops i).dst s) K) (hk:(RY P ops E i&&G7 N (oA ops i)&&Nat.blt i m)=true:=by kernel_rfl):SW P N ops m i E K:=by
 simp only[Ai]at hk;obtain⟨h1,h2⟩:=HW hk.1.1;obtain⟨d,h3,_,h4⟩:=ES hk.1.2;rw[h3]at h;unfold SW;rw[R2 h1 hk.2];intro w0 FA UA w a blk FS US k1 k2 k3;obtain⟨v,U,g1,g2,g3⟩:=hp _ _ _ _ _ _ _ _ _ k1;have hr:=g1 w λr _=>⟨λ_ _=>rfl,λ_ _=>rfl⟩;simp only[wpStill,Cl k1 h2,Ce,Oper.still,hr,Oper.stillUpon_value];rw[h3];refine h _ _ _ _ _ _ _ _ (k1.put h4 g2<|Ql k1 g3 _) ?_ ?_
 ·rw[Bq (by simp),k2]
 rw[Bq (by simp),k3]
theorem AF9 {ts:List Nat} (i:Nat) (hp:mL P E (oA ops i) s) (h:KW P N ops ts (i::dn) (E.put (oA ops i).dst s) Q) (hk:(RY P ops E i&&G7 N (oA ops i)&&qR ops ts dn i)=true:=by kernel_rfl):KW P N ops ts dn E Q:=by
 simp only[Ai,qR]at hk;obtain⟨⟨h1,h2⟩,h3,h4⟩:=hk;obtain⟨h5,h6⟩:=HW h1;obtain⟨d,h7,_,h8⟩:=ES h2;unfold KW at h⊢;rw[Wi (i:=i) h3];rw[h7]at h;intro hQ hc w0 FA UA w a blk FS US k1 k2 k3;obtain⟨e1,e2,e3,e4,e5⟩:=Ww h4;obtain⟨v,U,g1,g2,g3⟩:=hp _ _ _ _ _ _ _ _ _ k1;refine Nr (v:=v) (n:=ops.size) (IY h5) (Region.noSelect_spec e1) (λc a w hx=>?_) e4 e5 _ _ a w hc (Region.free_spec (IY h5) e2) e3 (.inl ⟨Cl k1 h6,λw2 e=>?_⟩) ?_
 ·obtain⟨E',blk',FS',US',m1,_⟩:=hx
  grind
 ·exact g1 w2 λr hr=>⟨λb hb=>e.2 b (k1.inF r b hb).2,λb hb=>e.2 b (k1.inU r b hb).2⟩
 rw[h7];refine h hQ (LW hc e3) _ _ _ _ _ _ _ _ (k1.put h8 g2<|Ql k1 g3 _) ?_ ?_
 ·rw[Bq (by simp),k2]
 rw[Bq (by simp),k3]
def AEL (o:Oper):Bool:=match o.op with
 | .assign (.const _)| .move (.const _)=>true
 |_=>false
theorem pjk {o:Oper} (h:AEL o=true:=by kernel_rfl):mL P E o (.one .junk):=by
 intro N w0 FA UA w a blk FS US hr;unfold AEL at h;split at h
 ·rename_i v ho;exact⟨v,[],λw2 _=>by simp[execOp,ho,Act.eval],by simp[E8,CN,TV.isJunk],by simp⟩
 ·rename_i v ho;exact⟨v,[],λw2 _=>by simp[execOp,ho,Act.eval],by simp[E8,CN,TV.isJunk],by simp⟩
 cases h
abbrev pb (n:Nat):SV:= .one (.ptr (.box n) 0 [] 0)
abbrev px (n:Nat):SV:= .one (.ptr (.ext n) 0 [] 0)
abbrev i6 (n:Int):TV:= .int .i64 n
abbrev tb (b:Bool):TV:= .bool b
abbrev ts (s:ByteArray):TV:= .str s
abbrev rg (n:Nat):List AV:=List.replicate n .gone
theorem jr {w:β} {f:V->Option β} {a:V⊕β} (h:some (.inr w)=some a) (hk:Sum.elim f some a=some r):some w=some r:=by grind
theorem jo {w:β} {f:V->Option β} {o:S⊕(V⊕β)} (h:some (.inr (.inr w))=some o) (hk:∀w,o= .inr (.inr w)->Sum.elim f some (.inr w)=some r):some w=some r:=by grind
theorem rr {v r:β} (h:some v=some r):v=r:=Option.some.inj h
theorem rq {e:Exit} {rs:List ResultVar} {a:SV} (he:e= .normal\/e= .ret:=by first|exact .inr rfl|exact .inl rfl) (hk:(DU P E rs).map (λz=>EJ z.1)=some a:=by kernel_rfl):(e= .normal\/e= .ret)/\∃ss E',DU P E rs=some (ss,E')/\EJ ss=a:=⟨he,rsz hk⟩
theorem rx {e:Exit} {rs:List ResultVar} {b:SV} {a:List TV} (he:e= .normal\/e= .ret:=by first|exact .inr rfl|exact .inl rfl) (hk:(DU P E rs).map (λz=>(EJ z.1,z.2.boxes<|.ext 0))=some (b,some a):=by kernel_rfl):(e= .normal\/e= .ret)/\∃ss E',DU P E rs=some (ss,E')/\EJ ss=b/\E'.boxes (.ext 0)=some a:=⟨he,rsx hk⟩
section
variable {id:Nat}
theorem ws (h:RW P N ops 0 E (Kb (λE'=>Wp P N y E' Q) Q)):Wp P N (.seq (.region id ops false) y) E Q:=Wp.seq<|ADt h
end
theorem BU {f:α->List TV} {n:Int} (hf:∀x,(f x).length=sz) (h:(gi l n).bind kk=some r) (hk:∀x,gi l n=some x->kk x=some r->RW P N ops (i+1) (E.put (oA ops i).dst (oS E (oA ops i) (n.toNat*sz+0))) Q) (hc:AAW P E (oA ops i) sz=some (AC f l,n):=by kernel_rfl) (hq:qok P N ops i E=true:=by kernel_rfl):RW P N ops i E Q:=
 bd h λx gx h=>RW.q (Hh hf gx hc) (hk x gx h) hq
def uF (P:Program) (N:Nat) (ops:Array Oper) (ts dn:List Nat) (E:St) (i:Nat):Option St:=bif Nat.blt i ops.size&&G7 N (oA ops i)&&qR ops ts dn i then
 (match Bx P ops E (oA ops i)with
 |some false=>some<|E.put (oA ops i).dst<|.tup []
 |some true=>match JP P E (oA ops i)with
  |some s=>some<|E.put (oA ops i).dst s
  |none=>xtE N E<|oA ops i
 |none=>none)else none
theorem tst {ts:List Nat} (hs:uF P N ops ts dn E i=some E') (h:KW P N ops ts (i::dn) E' Q):KW P N ops ts dn E Q:=by
 unfold uF at hs
 cases hb:(Nat.blt i ops.size&&G7 N (oA ops i)&&qR ops ts dn i)with
 |false=>grind
 |true=>
  rw[hb]at hs;simp only[Ae]at hs;split at hs
  ·rename_i hg
   injection hs with hs
   subst hs;exact AE0 i h hg hb
  ·rename_i hg;simp only[Ai]at hb;have ho:RY P ops E i=true:=by simp only[RY,hb.1.1,hg,No]
   split at hs
   ·rename_i s a
    injection hs with hs
    subst hs;exact AEi i a h<|by grind
   exact Ih i (by rw[hs];exact h) (by rw[hs];rfl) (by rw[ho,hb.2];rfl)
  cases hs
def vT (P:Program) (N:Nat) (ops:Array Oper) (ts dn:List Nat) (E:St):List Nat->Option (Nat×St)
 |[]=>none
 |i::l=>match uF P N ops ts dn E i with
  |some E'=>some (i,E')
  |none=>vT P N ops ts dn E l
theorem pE {ts:List Nat}:∀{l:List Nat} {E':St},vT P N ops ts dn E l=some (i,E')->uF P N ops ts dn E i=some E'
 |[],_,h=>by cases h
 |j::l,E',h=>by
  simp only[vT]at h;split at h
  ·grind
  exact pE h
def ADr (P:Program) (N:Nat) (ops:Array Oper) (ts:List Nat) (mv:List Nat) (E:St) (i:Nat):Option St:=bif RY P ops E i&&(kp (oA ops i)||ts.contains i)then C0 P N (mv.contains i) E (oA ops i)else none
def ACU (f:A->Option (List St)):List A->Option (List St)
 |[]=>some []
 |x::l=>match f x,ACU f l with
  |some a,some b=>some (a++b)
  |_,_=>none
theorem pW {f:A->Option (List St)}:∀{l:List A} {L:List St},ACU f l=some L->∀x∈l,∃a,f x=some a/\∀E∈a,E∈L
 |[],_,_,x,hx=>by cases hx
 |y::l,L,h,x,hx=>by
  simp only[ACU]at h;split at h
  ·rename_i a b h1 h2
   injection h with h
   subst h
   rcases DO.1 hx with rfl|hx
   ·grind
   obtain⟨a',h3,h4⟩:=pW h2 x hx
   grind
  cases h
def wV (P:Program) (N:Nat) (ops:Array Oper) (ts mv:List Nat):Nat->List Nat->St->Option (List St)
 |0,_,_=>none
 |n+1,dn,E=>match Region.ready .any ops (lsd ops.size dn)with
  |[]=>some [E]
  |rs=>bif Nat.blt dn.length ops.size then(match vT P N ops ts dn E rs with
   |some (i,E')=>wV P N ops ts mv n (i::dn) E'
   |none=>ACU (λi=>match ADr P N ops ts mv E i with
    |some E'=>wV P N ops ts mv n (i::dn) E'
    |none=>none) rs)else none
theorem tV {ts:List Nat} {mv:List Nat}:∀{n:Nat} {dn:List Nat} {E:St} {L:List St},wV P N ops ts mv n dn E=some L->(∀E'∈L,Q .normal E')->KW P N ops ts dn E Q
 |0,_,_,_,h,_=>by cases h
 |n+1,dn,E,L,h,hq=>by
  simp only[wV]at h;split at h
  ·rename_i hr
   injection h with h
   subst h;exact A6 (hq E (by simp)) (by rw[hr];rfl)
  rename_i b
  cases hb:Nat.blt dn.length ops.size with
  |false=>rw[hb]at h;cases h
  |true=>
   rw[hb]at h;simp only[Ae]at h;split at h
   ·rename_i i E' hf;exact tst (pE hf) (tV h hq)
   refine KW.all _ (λi hi=>?_) b (by simp only[rdy,hb,Bool.and_true,beq_self_eq_true]);obtain⟨a,h1,h2⟩:=pW h i hi;split at h1
   ·rename_i E' hs;unfold ADr at hs
    cases hc:(RY P ops E i&&(kp (oA ops i)||ts.contains i))with
    |false=>grind
    |true=>
     rw[hc]at hs;exact FP hs (tV h1 λE'' hE=>hq E''<|h2 E'' hE) hc
   cases h1
def AAw (P:Program) (N:Nat) (ops:Array Oper) (ts mv dn:List Nat) (E:St):List St:=(wV P N ops ts mv (ops.size+1) dn E).getD []
theorem nP {X:Prop} {c:List PanicEntry} (h:(Exit.panic c= .normal\/Exit.panic c= .ret)/\X):False:=by grind
section
variable {w0:Base} {a:Act}
theorem CF.resay (h:CF w0 FA UA N w a E blk FS US) (hd:d<N) (hs:E8 w a E blk s (a.eval (.tmp d)) [] []):∃FS' US',CF w0 FA UA N w a (E.put (some d) s) blk FS' US'/\FS' .hand=FS .hand/\US' .hand=US .hand:=by
 have k:=h.put (F:=[]) (U:=[]) hd hs cZ.none;have e:a.put (some d) (a.eval<|.tmp d)=a:=by
  cases a with
  |mk tmps defers=>
   have hl:d<tmps.size:=AY hd h.len;simp only[Act.put,Act.eval];congr 1;apply Array.ext (by simp);intro i h1 h2;rw[Array.getElem_setIfInBounds];split
   ·rename_i e;subst e;simp[hl]
   rfl
 rw[e]at k;exact⟨_,_,k,Bq (by simp),Bq<|by simp⟩
end
theorem CF.toAdr {w0:Base} {a:Act} (h:CF w0 FA UA N w a E blk FS US) (hd:d<N) (hs:E.ptr? (.tmp d)=some (.ext 0,[],0)) (hp:E.amb.pin=some b):∃FS' US',CF w0 FA UA N w a (E.put (some d) (.one (.adr ⟨b,0,none⟩))) blk FS' US'/\FS' .hand=FS .hand/\US' .hand=US .hand:=by
 obtain⟨_,ad,h1,h2⟩:=KJ h hs;refine h.resay hd ?_;rw[h2];have e:=h.xblk 0;rw[h.pin b hp]at e;simp only[pa,e,Addr.add]at h1
 injection h1 with h1
 subst h1;refine⟨?_,λ_=>rfl⟩;show Cx w (.adr ⟨b,0,none⟩) _ [] [];simp[Cx]
section
variable {w0:Base} {a:Act}
theorem CF.toPtr (h:CF w0 FA UA N w a E blk FS US) (hd:d<N) (hs:E.slots d= .one (.adr ⟨b,0,none⟩)) (hp:E.amb.pin=some b) {f:List TV} (hb:E.boxes (.ext 0)=some f) (g:f.isEmpty=false):
  ∃FS' US',CF w0 FA UA N w a (E.put (some d) (.one (.ptr (.ext 0) (E.gen (.ext 0)) [] 0))) blk FS' US'/\FS' .hand=FS .hand/\US' .hand=US .hand:=by
 have hv:a.eval (.tmp d)= .pointer (some ⟨b,0,none⟩):=by
  have:=h.slot d;rw[hs]at this;simp only[E8,CN,Cx]at this;exact this.1.1
 refine h.resay hd ?_;have e:=h.xblk 0;rw[h.pin b hp]at e;refine⟨⟨rfl,rfl,Ax _,λ_=>⟨?_,⟨b,0,none⟩,?_,hv⟩⟩,λ_=>by rw[hv];rfl⟩
 ·cases f with
  |nil=>cases g
  |cons c cs=>simp[St.place,St.root,hb,BL]
 simp[pa,e,Addr.add]
end
def pnE (E:St) (d b:Nat):St:=E.put (some d)<|.one<|.adr ⟨b,0,none⟩
def ADL (N:Nat) (E:St) (d:Nat):Bool:=Nat.blt d N&&(match E.ptr? (.tmp d)with
 |some (.ext 0,[],0)=>true
 |_=>false)
theorem ACb (h:ADL N E d=true):d<N/\E.ptr? (.tmp d)=some (.ext 0,[],0):=by
 simp only[ADL,Ai]at h;refine⟨by simpa[B7]using h.1,?_⟩
 grind
theorem AEY (d:Nat) (h:RW P N ops i (pnE E d b) Q) (hp:E.amb.pin=some b:=by kernel_rfl) (ho:ADL N E d=true:=by kernel_rfl):RW P N ops i E Q:=by
 intro w0 FA UA w a blk FS US hr hF hU;obtain⟨h1,h2⟩:=ACb ho;obtain⟨FS',US',k1,k2,k3⟩:=hr.toAdr h1 h2 hp;exact h _ _ _ _ _ _ _ _ k1 (by rw[k2,hF])<|by rw[k3,hU]
def npE (E:St) (d:Nat):St:=E.put (some d)<|.one<|.ptr (.ext 0) (E.gen<|.ext 0) [] 0
def ACn (N:Nat) (E:St) (d:Nat):Bool:=Nat.blt d N&&(match E.boxes (.ext 0)with
 |some cells=>!cells.isEmpty
 |none=>false)
theorem vG (h:ACn N E d=true):d<N/\∃a,E.boxes (.ext 0)=some a/\a.isEmpty=false:=by
 simp only[ACn,Ai]at h;refine⟨by simpa[B7]using h.1,?_⟩
 grind
theorem qD (d:Nat) (h:RW P N ops i (npE E d) Q) (hp:E.amb.pin=some b:=by kernel_rfl) (hs:E.slots d= .one (.adr ⟨b,0,none⟩):=by kernel_rfl) (ho:ACn N E d=true:=by kernel_rfl):RW P N ops i E Q:=by
 intro w0 FA UA w a blk FS US hr hF hU;obtain⟨h1,c,h2,h3⟩:=vG ho;obtain⟨FS',US',k1,k2,k3⟩:=hr.toPtr h1 hs hp h2 h3;exact h _ _ _ _ _ _ _ _ k1 (by rw[k2,hF])<|by rw[k3,hU]
theorem wC {ts:List Nat} (d:Nat) (h:KW P N ops ts dn (npE E d) Q) (hp:E.amb.pin=some b:=by kernel_rfl) (hs:E.slots d= .one (.adr ⟨b,0,none⟩):=by kernel_rfl) (ho:ACn N E d=true:=by kernel_rfl):KW P N ops ts dn E Q:=by
 intro hq hc w0 FA UA w a blk FS US hr hF hU;obtain⟨h1,c,h2,h3⟩:=vG ho;obtain⟨FS',US',k1,k2,k3⟩:=hr.toPtr h1 hs hp h2 h3;exact h hq hc _ _ _ _ _ _ _ _ k1 (by rw[k2,hF])<|by rw[k3,hU]
structure X4 (n c b g cap:Nat) (e T T':TypeId) (sz:Nat) (rest:List Value) (enc:γ->List TV) (w:World) (l:List γ):Prop where
 ne:b≠g/\c≠g/\c≠b
 len:l.length=n
 ptr:w.heap[c]?=some (.cells #[.pointer (some ⟨b,0,none⟩)] T' (0,0))
 box:w.heap[b]?=some (.cells (.slice (some ⟨g,0,none⟩) n cap::rest).toArray T (0,0))
 row:∃cur,w.heap[g]?=some (.cells cur e (0,0))/\cur.size=cap*sz/\cur.toList.take (l.length*sz)=(AC enc l).map TV.val
 le:l.length<=cap/\cap<=maxLen
theorem uQ {e:TypeId} {l:List γ} {k:Nat} {n c b g cap:Nat} {rest:List Value} {enc:γ->List TV} (h:X4 n c b g cap e T T' sz rest enc w l) (hk:k<l.length*sz):w.cell? ⟨g,k,none⟩=((AC enc l).map TV.val)[k]? :=by
 obtain⟨a,h1,h2,h3⟩:=h.row;rw[<-h3,Ew,AG hk];simp[World.cell?,h1]
def Ie (n c b g cap:Nat) (e T T':TypeId) (sz:Nat) (rest:List Value) (enc:γ->List TV) (l:List γ):RV where
 B:=[c,b,g]
 I:=λw=>X4 n c b g cap e T T' sz rest enc w l
 st:=λw w' h hk=>⟨h.ne,h.len,by rw[hk c<|by simp];exact h.ptr,by rw[hk b<|by simp];exact h.box,by rw[hk g<|by simp];exact h.row,h.le⟩
 rd:=λad=>if ad.spot.isSome=true then none else if ad.block=c then(if ad.off=0 then some (.pointer<|some ⟨b,0,none⟩)else none)else if ad.block=b then(if ad.off=0 then some (.slice (some ⟨g,0,none⟩) n cap)else none)else if ad.block=g then(if ad.off<l.length*sz then((AC enc l).map TV.val)[ad.off]? else none)else none
 rdI:=λw ad v h hr=>by
  obtain⟨bl,off,spot⟩:=ad
  cases spot with
  |some s=>simp at hr
  |none=>
   simp only[FJ,CQ,FU]at hr;split at hr
   ·rename_i hb;subst hb;split at hr
    ·rename_i ho;subst ho
     injection hr with hr
     subst hr;simp[World.cell?,h.ptr]
    cases hr
   split at hr
   ·rename_i hb;subst hb;split at hr
    ·rename_i ho;subst ho
     injection hr with hr
     subst hr;simp[World.cell?,h.box]
    cases hr
   split at hr
   ·rename_i hg;subst hg;split at hr
    ·rename_i ho;rw[uQ h ho];exact hr
    cases hr
   cases hr
theorem m7 {e:TypeId} {ie:TypeInfo} {c b g cap:Nat} {rest:List Value} {enc:γ->List TV} (h:∀x,(enc x).length=sz) (n:Nat) (gS:Bool) (hx:∀args W,(callFunc sf args).run P W=((Extern.ReflectliteSwapper.swap gS args).run P W).andThen λv w'=> .ok (.value v) w') (a2:P.info? e=some ie) (o:ie.size=sz) (h0:∀w,(isAgg e).run P w= .ok true w):
  Nl P (Ie n c b g cap e T T' sz rest enc) sf #[.slice (some ⟨g,0,none⟩) n cap,typeHandle P e]:=by
 intro l i j x y hi hj w hI hB;obtain⟨⟨h3,h4,h5⟩,hn,h6,h7,h8,r⟩:=hI;have b0:b<w.heap.size:=hB b (by simp[Ie]);have b1:c<w.heap.size:=hB c (by simp[Ie]);have b2:g<w.heap.size:=hB g (by simp[Ie]);obtain⟨f,hg,h9,a0⟩:=h8;obtain⟨i0,i1⟩:=IJ hi;obtain⟨j0,j1⟩:=IJ hj;obtain⟨a,rfl⟩:=Cv i0;obtain⟨d,rfl⟩:=Cv j0;simp only[Bi]at i1 j1;have la:=(Af.1 i1).1;have lc:=(Af.1 j1).1;have hX:((enc x).map TV.val).length=sz:=by grind
 have hY:((enc y).map TV.val).length=sz:=by grind
 have p:l.length*sz<=f.size:=by rw[h9];exact BN _ r.1
 have a3:(a+1)*sz<=l.length*sz:=BN _ la;have a4:(d+1)*sz<=l.length*sz:=BN _ lc;rw[En]at a3 a4;have hI:X4 n c b g cap e T T' sz rest enc w l:=⟨⟨h3,h4,h5⟩,hn,h6,h7,⟨f,hg,h9,a0⟩,r⟩;have cell:∀(m:Nat) (z:γ),l[m]?=some z->∀k v,((enc z).map TV.val)[k]?=some v->w.cell? ⟨g,0+m*ie.size+k,none⟩=some v:=by
  intro m z hm k v hk;have a5:=(Af.1 hk).1;rw[Bs,h]at a5;have lm:=(Af.1 hm).1;have a6:(m+1)*sz<=l.length*sz:=BN _ lm;rw[En]at a6;rw[o,HZ,uQ hI<|by omega];have e1:(AC enc l)[m*sz+k]?=(enc z)[k]? :=by
   have h2:(AC enc l)[m*sz+k]?=((AC enc l).drop<|m*sz)[k]? :=by grind
   rw[h2,Kv h l m,AM lm,Rz]
   grind
  grind
 have frz:∀(m k:Nat),w.frozen? ⟨g,0+m*ie.size+k,none⟩=false:=by
  intro m k;simp[World.frozen?,hg]
 have q:=Go.Lib.run_swap_cells (P:=P) gS e ie a2 h0 g 0 n cap a d (by omega) (by omega) ((enc x).map TV.val) ((enc y).map TV.val) (by rw[hX,o]) (by rw[hY,o]) (λv hv=>by obtain⟨t,_,rfl⟩:=AA.1 hv;exact YG) (λv hv=>by obtain⟨t,_,rfl⟩:=AA.1 hv;exact YG) w (cell a x i1) (cell d y j1) (λk _=>frz a k) λk _=>frz d k;simp only[HZ,o]at q;have h1:=JI e (0,0) g ((enc y).map TV.val) (a*sz) f w hg (by rw[hY];omega);have a7:(setRow f.toList (a*sz)<|(enc y).map TV.val).toArray.size=f.size:=by
  rw[List.size_toArray,F5 (by rw[hY];simp;omega)];simp
 have h2:=JI e (0,0) g ((enc x).map TV.val) (d*sz) _ _ h1 (by rw[a7,hX];omega);have kB:∀k,k<w.heap.size->k≠g->((w.setCells g (a*sz)<|(enc y).map TV.val).setCells g (d*sz)<|(enc x).map TV.val).heap[k]?=w.heap[k]? :=by
  intro k hk a1;have s1:(w.setCells g (a*sz)<|(enc y).map TV.val).heap.size=w.heap.size:=GA g _ _ _;rw[World.heap_setCells_other _ g _ _ (by rw[s1];exact hk) a1,World.heap_setCells_other _ g _ _ hk a1]
 refine⟨(w.setCells g (a*sz)<|(enc y).map TV.val).setCells g (d*sz)<|(enc x).map TV.val,?_,⟨?_,?_,?_,?_,?_⟩,?_⟩
 ·rw[hx];have ea:(#[Value.int .i64 (a:Int),Value.int .i64 (d:Int)]++ #[Value.slice (some ⟨g,0,none⟩) n cap,typeHandle P e])= #[.int .i64 (a:Int),.int .i64 (d:Int),.slice (some ⟨g,0,none⟩) n cap,typeHandle P e]:=rfl;rw[ea,q];rfl
 ·rw[World.os_setCells,World.os_setCells]
 ·rw[Ju,Ju]
 ·rw[World.output_setCells,World.output_setCells]
 ·rw[GA,GA];exact Ax _
 ·intro k hk a8;exact kB k hk λe=>a8 (by rw[e];simp[Ie])
 have s:(si (si l (a:Int) y) (d:Int) x).length=l.length:=by simp[si]
 have lcur:f.toList.length=f.size:=by simp
 have u:(setRow f.toList (a*sz)<|(enc y).map TV.val).length=f.size:=by omega
 have b3:(setRow (setRow f.toList (a*sz)<|(enc y).map TV.val) (d*sz)<|(enc x).map TV.val).length=f.size:=by rw[F5 (by rw[hX,u];omega),u]
 show X4 n c b g cap e T T' sz rest enc _<|si (si l (a:Int) y) (d:Int) x;refine⟨⟨h3,h4,h5⟩,s.trans hn,by grind,by grind,⟨_,h2,?_,?_⟩,by rw[s];exact r⟩
 ·grind
 rw[s];show(setRow (setRow f.toList (a*sz)<|(enc y).map TV.val) (d*sz)<|(enc x).map TV.val).take (l.length*sz)=_;rw[Mv (by rw[hX];omega) (by rw[u];exact p),Mv (by rw[hY];omega) (by rw[lcur];exact p),a0,<-QT,<-QT];have e1:setRow (AC enc l) (a*sz) (enc y)=AC enc (si l (a:Int) y):=by
  have:=To h (z:=y) hi
  rwa [Bi]at this
 obtain⟨z0,a9⟩:∃z0,gi (si l (a:Int) y) (d:Int)=some z0:=by
  have lc2:d<(si l (a:Int) y).length:=by simp only[si,HT];exact lc
  refine⟨(si l (a:Int) y)[d],?_⟩;unfold gi;simp
 have e2:=To h (z:=x) a9;rw[Bi]at e2;rw[e1,e2]
theorem uY {e:TypeId} {l:List γ} {n c b g cap:Nat} {rest:List Value} {enc:γ->List TV}:(Ie n c b g cap e T T' sz rest enc l).rd ⟨c,0,none⟩=some (.pointer (some ⟨b,0,none⟩)):=by
 simp[Ie]
theorem uZ {e:TypeId} {l:List γ} {n c b g cap:Nat} {rest:List Value} {enc:γ->List TV} (h:c≠b):(Ie n c b g cap e T T' sz rest enc l).rd ⟨b,0,none⟩=some (.slice (some ⟨g,0,none⟩) n cap):=by
 simp[Ie,h.symm]
theorem uX {e:TypeId} {l:List γ} {i:Int} {k:Nat} {t:TV} {n c b g cap:Nat} {rest:List Value} {enc:γ->List TV} (a:∀x,(enc x).length=sz) {x:γ} {ad:Addr} (hi:gi l i=some x) (hk:(enc x)[k]?=some t) (hb:b≠g) (hc:c≠g) (d:ad=⟨g,i.toNat*sz+k,none⟩):(Ie n c b g cap e T T' sz rest enc l).rd ad=some t.val:=by
 subst d;obtain⟨i0,i1⟩:=IJ hi;have lm:=(Af.1 i1).1;have f:=(Af.1 hk).1;rw[a]at f;have h:(i.toNat+1)*sz<=l.length*sz:=BN _ lm;rw[En]at h;have e1:(AC enc l)[i.toNat*sz+k]?=(enc x)[k]? :=by
  have h2:(AC enc l)[i.toNat*sz+k]?=((AC enc l).drop<|i.toNat*sz)[k]? :=by grind
  rw[h2,Kv a l i.toNat,AM lm,Rz]
  grind
 simp only[Ie,FJ,CQ,FU]
 grind
theorem ABy {o:Oper} (d:Nat) {ad:Addr} {x:Nat} (hk:FQ P N ops rest (E.put (some d) (.one (.adr ad))) K) (hs:E.slots x= .one (.adr ad)) (ho:o.op= .nilCheck (.tmp x):=by rfl) (hd:o.dst=some d:=by rfl) (hN:Nat.blt d N=true:=by rfl) (hg:Bx P ops E o=some true:=by rfl):FQ P N ops (o::rest) E K:=
 FQ.any d (.adr ad) hk (λw0 FA UA w a blk FS US h=>by
  have h1:=mK h hs;refine⟨.pointer<|some ad,?_,by simp[Cx],rfl⟩
  simp[execOp,ho,h1,Instr.sureAddr]) hd hN hg
def Vc (o:Oper):Nat:=o.dst.getD 0
def AFe (E:St) (ops:Array Oper) (i:Nat) (r:Root) (t:TV):St:=(((((E.put (some<|Vc<|oA ops i)<|.one .junk).put (some<|Vc<|oA ops<|i+1)<|.one .junk).setRoot r [t]).bump r).put (some<|Vc<|oA ops<|i+2)<|.tup [])
def ADz:Operand->Nat
 | .tmp n=>n
 |_=>0
def m9 (o:Oper):Nat:=match o.op with
 | .makeInterface _ x=>ADz x
 |_=>0
def i9 (o:Oper):Nat:=match o.op with
 | .makeFunc _ _ c=>ADz<|c[0]?.getD<|.tmp 0
 |_=>0
def ADB (o:Oper):Array TypeId:=match o.op with
 | .call c=>c.argTypes
 |_=> #[]
def fF (s:SV):Nat:=match s with
 | .one (.view _ v _ _)=>v
 |_=>0
theorem RW.srt {rr:β} {l:List γ} {kk:List γ->Option β} {x:Option (List γ)} (h:x.bind kk=some rr) {enc:γ->List TV} {a:FuncId} (r:Root) (hs:∀l',x=some l'->TO P (Qo (oA ops (i+2))) t e sz enc a l l') (hk:∀l',x=some l'->kk l'=some rr->RW P N ops (i+3) (AFe E ops i r (.sl true e sz (AC enc l'))) Q) (b:∀x,(enc x).length=sz) (d:∀x,(enc x).all TV.flat=true) (hx:E.slots (m9 (oA ops i))= .one (.view r (fF (E.slots (m9 (oA ops i)))) [] 0):=by kernel_rfl) (c:E.ver r=fF (E.slots<|m9<|oA ops i):=by kernel_rfl) (hp:E.ptr? (.tmp<|i9<|oA ops<|i+1)=some (r,[],0):=by kernel_rfl) (hc:E.boxes r=some [.sl true e sz<|AC enc l]:=by kernel_rfl) (hm:r.mem=true:=by kernel_rfl) (h1:(oA ops i).op= .makeInterface t (.tmp<|m9<|oA ops i):=by kernel_rfl) (h2:(oA ops<|i+1).op= .makeFunc (.func a) #[] #[.tmp<|i9<|oA ops<|i+1]:=by kernel_rfl) (h3:(oA ops<|i+2).op= .call {callee:= .value (.func<|Qo<|oA ops<|i+2),args:= #[.tmp<|Vc<|oA ops i,.tmp<|Vc<|oA ops<|i+1],argTypes:=ADB (oA ops<|i+2)}:=by kernel_rfl) (k1:(oA ops i).dst=some (Vc<|oA ops i):=by kernel_rfl) (k2:(oA ops<|i+1).dst=some (Vc<|oA ops<|i+1):=by kernel_rfl) (k3:(oA ops<|i+2).dst=some (Vc<|oA ops<|i+2):=by kernel_rfl) (g1:(oA ops i).guard=none:=by kernel_rfl) (g2:(oA ops<|i+1).guard=none:=by kernel_rfl) (g3:(oA ops<|i+2).guard=none:=by kernel_rfl) (hN:(Nat.blt (Vc<|oA ops i) N&&Nat.blt (Vc<|oA ops<|i+1) N&&Nat.blt (Vc<|oA ops<|i+2) N&&!Nat.beq (Vc<|oA ops i) (Vc<|oA ops<|i+1)&&!Nat.beq (i9<|oA ops<|i+1) (Vc<|oA ops i)&&Nat.blt 0 sz&&Nat.blt (i+2) ops.size)=true:=by kernel_rfl) (ht:P.underlying t=some (.slice e):=by kernel_rfl) (hf:TW P N (oA ops<|i+2)=true:=by kernel_rfl):RW P N ops i E Q:=by
 obtain⟨l',hl',h⟩:=An.1 h;simp only[Ai,D5]at hN;obtain⟨⟨⟨⟨⟨⟨q1,q2⟩,q3⟩,q4⟩,q5⟩,q6⟩,q7⟩:=hN;have b2:Nat.blt (i+1) ops.size=true:=by rw[B7]at q7⊢;omega
 have b1:Nat.blt i ops.size=true:=by rw[B7]at q7⊢;omega
 have hk':=hk l' hl' h;unfold RW at hk'⊢;rw[GP b1,GP b2,GP q7];exact Hi.srt (hs l' hl') hk' b d hx c hp hc hm h1 h2 h3 k1 k2 k3 g1 g2 g3 q1 q2 q3 q4 q5 q6 ht (Px hf).choose_spec.choose_spec.2.1
def mJ (o:Oper):Nat:=match o.op with
 | .call c=>match c.args.toList with
  |[x]=>ADz x
  |_=>0
 |_=>0
def mX (s:SV):Nat:=match s with
 | .one (.view (.slot n) _ _ _)=>n
 |_=>0
def W8 (P:Program) (f:FuncId) (t e sz:Nat) (enc:γ->List TV) (g:FuncId) (l l':List γ):Prop:=∀(w:World) (c b:Nat) (v:Value) (rest:List Value) (T T':TypeId),w.heap[c]?=some (.cells #[.pointer<|some ⟨b,0,none⟩] T' (0,0))->w.heap[b]?=some (.cells (v::rest).toArray T (0,0))->w.ownsRow 0 e sz v l.length ((AC enc l).map TV.val)->b∉BO v->c∉BO v->c≠b->
  Calls P f #[.iface t v,.func (.func g) #[] #[.pointer<|some ⟨c,0,none⟩]] w λr w'=>r= .returned (.tuple #[])/\GK w w' (c::b::BO v)/\w'.heap[c]?=w.heap[c]? /\w'.heap[b]?=w.heap[b]? /\w'.ownsRow 0 e sz v l'.length ((AC enc l').map TV.val)
def AAV (c b:Nat) (v:Value) (rest:List Value) (T T':TypeId) (e sz n:Nat) (xs:List Value):RV where
 B:=c::b::BO v
 I:=λw=>w.heap[c]?=some (.cells #[.pointer<|some ⟨b,0,none⟩] T' (0,0))/\w.heap[b]?=some (.cells (v::rest).toArray T (0,0))/\w.ownsRow 0 e sz v n xs
 st:=λw w' h hk=>⟨by grind,by grind,h.2.2.1,by
  rcases h.2.2.2 with q|⟨g,cap,a,rfl,q1,q2,q3⟩
  ·exact .inl q
  exact .inr ⟨g,cap,a,rfl,q1,by rw[hk g<|by simp[BO,Value.ownBlock]];exact q2,q3⟩⟩
theorem AC0 {l:List γ} {rc:Root} {o1 o2 o3:Oper} {ver:Nat} {enc:γ->List TV} {f c:FuncId} {rs:List TV} {d1 d2 d3 x p b0:Nat} {tys:Array TypeId} (hs:W8 P f t e sz enc c l l') (hk:Hi P N ops rest (((((E.put (some d1) (.one .junk)).put (some d2) (.one .junk)).setRoot (.ext 0) (.sl true e sz (AC enc l')::rs)).bump (.ext 0)).put (some d3) (.tup [])) Q) (m:∀x,(enc x).length=sz) (i:∀x,(enc x).all TV.flat=true) (hpin:E.amb.pin=some b0) (hx:E.slots x= .one (.view (.ext 0) ver [] 0)) (o:E.ver (.ext 0)=ver) (hp:E.ptr? (.tmp p)=some (rc,[],0)) (hc:E.boxes (.ext 0)=some (.sl true e sz (AC enc l)::rs)) (u:E.boxes rc=some [.adr ⟨b0,0,none⟩]) (hm:rc.mem=true) (h1:o1.op= .makeInterface t (.tmp x)) (h2:o2.op= .makeFunc (.func c) #[] #[.tmp p]) (h3:o3.op= .call {callee:= .value (.func f),args:= #[.tmp d1,.tmp d2],argTypes:=tys}) (k1:o1.dst=some d1) (k2:o2.dst=some d2) (k3:o3.dst=some d3) (g1:o1.guard=none) (g2:o2.guard=none) (g3:o3.guard=none) (h8:Nat.blt d1 N=true) (h9:Nat.blt d2 N=true) (a0:Nat.blt d3 N=true) (a1:Nat.beq d1 d2=false) (y:Nat.beq p d1=false) (a2:Nat.blt 0 sz=true) (ht:P.underlying t=some (.slice e)) (hf:eQ P f):Hi P N ops (o1::o2::o3::rest) E Q:=by
 have hN1':d1<N:=by simpa[B7]using h8
 have hN2':d2<N:=by simpa[B7]using h9
 have hN3':d3<N:=by simpa[B7]using a0
 have hne':d1≠d2:=by intro e;subst e;simp at a1
 have hne2':p≠d1:=by intro e;subst e;simp at y
 have hsz':0<sz:=by simpa[B7]using a2
 have a3:rc≠ .ext 0:=by grind
 intro w0 FA UA w a blk FS US hr hF hU;have z:blk (.ext 0)=b0:=by rw[hr.xblk,hr.pin b0 hpin]
 obtain⟨v,vs,T,F2,U1,U2,b1,b2,b3,b4,b5⟩:∃v vs T F2 U1 U2,w.heap[blk<|.ext 0]?=some (.cells (v::vs).toArray T (0,0))/\(∃F1,Cx w (.sl true e sz<|AC enc l) v F1 U1/\FS (.ext 0)=blk (.ext 0)::(F1++F2))/\Bo w rs vs F2 U2/\US (.ext 0)=U1++U2/\True:=by
  rcases hr.box (.ext 0) rfl with⟨q1,_⟩|⟨cs,g,T,F,q1,q2,q3,q4⟩
  ·grind
  rw[hc]at q1
  injection q1 with q1
  subst q1;simp only[Bo]at q3;obtain⟨v,k,F1,F2,U1,U2,e1,rfl,e3,q5,q6⟩:=q3;have:g=(v::k).toArray:=by grind
  grind
 obtain⟨F1,b2,b6⟩:=b2;obtain⟨T',c1⟩:∃T',w.heap[blk rc]?=some (.cells #[.pointer<|some ⟨b0,0,none⟩] T' (0,0)):=by
  rcases hr.box rc hm with⟨q1,_⟩|⟨cs,g,T,F,q1,q2,q3,q4⟩
  ·grind
  rw[u]at q1
  injection q1 with q1
  subst q1;simp only[Bo,Cx]at q3;obtain⟨v,k,F1,F2,U1,U2,e1,rfl,e3,⟨rfl,_⟩,rfl,_⟩:=q3;have:g= #[.pointer<|some ⟨b0,0,none⟩]:=by grind
  grind
 have a4:blk rc∈FS rc:=by
  rcases hr.box rc hm with⟨q1,_⟩|⟨cs,g,T,F,q1,q2,q3,q4⟩
  ·grind
  rw[q4];simp
 simp only[Cx]at b2;obtain⟨n,xs,F',b7,b8,rfl⟩:=b2;have a5:=VV b8<|Gn i l;obtain⟨rfl,rfl⟩:=LJ b8<|Gn i l;subst a5;have a6:n=l.length:=by
  have q:=b7.1;rw[Bs,ER m l]at q;exact(Nat.eq_of_mul_eq_mul_right hsz' q).symm
 subst a6;rw[A9]at b6;rw[A7]at b4;have h0:=hr.nodup<|.ext 0;rw[b6]at h0
 have a7:blk (.ext 0)∉BO v:=λhx=>(CY.1 h0).1<|Bt _ hx
 have h4:∀x∈FS (.ext 0),x≠blk rc:=λx hx e=>hr.dis _ _ a3 _ a4<|e▸hx
 have a8:blk rc∉BO v:=λhx=>h4 (blk rc) (by grind) rfl
 have a9:blk rc≠blk (.ext 0):=λe=>h4 (blk<|.ext 0) (by rw[b6];simp) e.symm
 have evx:a.eval (.tmp x)=v:=by
  have q:=hr.slot x;rw[hx]at q;simp only[E8,CN]at q;obtain⟨⟨_,_,_,q4⟩,_⟩:=q;obtain⟨q5,_⟩:=q4 o;simpa[pv,BI,Addr.add,World.cell?,b1]using q5.symm
 have evp:a.eval (.tmp p)= .pointer (some ⟨blk rc,0,none⟩):=by
  obtain⟨_,ad,q1,q2⟩:=KJ hr hp;rw[q2]
  cases rc with
  |slot n=>cases hm
  |hand=>cases hm
  |box n=>simp[pa,Addr.add]at q1;rw[<-q1]
  |ext n=>simp[pa,Addr.add]at q1;rw[<-q1]
 obtain⟨FS1,US1,r1,r2,r3⟩:=Wj hr hF hU hN1'<|.iface t v;have e1:(execOp a.eval o1).run P w= .ok (.value<|.iface t v) w:=by
  simp[execOp,h1,Instr.makeInterface,run_underlying ht,evx]
 simp only[wpList,Cl hr<|JY (P:=P) (ops:=ops) g1,Ce];refine .inl ?_
 try unfold Oper.wp
 rw[e1,Oper.upon_value,k1];have evp1:(a.put (some d1)<|.iface t v).eval (.tmp p)= .pointer (some ⟨blk rc,0,none⟩):=by rw[Dq hne2',evp]
 obtain⟨FS2,US2,s1,s2,s3⟩:=Wj r1 r2 r3 hN2'<|.func (.func c) #[] #[.pointer<|some ⟨blk rc,0,none⟩];have e2:(execOp (a.put (some d1)<|.iface t v).eval o2).run P w= .ok (.value<|.func (.func c) #[] #[.pointer<|some ⟨blk rc,0,none⟩]) w:=by
  simp[execOp,h2,Instr.makeFunc,evp1]
 simp only[wpList,Cl r1<|JY (P:=P) (ops:=ops) g2,Ce];refine .inl ?_
 try unfold Oper.wp
 rw[e2,Oper.upon_value,k2];simp only[wpList,Cl s1<|JY (P:=P) (ops:=ops) g3,Ce];refine .inl ?_;have c0:d1<a.tmps.size:=AY hN1' hr.len;have c2:d2<(a.put (some d1)<|.iface t v).tmps.size:=AY hN2' r1.len
 try unfold Oper.wp
 rw[I1 h3 hf];have ea: #[Operand.tmp d1,.tmp d2].map ((a.put (some d1)<|.iface t v).put (some d2)<|.func (.func c) #[] #[.pointer<|some ⟨blk rc,0,none⟩]).eval= #[.iface t v,.func (.func c) #[] #[.pointer<|some ⟨blk rc,0,none⟩]]:=by
  simp[G6 c2,Dq hne',G6 c0]
 rw[ea];simp only[Oper.upon];refine Calls.mono (hs w (blk rc) (blk<|.ext 0) v vs T T' (by rw[z];exact c1) b1 b7 a7 a8 a9) ?_;rintro ee w' ⟨rfl,h,c6,h5,c7⟩;have h6:((E.put (some d1)<|.one .junk).put (some d2)<|.one .junk).boxes (.ext 0)=some (.sl true e sz (AC enc l)::rs):=hc;obtain⟨G1,G2,V2,f1,f2,f3,f4⟩:∃G1 G2 V2,FS2 (.ext 0)=blk (.ext 0)::(G1++G2)/\G1=BO v/\US2 (.ext 0)=V2/\Bo w rs vs G2 V2:=by
  rcases s1.box (.ext 0) rfl with⟨q1,_⟩|⟨cs,g,T2,F2,q1,q2,q3,q4⟩
  ·grind
  rw[h6]at q1
  injection q1 with q1
  subst q1;rw[b1]at q2
  injection q2 with q2
  injection q2 with q2
  subst q2;simp only[Bo]at q3;obtain⟨v2,k,F3,F4,U1,U2,e1,rfl,e3,q5,q6⟩:=q3;simp at e1;obtain⟨rfl,rfl⟩:=e1;simp only[Cx]at q5;obtain⟨n,vs,F',c4,c5,rfl⟩:=q5;obtain⟨rfl,rfl⟩:=LJ c5<|Gn i l
  grind
 subst f2;have j:=s1.nodup<|.ext 0;rw[f1]at j;have c8:blk rc∈FS2 rc:=by
  have d0:((E.put (some d1)<|.one .junk).put (some d2)<|.one .junk).boxes rc=some [.adr ⟨b0,0,none⟩]:=u
  rcases s1.box rc hm with⟨q1,_⟩|⟨cs,g,T,F,q1,q2,q3,q4⟩
  ·grind
  rw[q4];simp
 have keepb:∀b,b<w.heap.size->b∉BO v->w'.heap[b]?=w.heap[b]? :=by
  intro b hb hv;by_cases q1:b=blk rc
  ·rw[q1];exact c6
  by_cases q2:b=blk (.ext 0)
  ·rw[q2];exact h5
  exact h.keep b hb<|by grind
 have h7:GK w w' (FS2<|.ext 0):=⟨h.os,h.tape,h.output,h.size,λb hb hn=>keepb b hb λhv=>hn<|by grind⟩
 have hG:∀b∈G2,w'.heap[b]?=w.heap[b]? :=λb hb=>keepb b (s1.inF (.ext 0) b<|by grind).2
  (λhv=>(CL.1 (CY.1 j).2).2.2 b hv b hb rfl)
 have hV:∀b∈V2,w'.heap[b]?=w.heap[b]? :=λb hb=>keepb b (s1.inU (.ext 0) b (by rw[f3];exact hb)).2
  (λhv=>s1.disU (.ext 0) (.ext 0) b (by grind) (by rw[f3];exact hb))
 obtain⟨FS3,US3,t1,t2,t3⟩:=s1.turn s2 s3 (r:= .ext 0) rfl h6 (cells':= .sl true e sz (AC enc l')::rs) (by simp) (w':=w') h7
  ⟨(
   v::vs).toArray,T,BO v++G2,by rw[h5];exact b1,by
   rw[f3];simp only[Bo];refine⟨v,vs,BO v,G2,[],V2,by simp,rfl,rfl,?_,Gi f4 hG hV⟩;simp only[Cx]
   exact⟨l'.length,_,[],c7,Vy<|Gn i l',by simp⟩,f1⟩
 obtain⟨FS4,US4,u1,u2,u3⟩:=t1.land (w':=w') (d:=d3) (s:= .tup []) (v:= .tuple #[]) (F:=[]) (U:=[]) hN3' (by simp[E8,P3]) Db (by simp) (by simp) (Ax _) rfl rfl rfl λ_ _ _=>rfl;rw[k3];exact hk _ _ _ _ _ _ _ _ u1 u2 u3
def AC8:Option (List TV)->List TV
 |some (_::ts)=>ts
 |_=>[]
def rt0:Option (Root×List Nat×Nat)->Root
 |some (r,_,_)=>r
 |none=> .hand
def s2E (E:St) (ops:Array Oper) (i:Nat) (t:TV):St:=(((((E.put (some<|Vc<|oA ops i)<|.one .junk).put (some<|Vc<|oA ops<|i+1)<|.one .junk).setRoot (.ext 0) (t::AC8 (E.boxes<|.ext 0))).bump<|.ext 0).put (some<|Vc<|oA ops<|i+2)<|.tup [])
theorem AD9 {rr:β} {l:List γ} {kk:List γ->Option β} {b0:Nat} {x:Option (List γ)} (h:x.bind kk=some rr) {enc:γ->List TV} {a:FuncId} (hs:∀l',x=some l'->W8 P (Qo (oA ops (i+2))) t e sz enc a l l') (hk:∀l',x=some l'->kk l'=some rr->RW P N ops (i+3) (s2E E ops i (.sl true e sz (AC enc l'))) Q) (b:∀x,(enc x).length=sz) (d:∀x,(enc x).all TV.flat=true) (hpin:E.amb.pin=some b0:=by kernel_rfl) (hx:E.slots (m9<|oA ops i)= .one (.view (.ext 0) (fF<|E.slots<|m9<|oA ops i) [] 0):=by kernel_rfl) (c:E.ver (.ext 0)=fF (E.slots<|m9<|oA ops i):=by kernel_rfl) (hp:E.ptr? (.tmp<|i9<|oA ops<|i+1)=some (rt0<|E.ptr?<|.tmp<|i9<|oA ops<|i+1,[],0):=by kernel_rfl) (hc:E.boxes (.ext 0)=some (.sl true e sz (AC enc l)::AC8 (E.boxes<|.ext 0)):=by kernel_rfl) (f:E.boxes (rt0<|E.ptr?<|.tmp<|i9<|oA ops<|i+1)=some [.adr ⟨b0,0,none⟩]:=by kernel_rfl) (hm:(rt0<|E.ptr?<|.tmp<|i9<|oA ops<|i+1).mem=true:=by kernel_rfl) (h1:(oA ops i).op= .makeInterface t (.tmp<|m9<|oA ops i):=by kernel_rfl) (h2:(oA ops<|i+1).op= .makeFunc (.func a) #[] #[.tmp<|i9<|oA ops<|i+1]:=by kernel_rfl) (h3:(oA ops<|i+2).op= .call {callee:= .value (.func<|Qo<|oA ops<|i+2),args:= #[.tmp<|Vc<|oA ops i,.tmp<|Vc<|oA ops<|i+1],argTypes:=ADB (oA ops<|i+2)}:=by kernel_rfl) (k1:(oA ops i).dst=some (Vc<|oA ops i):=by kernel_rfl) (k2:(oA ops<|i+1).dst=some (Vc<|oA ops<|i+1):=by kernel_rfl) (k3:(oA ops<|i+2).dst=some (Vc<|oA ops<|i+2):=by kernel_rfl) (g1:(oA ops i).guard=none:=by kernel_rfl) (g2:(oA ops<|i+1).guard=none:=by kernel_rfl) (g3:(oA ops<|i+2).guard=none:=by kernel_rfl) (hN:(Nat.blt (Vc<|oA ops i) N&&Nat.blt (Vc<|oA ops<|i+1) N&&Nat.blt (Vc<|oA ops<|i+2) N&&!Nat.beq (Vc<|oA ops i) (Vc<|oA ops<|i+1)&&!Nat.beq (i9<|oA ops<|i+1) (Vc<|oA ops i)&&Nat.blt 0 sz&&Nat.blt (i+2) ops.size)=true:=by kernel_rfl) (ht:P.underlying t=some (.slice e):=by kernel_rfl) (hf:TW P N (oA ops<|i+2)=true:=by kernel_rfl):RW P N ops i E Q:=by
 obtain⟨l',hl',h⟩:=An.1 h;simp only[Ai,D5]at hN;obtain⟨⟨⟨⟨⟨⟨q1,q2⟩,q3⟩,q4⟩,q5⟩,q6⟩,q7⟩:=hN;have b2:Nat.blt (i+1) ops.size=true:=by rw[B7]at q7⊢;omega
 have b1:Nat.blt i ops.size=true:=by rw[B7]at q7⊢;omega
 have hk':=hk l' hl' h;unfold RW at hk'⊢;rw[GP b1,GP b2,GP q7];exact AC0 (hs l' hl') hk' b d hpin hx c hp hc f hm h1 h2 h3 k1 k2 k3 g1 g2 g3 q1 q2 q3 q4 q5 q6 ht (Px hf).choose_spec.choose_spec.2.1
theorem AFt {c:Code} {a cells':List TV} {b:SV} (hf:P.funcs[f]?=some fn) (hb:fn.body=some c) (hN:fn.ntmps=N) (h:∀b0,Wp P N c (D8 (.ext a::as) (oC b0)) λe E=>(e= .normal\/e= .ret)/\∃ss E',DU P E fn.results.toList=some (ss,E')/\EJ ss=b/\E'.boxes (.ext 0)=some cells') (d:cells'.isEmpty=false:=by rfl):A3 P f (.ext a::as) b (.ext cells'::List.replicate as.length .gone):=bI oC ACc hf hb (by rw[hN];exact h) d
def lW (P:Program) (N:Nat) (ops:Array Oper) (E:St) (i:Nat):Option (FuncId×Array Value×Int×Int):=bif RY P ops E i&&G7 N (oA ops i)then
 (match(oA ops i).op with
 | .call c=>match c.callee,c.args.toList with
  | .value (.tmp t),[o1,o2]=>match E.slots t,E.cell1 P 0 o1,E.cell1 P 0 o2 with
   | .one (.fn (.func g) fr cap),some<|.int .i64 x,some (.int .i64 y)=>bif fr.isEmpty then some (g,cap,x,y)else none
   |_,_,_=>none
  |_,_=>none
 |_=>none)else none
theorem hZ {cap:Array Value} {x y:Int} (h:lW P N ops E i=some (g,cap,x,y)):RY P ops E i=true/\(∃d,(oA ops i).dst=some d/\Nat.blt d N=true)/\∃t o1 o2 tys,(oA ops i).op= .call {callee:= .value (.tmp t),args:= #[o1,o2],argTypes:=tys}/\E.slots t= .one (.fn (.func g) #[] cap)/\E.cell1 P 0 o1=some (.int .i64 x)/\E.cell1 P 0 o2=some (.int .i64 y):=by
 unfold lW at h
 cases hb:(RY P ops E i&&G7 N (oA ops i))with
 |false=>rw[hb]at h;cases h
 |true=>
  rw[hb]at h;simp only[Ae]at h;simp only[Ai]at hb;obtain⟨d,h1,h2,_⟩:=ES hb.2;refine⟨hb.1,⟨d,h1,h2⟩,?_⟩;split at h
  ·rename_i c hc;split at h
   ·rename_i t o1 o2 k1 k2;split at h
    ·rename_i g' fr cap' x' y' m1 m2 m3
     cases he:fr.isEmpty with
     |false=>rw[he]at h;cases h
     |true=>
      rw[he]at h;simp only[Ae,Aj,Bn]at h;obtain⟨rfl,rfl,rfl,rfl⟩:=h;have a:fr= #[]:=by simpa using he
      subst a;refine⟨t,o1,o2,c.argTypes,?_,m1,m2,m3⟩;have ha:c.args= #[o1,o2]:=Array.toList_inj.1 k2;rw[hc];cases c
      grind
    cases h
   cases h
  cases h
theorem wB {rr:β} {lt:γ->γ->Bool} {l:List γ} {k:γ×γ->Option β} {cap:Array Value} (a:IP P Am lt g cap) {x y:Int} (h:(yZ l x y).bind k=some rr) (hk:∀v,k v=some rr->RW P N ops (i+1) (E.put (oA ops i).dst (.one (.bool (lt v.1 v.2)))) Q) (hc:lW P N ops E i=some (g,cap,x,y):=by kernel_rfl) (hA:E.amb=Am l:=by kernel_rfl):RW P N ops i E Q:=by
 obtain⟨h1,⟨d,h2,h3⟩,t,o1,o2,tys,h4,h5,h6,h7⟩:=hZ hc;obtain⟨h8,h9⟩:=HW h1;unfold RW;rw[GP h8];exact AC1 a h d (λv hv=>by have:=hk v hv;rw[h2]at this;exact this) hA h4 h5 h6 h7 h2 h3 h9
theorem wA {rr:β} {l:List γ} {k:List γ->Option β} {cap:Array Value} (a:Nl P Am sf cap) (hB:∀l l',(Am l).B=(Am l').B/\(Am l).pin=none) {x y:Int} (h:(qW l x y).bind k=some rr) (hk:∀v,k v=some rr->RW P N ops (i+1) (({E with amb:=Am v}:St).put (oA ops i).dst<|.tup []) Q) (hc:lW P N ops E i=some (sf,cap,x,y):=by kernel_rfl) (hA:E.amb=Am l:=by kernel_rfl):RW P N ops i E Q:=by
 obtain⟨h1,⟨d,h2,h3⟩,t,o1,o2,tys,h4,h5,h6,h7⟩:=hZ hc;obtain⟨h8,h9⟩:=HW h1;unfold RW;rw[GP h8];exact ACZ a hB h d (λv hv=>by have:=hk v hv;rw[h2]at this;exact this) hA h4 h5 h6 h7 h2 h3 h9
def ADp (P:Program) (N:Nat) (ops:Array Oper) (E:St) (i:Nat):Option (FuncId×List AV):=bif RY P ops E i&&G7 N (oA ops i)then
 (match(oA ops i).op with
 | .call c=>match c.callee with
  | .value (.func f)=>match P.funcs[f]? with
   |some fn=>match Jp P E ((c.argTypes.toList.zip c.args.toList).map λ(t,x)=>(false,t,x)) (List.replicate c.args.size none)with
    | some (l, b) => bif b && (l.all tH && (!(fn.name == "runtime.NumGoroutine") && (!fn.body.isNone && Nat.beq c.argTypes.size c.args.size))) then some (f, l) else none
    |none=>none
   |none=>none
  |_=>none
 |_=>none)else none
theorem Tg {rr:β} {l:List AV} {k:List γ->Option β} {x:Option (List γ)} (h:x.bind k=some rr) (hB:∀l l',(Am l).B=(Am l').B/\(Am l).pin=none) (a:∀v,x=some v->Nn P f (Am xl) l (Am v)) (hk:∀v,k v=some rr->RW P N ops (i+1) (({E with amb:=Am v}:St).put (oA ops i).dst<|.tup []) Q) (hc:ADp P N ops E i=some (f,l):=by kernel_rfl) (hA:E.amb=Am xl:=by kernel_rfl):RW P N ops i E Q:=by
 unfold ADp at hc
 cases hb:(RY P ops E i&&G7 N (oA ops i))with
 |false=>grind
 |true=>
  rw[hb]at hc;simp only[Ae]at hc;simp only[Ai]at hb;obtain⟨d,h1,h2,_⟩:=ES hb.2;obtain⟨h8,h9⟩:=HW hb.1;split at hc
  ·rename_i c e;split at hc
   ·rename_i f' m;split at hc
    ·rename_i fn g;split at hc
     ·rename_i l' b j
      cases hq : (b && (l'.all tH && (!(fn.name == "runtime.NumGoroutine") && (!fn.body.isNone && Nat.beq c.argTypes.size c.args.size)))) with
      |false=>grind
      |true=>
       rw[hq]at hc;simp only[Ae,Aj,Bn]at hc;obtain⟨rfl,rfl⟩:=hc;simp only[Ai,D5]at hq;obtain⟨rfl,q1,q2,q3,q4⟩:=hq;unfold RW;rw[GP h8];refine AEg (fn:=fn) h d Am (A:=Am xl) (args:=c.args) (tys:=c.argTypes) ?_ hA (λv=>⟨(hB _ _).1,(hB _ v).2⟩) j (cL q1) a (λv _ hv=>by have:=hk v hv;rw[h1]at this;exact this) g q2 q3 h1 h2 (Bf q4) h9;rw[e];cases c
       grind
     cases hc
    cases hc
   cases hc
  cases hc
theorem ra {Am:α->RV} {e:Exit} {v r:α} (h:some v=some r) (he:e= .normal\/e= .ret:=by first|exact .inr rfl|exact .inl rfl) (hA:E.amb=Am v:=by kernel_rfl):(e= .normal\/e= .ret)/\E.amb=Am r:=by grind
structure RS where
 s:List (Nat×SV)
 b:List (Root×List TV)
 a:RV
def RS.st (x:RS):St:=AEJ x.s x.b x.a
abbrev rs (s:List (Nat×SV)) (b:List (Root×List TV)):RS:=⟨s,b,RV.none⟩
abbrev Ss (s:List (Nat×SV)) (b:List (Root×List TV)) (a:RV):RS:=⟨s,b,a⟩
def RS.in (X:RS) (E:St):Bool:=X.b.all λr=>r.1.mem&&(E.boxes r.1).isSome
def RS.nf (X:RS) (E:St):St:=Ng E (X.s.map Prod.fst)<|X.b.map Prod.fst
def YR (X:RS) (E:St):Prop:=X.in E=true/\X.nf E=X.st
def jR (H:V->RS) (v:Option V) (Q:Exit->St->Prop):Exit->St->Prop
 | .normal,E=>∃a,v=some a/\YR (H a) E
 |e,E=>Q e E
def lR (id:Nat) (H:S->RS) (H2:V->RS) (o:S⊕V⊕W) (Q:Exit->St->Prop):Exit->St->Prop
 | .normal,E=>∃s,o= .inl s/\YR (H s) E
 | .exit i,E=>if i=id then∃v,o= .inr (.inl v)/\YR (H2 v) E else Q (.exit i) E
 |e,E=>Q e E
def lR1 (id:Nat) (H:S->RS) (H2:V->RS) (o:S⊕V) (Q:Exit->St->Prop):Exit->St->Prop
 | .normal,E=>∃s,o= .inl s/\YR (H s) E
 | .exit i,E=>if i=id then∃v,o= .inr v/\YR (H2 v) E else Q (.exit i) E
 |e,E=>Q e E
variable {X:RS} {H:V->RS} {H2:V->RS}
theorem Av {c:Code} (h:YR X E) (hw:Wp P N c X.st Q):Wp P N c E Q:=Wp.norm _ _ _ (by rw[List.all_map];exact h.1) h.2 hw
theorem Vm {c:Code} {x:Option V} (h:x.bind k=some r) (H:V->RS) (h1:∀a,x=some a->Wp P N c E (jR H (some a) Q)) (h2:∀a,k a=some r->∀E',YR (H a) E'->Q .normal E'):Wp P N c E Q:=by
 obtain⟨a,ha,h⟩:=An.1 h
 refine Wp.mono (h1 a ha) λe E' hq=>?_
 cases e<;>try exact hq
 obtain⟨a',h3,h4⟩:=hq
 grind
theorem fj2 {c:Code} {k:V⊕W->Option β} {x:Option (V⊕W)} (h:x.bind k=some r) (H:V->RS) (h1:∀a,x=some a->k a=some r->Wp P N c E (jR H a.getLeft? Q)) (h2:∀a,k (.inl a)=some r->∀E',YR (H a) E'->Q .normal E'):Wp P N c E Q:=by
 obtain⟨a,ha,h⟩:=An.1 h
 refine Wp.mono (h1 a ha h) λe E' hq=>?_
 cases e<;>try exact hq
 obtain⟨a',h3,h4⟩:=hq
 grind
theorem Su {H:S->RS} {Q':Exit->St->Prop} {c:Code} {body:S->Option (S⊕A)} {a:A} (hb:∀s o,body s=some o->(∀a',o= .inr a'->a'=a)->Wp P N c (H s).st (λe E=>match e with| .normal=>∃s,o= .inl s/\YR (H s) E|e=>Q' e E)):
  ∀{n:Nat} {s:S} {E:St},YR (H s) E->QH body n s=some a->cR P N c Q' n E
 |0,s,E,_,h=>by cases h
 |n+1,s,E,hn,h=>by
  simp only[QH]at h;simp only[cR];refine Av hn ?_;split at h
  ·cases h
  ·rename_i s' hs
   refine Wp.mono (hb s _ hs (λa' h=>by cases h)) λe E' hq=>?_
   cases e<;>try exact hq
   obtain⟨s2,h2,h3⟩:=hq
   injection h2 with h2
   subst h2;exact Su hb h3 h
  rename_i a' hs
  injection h with h
  refine Wp.mono (hb s _ hs λa2 h2=>by grind) λe E' hq=>?_
  cases e<;>try exact hq
  grind
theorem AEP {id:Nat} {c:Code} {k:V⊕W->Option β} {H:S->RS} {body:S->Option (S⊕V⊕W)} (h:(Ao body s0).bind k=some r) (h0:YR (H s0) E) (hb:∀s o,body s=some o->(∀w,o= .inr (.inr w)->k (.inr w)=some r)->Wp P N c (H s).st (lR id H H2 o Q)) (h2:∀v,k (.inl v)=some r->∀E',YR (H2 v) E'->Q .normal E'):Wp P N (.block id (.loop c)) E Q:=by
 obtain⟨a,ha,h⟩:=An.1 h;obtain⟨n,hn⟩:=HN.1 ha;refine Wp.block<|Wp.loop n<|Su (H:=H) (a:=a) (λs o hs ho=>?_) h0 hn
 refine Wp.mono (hb s o hs (λw hw=>by rw[ho _ hw];exact h)) λe E' hq=>?_
 cases e<;>try exact hq
 simp only[lR]at hq;simp only[X1]
 grind
theorem AEQ {id:Nat} {c:Code} {H:S->RS} {body:S->Option (S⊕V)} (h:(Ao body s0).bind k=some r) (h0:YR (H s0) E) (hb:∀s o,body s=some o->Wp P N c (H s).st (lR1 id H H2 o Q)) (h2:∀v,k v=some r->∀E',YR (H2 v) E'->Q .normal E'):Wp P N (.block id (.loop c)) E Q:=by
 obtain⟨a,ha,h⟩:=An.1 h;obtain⟨n,hn⟩:=HN.1 ha;refine Wp.block<|Wp.loop n<|Su (H:=H) (a:=a) (λs o hs ho=>?_) h0 hn
 refine Wp.mono (hb s o hs) λe E' hq=>?_
 cases e<;>try exact hq
 simp only[lR1]at hq;simp only[X1]
 grind
theorem LT {id:Nat} {c:Code} {k:V⊕W->Option β} {body:S->Option (S⊕V⊕W)} (h:(Ao body s0).bind k=some r) (H:S->RS) (H2:V->RS) (hb:∀s o,body s=some o->(∀w,o= .inr (.inr w)->k (.inr w)=some r)->Wp P N c (H s).st (lR id H H2 o Q)) (h2:∀v,k (.inl v)=some r->∀E',YR (H2 v) E'->Q .normal E') (h0:(H s0).in E=true:=by kernel_rfl) (hn:(H s0).nf E=(H s0).st:=by kernel_rfl):Wp P N (.block id<|.loop c) E Q:=AEP h ⟨h0,hn⟩ hb h2
theorem EQ {id:Nat} {c:Code} {body:S->Option (S⊕V)} (h:(Ao body s0).bind k=some r) (H:S->RS) (H2:V->RS) (hb:∀s o,body s=some o->Wp P N c (H s).st (lR1 id H H2 o Q)) (h2:∀v,k v=some r->∀E',YR (H2 v) E'->Q .normal E') (h0:(H s0).in E=true:=by kernel_rfl) (hn:(H s0).nf E=(H s0).st:=by kernel_rfl):Wp P N (.block id<|.loop c) E Q:=AEQ h ⟨h0,hn⟩ hb h2
theorem Dy {c:Code} {x:Option V} (h:x.bind k=some r) (H:V->RS) (h1:∀a,x=some a->Wp P N c E (jR H (some a) (Kb (λE'=>Wp P N y E' Q) Q))) (h2:∀a,k a=some r->Wp P N y (H a).st Q):Wp P N (.seq c y) E Q:=Wp.seq<|Vm h H h1 λa ha E' hE=>Av hE<|h2 a ha
theorem zD {id:Nat} {c:Code} {body:S->Option (S⊕V)} (h:(Ao body s0).bind k=some r) (H:S->RS) (H2:V->RS) (hb:∀s o,body s=some o->Wp P N c (H s).st (lR1 id H H2 o (Kb (λE'=>Wp P N y E' Q) Q))) (h2:∀v,k v=some r->Wp P N y (H2 v).st Q) (h0:(H s0).in E=true:=by kernel_rfl) (hn:(H s0).nf E=(H s0).st:=by kernel_rfl):Wp P N (.seq (.block id<|.loop c) y) E Q:=Wp.seq<|AEQ h ⟨h0,hn⟩ hb λv hv E' hE=>Av hE<|h2 v hv
theorem yl2 {id:Nat} {c:Code} {k:V⊕W->Option β} {body:S->Option (S⊕V⊕W)} (h:(Ao body s0).bind k=some r) (H:S->RS) (H2:V->RS) (hb:∀s o,body s=some o->(∀w,o= .inr (.inr w)->k (.inr w)=some r)->Wp P N c (H s).st (lR id H H2 o (Kb (λE'=>Wp P N y E' Q) Q))) (h2:∀v,k (.inl v)=some r->Wp P N y (H2 v).st Q) (h0:(H s0).in E=true:=by kernel_rfl) (hn:(H s0).nf E=(H s0).st:=by kernel_rfl):Wp P N (.seq (.block id<|.loop c) y) E Q:=Wp.seq<|AEP h ⟨h0,hn⟩ hb λv hv E' hE=>Av hE<|h2 v hv
theorem en {a v:V} (h:some v=some a) (hb:(H v).in E=true:=by kernel_rfl) (hn:(H v).nf E=(H v).st:=by kernel_rfl):∃a',some a=some a'/\YR (H a') E:=by
 injection h with h
 subst h;exact⟨_,rfl,hb,hn⟩
theorem em {a:V⊕W} {v:V} (h:some (.inl v)=some a) (hb:(H v).in E=true:=by kernel_rfl) (hn:(H v).nf E=(H v).st:=by kernel_rfl):∃a',a.getLeft? =some a'/\YR (H a') E:=by
 injection h with h
 subst h;exact⟨_,rfl,hb,hn⟩
theorem el {H:S->RS} {s:S} {o:S⊕W} (h:some (.inl s)=some o) (hb:(H s).in E=true:=by kernel_rfl) (hn:(H s).nf E=(H s).st:=by kernel_rfl):∃s,o= .inl s/\YR (H s) E:=by
 injection h with h
 subst h;exact⟨_,rfl,hb,hn⟩
theorem ex {o:S⊕(V⊕W)} {v:V} (h:some (.inr (.inl v))=some o) (hb:(H v).in E=true:=by kernel_rfl) (hn:(H v).nf E=(H v).st:=by kernel_rfl):∃v,o= .inr (.inl v)/\YR (H v) E:=by
 injection h with h
 subst h;exact⟨_,rfl,hb,hn⟩
theorem ev {o:S⊕V} {v:V} (h:some (.inr v)=some o) (hb:(H v).in E=true:=by kernel_rfl) (hn:(H v).nf E=(H v).st:=by kernel_rfl):∃v,o= .inr v/\YR (H v) E:=by
 injection h with h
 subst h;exact⟨_,rfl,hb,hn⟩
def ADO (P:Program) (N:Nat) (ops:Array Oper) (ts mv dn:List Nat) (E:St) (X:RS):Bool:=match wV P N ops ts mv (ops.size+1) dn E with
 |some L=>L.all λE'=>X.in E'
 |none=>false
theorem ACe {ts:List Nat} {mv:List Nat} (hb:ADO P N ops ts mv dn E X=true) (hn:(AAw P N ops ts mv dn E).map X.nf=(AAw P N ops ts mv dn E).map λ_=>X.st) (hq:∀E',YR X E'->Q .normal E'):KW P N ops ts dn E Q:=by
 unfold ADO at hb;split at hb
 ·rename_i L hL
  refine tV hL λE' hE=>hq E' ⟨Qv.1 hb E' hE,?_⟩
  rw[AAw,hL,AT]at hn;have:∀(L:List St),L.map X.nf=L.map (λ_=>X.st)->∀E'∈L,X.nf E'=X.st:=by simp
  exact this L hn E' hE
 cases hb
section
variable {ts:List Nat}
theorem NK {Q0:Exit->St->Prop} {a v:V} (mv:List Nat) (h:some v=some a) (hb:ADO P N ops ts mv dn E (H v)=true:=by kernel_rfl) (hn:(AAw P N ops ts mv dn E).map (H v).nf=(AAw P N ops ts mv dn E).map (λ_=>(H v).st):=by kernel_rfl):KW P N ops ts dn E (jR H (some a) Q0):=
 ACe hb hn λE' hE=>by
  injection h with h
  subst h;exact⟨_,rfl,hE⟩
end
theorem rk (k:Nat) (h:RW P N ops (i+k) (PS P N ops k 0 i E) Q) (hk:(RP P N ops k 0 i E).isSome=true:=by kernel_rfl):RW P N ops i E Q:=yR k 0 h hk
theorem rkm (k m:Nat) (h:RW P N ops (i+k) (PS P N ops k m i E) Q) (hk:(RP P N ops k m i E).isSome=true:=by kernel_rfl):RW P N ops i E Q:=yR k m h hk
theorem AB7 (a b:Nat):Nat.ble a (b+(a-b))=true:=by rw[Qt];omega
theorem gm (m:Nat) (h:Q .normal (PS P N ops (ops.size-i) m i E)) (hk:(RP P N ops (ops.size-i) m i E).isSome=true:=by kernel_rfl):RW P N ops i E Q:=yR (ops.size-i) m (RW.nil h<|AB7 _ _) hk
theorem g0 (h:Q .normal (PS P N ops (ops.size-i) 0 i E)) (hk:(RP P N ops (ops.size-i) 0 i E).isSome=true:=by kernel_rfl):RW P N ops i E Q:=gm 0 h hk
section
variable {id:Nat}
theorem wm (m:Nat) (h:RW P N ops2 0 (PS P N ops (ops.size-i) m i E) (Kb (λE'=>Wp P N y E' Q) Q)) (hk:(RP P N ops (ops.size-i) m i E).isSome=true:=by kernel_rfl):RW P N ops i E (Kb (λE'=>Wp P N (.seq (.region id ops2 false) y) E' Q) Q):=gm m (ws h) hk
end
section
variable {id:Nat}
theorem w0 (h:RW P N ops2 0 (PS P N ops (ops.size-i) 0 i E) (Kb (λE'=>Wp P N y E' Q) Q)) (hk:(RP P N ops (ops.size-i) 0 i E).isSome=true:=by kernel_rfl):RW P N ops i E (Kb (λE'=>Wp P N (.seq (.region id ops2 false) y) E' Q) Q):=wm 0 h hk
end
section
variable {id:Nat}
theorem wg (h:Kb (λE'=>Wp P N y E' Q) Q .normal (PS P N ops (ops.size-0) 0 0 E)) (hk:(RP P N ops (ops.size-0) 0 0 E).isSome=true:=by kernel_rfl):Wp P N (.seq (.region id ops false) y) E Q:=ws<|g0 h hk
end
section
variable {x:Code}
theorem qs (h:Wp P N x E (Kb (λE'=>Wp P N y E' Q) Q)):Wp P N (.seq x y) E Q:=Wp.seq h
end
theorem qk (h:Q .normal E):Wp P N .skip E Q:=Wp.skip h
theorem qt (h:Q .ret E):Wp P N .ret E Q:=Wp.ret h
theorem qx {id:Nat} (h:Q (.exit id) E):Wp P N (.exit id) E Q:=Wp.exit h
theorem qb {id:Nat} {c:Code} (h:Wp P N c E (X1 id Q)):Wp P N (.block id c) E Q:=Wp.block h
theorem qr {id:Nat} (h:RW P N ops 0 E Q):Wp P N (.region id ops false) E Q:=ADt h
section
variable {id:Nat} {c:Code}
theorem qd {Q1:Exit->St->Prop} (h:Wp P N c E (X1 id (Kb (λE'=>Wp P N y E' Q1) Q1))):Wp P N .skip E (Kb (λE'=>Wp P N (.seq (.block id c) y) E' Q1) Q1):=qk<|qs<|qb h
end
section
variable {id:Nat}
theorem qw {z:Code} (h:Kb (λE'=>Wp P N y E' (Kb (λE'=>Wp P N z E' Q) Q)) (Kb (λE'=>Wp P N z E' Q) Q) .normal (PS P N ops (ops.size-0) 0 0 E)) (hk:(RP P N ops (ops.size-0) 0 0 E).isSome=true:=by kernel_rfl):Wp P N (.seq (.seq (.region id ops false) y) z) E Q:=qs<|wg h hk
end
section
variable {id:Nat}
theorem qv {z:Code} (h:RW P N ops 0 E (Kb (λE'=>Wp P N y E' (Kb (λE'=>Wp P N z E' Q) Q)) (Kb (λE'=>Wp P N z E' Q) Q))):Wp P N (.seq (.seq (.region id ops false) y) z) E Q:=qs<|ws h
end
theorem wq {id:Nat} (h:Q .ret (PS P N ops (ops.size-0) 0 0 E)) (hk:(RP P N ops (ops.size-0) 0 0 E).isSome=true:=by kernel_rfl):Wp P N (.seq (.region id ops false) .ret) E Q:=wg (qt h) hk
theorem aq (hp:AW P E (oA ops i)=some s) (h:RW P N ops (i+1) (E.put (oA ops i).dst s) Q) (hk:qok P N ops i E=true:=by kernel_rfl):RW P N ops i E Q:=RW.q hp h hk
theorem C4 (k:Nat) (hp:AW P (PS P N ops k 0 i E) (oA ops (i+k))=some s) (h:RW P N ops (i+k+1) ((PS P N ops k 0 i E).put (oA ops (i+k)).dst s) Q) (hk:(RP P N ops k 0 i E).isSome=true:=by kernel_rfl) (hq:qok P N ops (i+k) (PS P N ops k 0 i E)=true:=by kernel_rfl):RW P N ops i E Q:=yR k 0 (RW.q hp h hq) hk
theorem kq {ts:List Nat} (i:Nat) (hp:AW P E (oA ops i)=some s) (h:KW P N ops ts (i::dn) (E.put (oA ops i).dst s) Q) (hk:(qok P N ops i E&&qR ops ts dn i)=true:=by kernel_rfl):KW P N ops ts dn E Q:=KW.q i hp h hk
theorem ac {l:List AV} {x:Option α} (h:x.bind kk=some r) {enc:α->SV} (a:∀v,x=some v->A3 P (Qo (oA ops i)) l (enc v) (List.replicate n .gone)) (hk:∀v,kk v=some r->RW P N ops (i+1) ((clE P E (oA ops i) 0).put (oA ops i).dst (enc v)) Q) (b:dG P E (oA ops i) 0=some l:=by kernel_rfl) (hc:shB P E (oA ops i) 0=true\/∀v,AN (enc v)=false:=by exact .inl<|by kernel_rfl) (ho:(RY P ops E i&&TW P N (oA ops i))=true:=by kernel_rfl):RW P N ops i E Q:=RW.c 0 h a (λv _=>hk v) b hc ho
theorem Bm {l:List AV} {x:Option α} (k:Nat) (h:x.bind kk=some r) {enc:α->SV} (a:∀v,x=some v->A3 P (Qo (oA ops (i+k))) l (enc v) (List.replicate n .gone)) (hk:∀v,kk v=some r->RW P N ops (i+k+1) ((clE P (PS P N ops k 0 i E) (oA ops (i+k)) 0).put (oA ops (i+k)).dst (enc v)) Q) (hr:(RP P N ops k 0 i E).isSome=true:=by kernel_rfl) (b:dG P (PS P N ops k 0 i E) (oA ops<|i+k) 0=some l:=by kernel_rfl) (hc:shB P (PS P N ops k 0 i E) (oA ops<|i+k) 0=true\/∀v,AN (enc v)=false:=by exact .inl<|by kernel_rfl) (ho:(RY P ops (PS P N ops k 0 i E) (i+k)&&TW P N (oA ops<|i+k))=true:=by kernel_rfl):RW P N ops i E Q:=yR k 0 (RW.c 0 h a (λv _=>hk v) b hc ho) hr
theorem acm {l:List AV} {x:Option α} (m:Nat) (h:x.bind kk=some r) {enc:α->SV} (a:∀v,x=some v->A3 P (Qo (oA ops i)) l (enc v) (List.replicate n .gone)) (hk:∀v,kk v=some r->RW P N ops (i+1) ((clE P E (oA ops i) m).put (oA ops i).dst (enc v)) Q) (b:dG P E (oA ops i) m=some l:=by kernel_rfl) (hc:shB P E (oA ops i) m=true\/∀v,AN (enc v)=false:=by exact .inl<|by kernel_rfl) (ho:(RY P ops E i&&TW P N (oA ops i))=true:=by kernel_rfl):RW P N ops i E Q:=RW.c m h a (λv _=>hk v) b hc ho
section
variable {ts:List Nat}
theorem DW {l:List AV} {x:Option α} (m:Nat) (h:x.bind kk=some r) {enc:α->SV} (a:∀v,x=some v->A3 P (Qo (oA ops i)) l (enc v) (List.replicate n .gone)) (hk:∀v,kk v=some r->KW P N ops ts (i::dn) ((clE P E (oA ops i) m).put (oA ops i).dst (enc v)) Q) (b:dG P E (oA ops i) m=some l:=by kernel_rfl) (hc:shB P E (oA ops i) m=true\/∀v,AN (enc v)=false:=by exact .inl<|by kernel_rfl) (ho:(RY P ops E i&&TW P N (oA ops i)&&((bits m<|GG<|oA ops i).all (λx=>!x.1)||ts.contains i))=true:=by kernel_rfl):KB P N ops ts dn i E Q:=KB.c m h a (λv _=>hk v) b hc ho
end
theorem RZ {l:List AV} {x:Option α} (h:x.bind kk=some r) {enc:α->SV} {a:List TV} (c:∀v,x=some v->A3 P (Qo (oA ops i)) (.ext a::l) (enc v) (.ext (fin v)::List.replicate n .gone)) (hk:∀v,kk v=some r->RW P N ops (i+1) (((E.setRoot (pK E (oA ops i)) (fin v)).bump (pK E (oA ops i))).put (oA ops i).dst (enc v)) Q) (b:∀v,(fin v).length=a.length:=by exact λ_=>rfl) (d:yK P E (oA ops i)=some l:=by kernel_rfl) (hb:E.boxes (pK E<|oA ops i)=some a:=by kernel_rfl) (hc:cxB P E (oA ops i)=true\/∀v,AN (enc v)=false/\Ay (fin v)=false:=by exact .inl<|by kernel_rfl) (ho:(RY P ops E i&&TW P N (oA ops i)&&yJ E (oA ops i))=true:=by kernel_rfl):RW P N ops i E Q:=AEZ h c b (λv _=>hk v) d hb hc ho
theorem kcx {ts:List Nat} {l:List AV} {x:Option α} (h:x.bind kk=some r) {enc:α->SV} {a:List TV} (c:∀v,x=some v->A3 P (Qo (oA ops i)) (.ext a::l) (enc v) (.ext (fin v)::List.replicate n .gone)) (hk:∀v,kk v=some r->KW P N ops ts (i::dn) (((E.setRoot (pK E (oA ops i)) (fin v)).bump (pK E (oA ops i))).put (oA ops i).dst (enc v)) Q) (b:∀v,(fin v).length=a.length:=by exact λ_=>rfl) (d:yK P E (oA ops i)=some l:=by kernel_rfl) (hb:E.boxes (pK E<|oA ops i)=some a:=by kernel_rfl) (hc:cxB P E (oA ops i)=true\/∀v,AN (enc v)=false/\Ay (fin v)=false:=by exact .inl<|by kernel_rfl) (ho:(RY P ops E i&&TW P N (oA ops i)&&yJ E (oA ops i)&&ts.contains i)=true:=by kernel_rfl):KB P N ops ts dn i E Q:=AE1 h c b (λv _=>hk v) d hb hc ho
theorem BV {b:Bool} (k t:Nat) (h:(bif b then tx else ty)=some r) (ht:tx=some r->RW P N ops (i+k) ((PS P N ops k 0 i E).rs t true) Q) (hf:ty=some r->RW P N ops (i+k) ((PS P N ops k 0 i E).rs t false) Q) (hr:(RP P N ops k 0 i E).isSome=true:=by kernel_rfl) (hc:(PS P N ops k 0 i E).slots t=B b:=by kernel_rfl):RW P N ops i E Q:=yR k 0 (AEX t h ht hf hc) hr
def cJ (fn:Func):Code:=fn.body.getD .skip
theorem Xz (h:fn.body.isSome=true):fn.body=some (cJ fn):=by
 unfold cJ
 cases e:fn.body with
 |none=>rw[e]at h;cases h
 |some c=>rfl
theorem gf {a:SV} (hf:P.funcs[f]?=some fn) (hN:fn.ntmps=N) (h:Wp P N (cJ fn) (D8 as) λe E=>(e= .normal\/e= .ret)/\∃ss E',DU P E fn.results.toList=some (ss,E')/\EJ ss=a) (hb:fn.body.isSome=true:=by kernel_rfl):A3 P f as a (List.replicate as.length .gone):=gk hf (Xz hb) hN h
theorem gfa {A':RV} (hf:P.funcs[f]?=some fn) (hN:fn.ntmps=N) (hB:∀l l',(Am l).B=(Am l').B/\(Am l).pin=none) (h:Wp P N (cJ fn) (D8 as (Am xl)) λe E=>(e= .normal\/e= .ret)/\E.amb=A') (hb:fn.body.isSome=true:=by kernel_rfl) (hr:fn.results= #[]:=by rfl):Nn P f (Am xl) as A':=yF hf (Xz hb) hr (hB xl xl).2 (by rw[hN];exact h)
theorem y9 {a cells':List TV} {b:SV} (hf:P.funcs[f]?=some fn) (hN:fn.ntmps=N) (h:Wp P N (cJ fn) (D8 (.ext a::as)) λe E=>(e= .normal\/e= .ret)/\∃ss E',DU P E fn.results.toList=some (ss,E')/\EJ ss=b/\E'.boxes (.ext 0)=some cells') (hb:fn.body.isSome=true:=by kernel_rfl) (c:cells'.isEmpty=false:=by rfl):A3 P f (.ext a::as) b (.ext cells'::List.replicate as.length .gone):=gkx hf (Xz hb) hN h c
theorem AFs (h:YR X E) {a:List TV} (hc:X.st.boxes (.ext 0)=some a:=by kernel_rfl):(Exit.normal= .normal\/Exit.normal= .ret)/\∃ss E1,DU P E []=some (ss,E1)/\EJ ss= .tup []/\E1.boxes (.ext 0)=some a:=by
 refine⟨.inl rfl,[],E,rfl,rfl,?_⟩;obtain⟨h1,h2⟩:=h;rw[<-h2]at hc;unfold RS.nf at hc;by_cases hm:(X.b.map Prod.fst).contains (.ext 0)=true
 ·have e:(Ng E (X.s.map Prod.fst)<|X.b.map Prod.fst).boxes (.ext 0)=some ((E.boxes<|.ext 0).getD []):=by
   show((X.b.map Prod.fst).map λr=>(r,(E.boxes r).getD [])).lookup (.ext 0)=_;rw[N9 (f:=λr=>(E.boxes r).getD []),AG hm]
  rw[e]at hc;unfold RS.in at h1;have h3:((E.boxes<|.ext 0).isSome)=true:=by grind
  cases he:E.boxes (.ext 0)with
  |none=>grind
  |some v=>grind
 have e:(Ng E (X.s.map Prod.fst)<|X.b.map Prod.fst).boxes (.ext 0)=none:=by
  show((X.b.map Prod.fst).map λr=>(r,(E.boxes r).getD [])).lookup (.ext 0)=_
  grind
 grind
theorem ACl {Am:α->RV} {v r:α} (h:some v=some r) (hE:YR X E) (hX:X.st.amb=Am v:=by kernel_rfl):(Exit.normal= .normal\/Exit.normal= .ret)/\E.amb=Am r:=by
 injection h with h
 rw[<-h,<-hX,<-hE.2];exact⟨.inl rfl,rfl⟩
theorem P2 {n:Int} (h1: -9223372036854775808<=n) (h2:n<=9223372036854775807):IntKind.i64.wrap n=n:=by rw[IntKind.wrap_i64];omega
theorem Cr {a b:Int} (h1: -9223372036854775808<=a+b:=by omega) (h2:a+b<=9223372036854775807:=by omega):ad a b=a+b:=P2 h1 h2
theorem Co {a b:Int} (h1: -9223372036854775808<=a-b:=by omega) (h2:a-b<=9223372036854775807:=by omega):sb a b=a-b:=P2 h1 h2
theorem Qb {a b:Int} (h1: -9223372036854775808<=a*b) (h2:a*b<=9223372036854775807):ml a b=a*b:=P2 h1 h2
theorem ad1 (h:i<9223372036854775807:=by omega):ad (i:Int) 1=((i+1:Nat):Int):=by rw[Cr]<;>omega
theorem JT (a b:ByteArray):seq a b=decide (a=b):=by
 unfold seq;rw[Fo,Da,A4];constructor
 ·intro h;rw[ByteArray.toList_eq,ByteArray.toList_eq]at h;cases a;cases b;simp only[ByteArray.mk.injEq];exact AC4 h
 intro h;rw[h]
theorem Au:gi l (i:Int)=l[i]? :=by rfl
theorem Em {x:α}:si l (i:Int) x=l.set i x:=by simp[si]
theorem FV:decide ((i:Int)<ln l)=decide (i<l.length):=by
 rw[Fo,A4,A4];simp[ln]
theorem cF [Decidable p] {a b:α} (h:¬p:=by omega):cond (decide p) a b=b:=by grind
theorem cT [Decidable p] {a b:α} (h:p:=by omega):cond (decide p) a b=a:=by grind
theorem DI {a b:β}:cond (decide (((l.length:Nat):Int)<ln l)) a b=b:=cF (by rw[ln];omega)
theorem DV {a b:β} (h:i<l.length):cond (decide ((i:Int)<ln l)) a b=a:=cT (by rw[ln];omega)
def O9 (step:σ->Nat->α->σ⊕β) (fin:σ->β):List α->Nat->σ->β
 |[],_,s=>fin s
 |x::l,i,s=>match step s i x with
  | .inl s'=>O9 step fin l (i+1) s'
  | .inr b=>b
theorem gV {body:S->Option (S⊕β)} (a:σ->Int->S) (l:List α) (step:σ->Nat->α->σ⊕β) (fin:σ->β) (c:Nat->σ->Prop) (h1:∀s i x,l[i]?=some x->c i s->body (a s (i:Nat))=some (match step s i x with| .inl s'=> .inl (a s' ((i+1:Nat):Int))| .inr b=> .inr b)/\∀s',step s i x= .inl s'->c (i+1) s') (h2:∀s,c l.length s->body (a s (l.length:Nat))=some (.inr (fin s))):∀(n i:Nat) (s:σ),i+n=l.length->c i s->Ao body (a s (i:Nat))=some (O9 step fin (l.drop i) i s)
 |0,i,s,hi,hs=>by
  have:i=l.length:=by omega
  subst this;rw[Aw,h2 s hs,EY<|Ax _];rfl
 |n+1,i,s,hi,hs=>by
  have d:i<l.length:=by omega
  obtain⟨h3,h4⟩:=h1 s i l[i] (Ab d) hs;rw[Aw,h3,AM d,O9]
  cases e:step s i l[i]with
  |inl s'=>simp only[];exact gV a l step fin c h1 h2 n (i+1) s' (by omega)<|h4 s' e
  |inr b=>rfl
theorem O0 {s:σ} {body:S->Option (S⊕β)} (a:σ->Int->S) (l:List α) (step:σ->Nat->α->σ⊕β) (fin:σ->β) (c:Nat->σ->Prop) (h1:∀s i x,l[i]?=some x->c i s->body (a s (i:Nat))=some (match step s i x with| .inl s'=> .inl (a s' ((i+1:Nat):Int))| .inr b=> .inr b)/\∀s',step s i x= .inl s'->c (i+1) s') (h2:∀s,c l.length s->body (a s (l.length:Nat))=some (.inr (fin s))) (hs:c 0 s):Ao body (a s 0)=some (O9 step fin l 0 s):=
 gV a l step fin c h1 h2 l.length 0 s (by omega) hs
def zl (z:α->Nat) (l:List α):Nat:=l.length+(l.map z).sum
theorem iV {z:α->Nat} {x:α} (h:x∈l):z x+1<=zl z l:=by
 unfold zl
 induction l with
 |nil=>cases h
 |cons y l ih=>grind
theorem Qz {z:α->Nat}:l.length<=zl z l:=by unfold zl;omega
theorem mA {body:Int->Option (Int⊕Unit⊕Bool)} (a:List α) (b:List β) (p:α->β->Bool) (hl:a.length=b.length) (hM:a.length<=9223372036854775807) (h1:∀(i:Nat) x y,a[i]?=some x->b[i]?=some y->body (i:Nat)=some (bif p x y then .inl (((i+1:Nat)):Int)else .inr (.inr false))) (h2:body (a.length:Nat)=some (.inr (.inl ()))):
  Ao body 0=some (bif(a.zip b).all (λz=>p z.1 z.2)then .inl ()else .inr false):=by
 have hz:(a.zip b).length=a.length:=by simp[hl]
 have:=O0 (body:=body) (λ(_:Unit) i=>i) (a.zip b) (λ_ _ z=>bif p z.1 z.2 then .inl ()else .inr<|.inr false) (λ_=> .inl ()) (λ_ _=>True)
  (λs i x hx _=>by grind)
  (λs _=>by rw[hz];exact h2) (s:=()) trivial
 rw[this];have c:∀(m:List (α×β)) (i:Nat),O9 (λ(_:Unit) _ z=>bif p z.1 z.2 then .inl ()else .inr<|.inr false) (λ_=>(.inl ():Unit⊕Bool)) m i ()=bif m.all (λz=>p z.1 z.2)then .inl ()else .inr false:=by
  intro m
  induction m with
  |nil=>intro i;rfl
  |cons z m ih=>
   intro i;simp only[O9,EV]
   grind
 rw[c]
theorem YD {p:α->α->Bool}:∀{a b:List α},(∀x∈a,∀y∈b,p x y=true↔x=y)->a.length=b.length->((a.zip b).all (λz=>p z.1 z.2)=true↔a=b)
 |[],[],_,_=>by simp
 |x::a,y::b,hp,h=>by
  have ih:=YD (p:=p) (a:=a) (b:=b) (λx' hx y' hy=>hp x' (Lo _ hx) y'<|Lo _ hy) (by simpa using h);simp only[List.zip_cons_cons,EV,Ai,ih,hp x DM y DM,Zi]
 |[],_::_,_,h=>by simp at h
 |_::_,[],_,h=>by simp at h
def ADu (f:Option Bool) (x y:γ):Prop:=∃v,f=some v/\(v=true↔x=y)
theorem qU {f:Option Bool} {x:γ} (h:ADu f x x):f=some true:=by
 obtain⟨v,h1,h2⟩:=h;rw[h1,h2.2 rfl]
theorem Wg {body:S->Option (S⊕β)} (a:σ->Int->S) (n:Nat) (c:Nat->σ->Prop) (Q:β->Prop) (h1:∀s i,i<n->c i s->(∃s',body (a s (i:Nat))=some (.inl (a s' ((i+1:Nat):Int)))/\c (i+1) s')\/∃b,body (a s (i:Nat))=some (.inr b)/\Q b) (h2:∀s,c n s->∃b,body (a s (n:Nat))=some (.inr b)/\Q b):∀(k i:Nat) (s:σ),i+k=n->c i s->∃b,Ao body (a s (i:Nat))=some b/\Q b
 |0,i,s,hi,hs=>by
  have:i=n:=by omega
  subst this;obtain⟨b,h3,h4⟩:=h2 s hs;exact⟨b,by rw[Aw,h3],h4⟩
 |k+1,i,s,hi,hs=>by
  rcases h1 s i (by omega) hs with⟨s',h3,h4⟩|⟨b,h3,h4⟩
  ·obtain⟨b,h5,h6⟩:=Wg a n c Q h1 h2 k (i+1) s' (by omega) h4;exact⟨b,by rw[Aw,h3];exact h5,h6⟩
  exact⟨b,by rw[Aw,h3],h4⟩
theorem AL {s:σ} {body:S->Option (S⊕β)} (a:σ->Int->S) (n:Nat) (c:Nat->σ->Prop) (Q:β->Prop) (h1:∀s i,i<n->c i s->(∃s',body (a s (i:Nat))=some (.inl (a s' ((i+1:Nat):Int)))/\c (i+1) s')\/∃b,body (a s (i:Nat))=some (.inr b)/\Q b) (h2:∀s,c n s->∃b,body (a s (n:Nat))=some (.inr b)/\Q b) (hs:c 0 s):∃b,Ao body (a s 0)=some b/\Q b:=
 Wg a n c Q h1 h2 n 0 s (by omega) hs
theorem Xe {body body':S->Option (S⊕β)} (a:σ->Int->S) (n:Nat) (c:Nat->σ->Prop) (Q:β->Prop) (h1:∀s i,i<n->c i s->body' (a s (i:Nat))=body (a s (i:Nat))/\((∃s',body (a s (i:Nat))=some (.inl (a s' ((i+1:Nat):Int)))/\c (i+1) s')\/∃b,body (a s (i:Nat))=some (.inr b)/\Q b)) (h2:∀s,c n s->body' (a s (n:Nat))=body (a s (n:Nat))/\∃b,body (a s (n:Nat))=some (.inr b)/\Q b):∀(k i:Nat) (s:σ),i+k=n->c i s->∃b,Ao body (a s (i:Nat))=some b/\Ao body' (a s (i:Nat))=some b/\Q b
 |0,i,s,hi,hs=>by
  have:i=n:=by omega
  subst this;obtain⟨e,b,h3,h4⟩:=h2 s hs;exact⟨b,by rw[Aw,h3],by rw[Aw,e,h3],h4⟩
 |k+1,i,s,hi,hs=>by
  obtain⟨e,h⟩:=h1 s i (by omega) hs
  rcases h with⟨s',h3,h4⟩|⟨b,h3,h4⟩
  ·obtain⟨b,h5,h6,h7⟩:=Xe a n c Q h1 h2 k (i+1) s' (by omega) h4;exact⟨b,by rw[Aw,h3];exact h5,by rw[Aw,e,h3];exact h6,h7⟩
  exact⟨b,by rw[Aw,h3],by rw[Aw,e,h3],h4⟩
theorem HF {s:σ} {body body':S->Option (S⊕β)} (a:σ->Int->S) (n:Nat) (c:Nat->σ->Prop) (Q:β->Prop) (h1:∀s i,i<n->c i s->body' (a s (i:Nat))=body (a s (i:Nat))/\((∃s',body (a s (i:Nat))=some (.inl (a s' ((i+1:Nat):Int)))/\c (i+1) s')\/∃b,body (a s (i:Nat))=some (.inr b)/\Q b)) (h2:∀s,c n s->body' (a s (n:Nat))=body (a s (n:Nat))/\∃b,body (a s (n:Nat))=some (.inr b)/\Q b) (hs:c 0 s):∃b,Ao body (a s 0)=some b/\Ao body' (a s 0)=some b/\Q b:=
 Xe a n c Q h1 h2 n 0 s (by omega) hs
theorem aO {body:Int->Option (Int⊕β)} (l:List α) (p:Nat->α->Bool) (no yes:β) (hM:l.length<=9223372036854775807) (h1:∀(i:Nat) x,l[i]?=some x->body (i:Nat)=some (bif p i x then .inl (((i+1:Nat)):Int)else .inr no)) (h2:body (l.length:Nat)=some (.inr yes)):
  Ao body 0=some (bif l.zipIdx.all (λz=>p z.2 z.1)then yes else no):=by
 have:=O0 (body:=body) (λ(_:Unit) i=>i) l (λ_ i x=>bif p i x then .inl ()else .inr no) (λ_=>yes) (λ_ _=>True)
  (λs i x hx _=>by grind)
  (λs _=>h2) (s:=()) trivial
 rw[this];have a:∀(m:List α) (i:Nat),O9 (λ(_:Unit) i x=>bif p i x then .inl ()else .inr no) (λ_=>yes) m i ()=bif(m.zipIdx i).all (λz=>p z.2 z.1)then yes else no:=by
  intro m
  induction m with
  |nil=>intro i;rfl
  |cons z m ih=>
   intro i;simp only[O9,List.zipIdx_cons,EV]
   grind
 rw[a]
theorem S7 {body:Int×List γ->Option ((Int×List γ)⊕List γ)} (l:List α) (f:α->γ) (h1:∀(i:Nat) x (a:List γ),l[i]?=some x->a.length=i->body ((i:Nat),a)=some (.inl (((i+1:Nat):Int),a++ [f x]))) (h2:∀a,body ((l.length:Nat),a)=some (.inr a)):
  Ao body (0,[])=some (l.map f):=by
 have:=O0 (body:=body) (λ(s:List γ) i=>(i,s)) l (λa _ x=>(.inl (a++ [f x]):List γ⊕List γ)) (λa=>a) (λi a=>a.length=i)
  (λs i x hx hi=>by grind)
  (λs _=>h2 s) (s:=[]) rfl
 rw[this];have b:∀(m:List α) (i:Nat) (a:List γ),O9 (λa _ x=>(.inl (a++ [f x]):List γ⊕List γ)) (λa=>a) m i a=a++m.map f:=by
  intro m
  induction m with
  |nil=>intro i a;simp[O9]
  |cons z m ih=>
   intro i a;simp only[O9,ih,C6,AE,Fz]
 grind
theorem sH {body:Int×List γ->Option ((Int×List γ)⊕List γ)} (n:Nat) (f:Nat->γ) (h1:∀(i:Nat) (a:List γ),i<n->a.length=i->body ((i:Nat),a)=some (.inl (((i+1:Nat):Int),a++ [f i]))) (h2:∀a,body ((n:Nat),a)=some (.inr a)):
  Ao body (0,[])=some ((List.range n).map f):=
 S7 (List.range n) f (λi x a hx ho=>by grind) (λa=>by grind)
theorem aL {z:α} (h:by_*n<=281474976710656) (h2:n<=9223372036854775807):mk by_ z (n:Int)=some (List.replicate n z):=by
 unfold mk
 grind
theorem BD (h:(l.length+m.length)*by_<=140737488355328):ap by_ l m=some (l++m):=AG h
theorem Ld {i:Int} (h1:0<=i) (h2:i<l.length):gi l i=some (l[i.toNat]'(by omega)):=by
 unfold gi
 grind
theorem Bv:ln l=(l.length:Int):=rfl
def L (s:ByteArray):List UInt8:=s.data.toList
theorem Ll {a b:ByteArray} (h:L a=L b):a=b:=by
 cases a;cases b;simp only[L]at h;simp only[ByteArray.mk.injEq];exact AC4 h
theorem X7 (s:ByteArray):(L s).length=s.size:=by cases s;rfl
theorem DT (a b:ByteArray):L (a++b)=L a++L b:=by simp[L]
theorem EU (l:List UInt8):L (bs l)=l:=by simp[L,bs]
theorem Md (l:List Int):L (Fv l)=l.map λn=>UInt8.ofNat n.toNat:=strOfNums_data l
theorem Ig (s:ByteArray) (i j:Nat):L (s.extract i j)=((L s).drop i).take (j-i):=by
 have:s=ByteArray.mk (L s).toArray:=by cases s;simp[L]
 rw[this,ByteArray.extract_mk];simp[L]
theorem B3 (s:ByteArray):FR s=((L s).length:Int):=by rw[X7];rfl
theorem Ft (s:ByteArray) (h:i<(L s).length):sx s (i:Int)=some (((L s)[i]).toNat:Int):=by
 have h':i<s.size:=by rw[<-X7];exact h
 unfold sx;rw[AG ⟨by omega,by omega⟩];unfold AW.bt;rw[dif_pos<|by simpa using h'];rfl
theorem Fu (s:ByteArray) (h1:i<=j) (h2:j<=(L s).length):sub s (i:Int) (j:Int)=some (s.extract i j):=by
 rw[X7]at h2;unfold sub
 grind
theorem FZ (a b:ByteArray) (h:(L a).length+(L b).length<=9223372036854775807):Ij a b=some (a++b):=by
 rw[X7,X7]at h;unfold Ij
 grind
theorem RJ (a b:ByteArray):seq a b=decide (L a=L b):=by
 rw[JT,Fo,A4,A4];exact⟨λh=>by rw[h],Ll⟩
def Cu (n:Nat):List UInt8:=if h:n<=127 then [UInt8.ofNat n]else UInt8.ofNat (n %128+128)::Cu (n/128)
termination_by n
decreasing_by omega
def FC:List UInt8->Nat
 |[]=>0
 |d::ds=>d.toNat %128+128*FC ds
theorem OO:∀(ds es:List UInt8),FC (ds++es)=FC ds+128^ds.length*FC es
 |[],es=>by simp[FC]
 |d::ds,es=>by
  simp only[BB,FC,OO ds es,AB,tU]
  grind
theorem mY (d:UInt8):d.toNat<256:=d.toNat_lt
theorem LU (h:n<=127):Cu n=[UInt8.ofNat n]:=by rw[Cu,dif_pos h]
theorem Tb (h:¬n<=127):Cu n=UInt8.ofNat (n %128+128)::Cu (n/128):=by rw[Cu,dif_neg h]
theorem fG:∀{ds:List UInt8} {x:UInt8},FC (ds++ [x])=0->x.toNat<128->x.toNat=0
 |[],x,h,hx=>by simp[FC]at h;omega
 |d::ds,x,h,hx=>by
  simp only[BB,FC]at h;exact fG (ds:=ds) (by omega) hx
theorem iB:∀(ds:List UInt8) (x:UInt8),(∀d∈ds,128<=d.toNat)->x.toNat<128->(Cu (FC (ds++ [x]))=ds++ [x]↔¬(x.toNat=0/\ds≠ []))
 |[],x,_,hx=>by
  have:FC ([]++ [x])=x.toNat:=by simp[FC];omega
  rw[this,LU<|by omega];simp
 |d::ds,x,hd,hx=>by
  have ih:=iB ds x (λe he=>hd e<|Lo _ he) hx;have h1:=hd d DM;have h2:=mY d;have hv:FC (d::ds++ [x])=d.toNat-128+128*FC (ds++ [x]):=by
   simp only[BB,FC];omega
  rw[hv];by_cases h0:FC (ds++ [x])=0
  ·have a:=fG h0 hx;rw[h0,LU<|by omega];refine iff_of_false ?_ (by simp[a]);simp
  rw[Tb<|by omega];have e1:UInt8.ofNat ((d.toNat-128+128*FC (ds++ [x])) %128+128)=d:=by
   have:(d.toNat-128+128*FC (ds++ [x])) %128+128=d.toNat:=by omega
   rw[this,UInt8.ofNat_toNat]
  have e2:(d.toNat-128+128*FC (ds++ [x]))/128=FC (ds++ [x]):=by omega
  rw[e1,e2,BB,Zi];rw[ih];constructor
  ·rintro⟨_,h⟩ ⟨h3,_⟩;refine h ⟨h3,?_⟩;rintro rfl;apply h0;simp[FC,h3]
  grind
theorem pJ:∀(n:Nat),(Cu n).length<=n+1
 |n=>by
  by_cases h:n<=127
  ·rw[LU h];simp
  have:=pJ<|n/128;rw[Tb h,AB];omega
termination_by n=>n
decreasing_by omega
theorem iC {body:Int×List Int->Option ((Int×List Int)⊕(Int×List Int))} (hb:∀n a,body (n,a)=bif decide (n>127)then((ap 1 a [IntKind.u8.wrap (ad (Int.tmod n 128) 128)]).bind λc=>some (.inl (qu n 128,c)))else some (.inr (n,a))):
  ∀(n:Nat) (a:List Int),a.length+n<=1099511627776->∃(m:Nat) (o:List Int),Ao body ((n:Int),a)=some ((m:Int),o)/\m<=127/\o.length<=a.length+n/\(o++ [(m:Int)]).map (λn=>UInt8.ofNat n.toNat)=a.map (λn=>UInt8.ofNat n.toNat)++Cu n
 |n,a,h=>by
  rw[Aw,hb];by_cases hn:n<=127
  ·rw[Ah (by omega),Ac];exact⟨n,a,rfl,hn,by omega,by rw[LU hn];simp⟩
  rw[Ad (by omega),Ae,BD (by grind),Aa];have e1:Int.tmod (n:Int) 128=((n %128:Nat):Int):=rfl;have e2:qu (n:Int) 128=((n/128:Nat):Int):=by
   unfold qu;rw[show Int.tdiv (n:Int) 128=((n/128:Nat):Int)from Int.ofNat_tdiv n 128|>.symm,P2 (by omega)<|by omega]
  have e3:IntKind.u8.wrap (ad (Int.tmod (n:Int) 128) 128)=((n %128+128:Nat):Int):=by
   rw[e1,Cr (by omega) (by omega),IntKind.wrap_u8];omega
  obtain⟨m,o,h1,h2,h3,h4⟩:=iC hb (n/128) (a++ [((n %128+128:Nat):Int)]) (by grind);rw[e2,e3];refine⟨m,o,h1,h2,by grind,?_⟩;rw[h4,Tb hn,Ca,AE];rfl
termination_by n=>n
decreasing_by omega
theorem AEv {s:Int} (h0:0<=s) (h1:s<4294967296):IntKind.u32.wrap (Int.tdiv s 2)=Int.fdiv s (2^(min (1:Int).toNat IntKind.u32.bits)):=by
 have e:(2:Int)^(min (1:Int).toNat IntKind.u32.bits)=2:=by decide
 rw[e,IntKind.wrap_u32,Int.tdiv_eq_ediv_of_nonneg h0,Int.fdiv_eq_ediv_of_nonneg _<|by omega];omega
theorem an1 {s:Int} (h0:0<=s) (h1:s<4294967296):an s 1=Int.tmod s 2:=by
 unfold an;obtain⟨n,rfl⟩:=Cv h0;have:(BitVec.ofInt 32 (n:Int)&&&BitVec.ofInt 32 1).toNat=n %2:=by grind
 rw[this,IntKind.wrap_u32,Int.tmod_eq_emod_of_nonneg<|by omega];omega
theorem AC6 (a b:Int):0<=xr a b/\xr a b<4294967296:=by
 unfold xr;rw[IntKind.wrap_u32];omega
end Go.TI
