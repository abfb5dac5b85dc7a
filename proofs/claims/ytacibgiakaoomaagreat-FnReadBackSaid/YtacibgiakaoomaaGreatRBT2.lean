/- What walks of Go code need. No condition. -/
import Derived.Test.YtacibgiakaoomaaGreatRBT1
import Derived.OrdersHeld
import Derived.Deep.Slices
import Derived.ChangeOld
import Derived.DataReads
import Derived.Lib.ReflectliteSwap
import Derived.Deep.Upon
import Derived.KernelRfl
set_option linter.unusedSimpArgs false
set_option linter.unusedVariables false
namespace Go.TI
open Go Go.RowKit
def SV.comps:SV->List SV
 | .tup ss=>ss
 |_=>[]
def St.ex (E:St) (n ix:Nat):St:={E with slots:=B9 E.slots n (.tup<|(E.slots n).comps.set ix<|.one .junk)}
variable {P:Program} {E E':St} {N i sz j fuel by_ sz' d e':Nat} {ops:Array Oper} {Q:Exit->St->Prop} {α γ β α':Type} {w w':World} {K:St->Prop} {n n':Int} {dn FA UA F U:List Nat} {rest:List Oper} {as:List AV} {FS US:Root->List Nat} {listed:Array Bool} {v:Value} {fn:Func} {oo:Oper} {blk:Root->Nat} {k k2 k1:IntKind} {md:Region.Mode} {o1 o2:Operand} {row row':List TV} {A' A:Ql} {y:Code} {sf:FuncId} {T:Nat->Bool} {lo:Option Operand} {G:Prop} {ss:List SV} {t':TV} {x:α} {f:α->List TV} {l:List α} {tx:Option β} {ty:Option β} {Am:List γ->Ql} {lt:γ->γ->Bool} {l':List α'} {f':α'->List TV} {x':α'} {u:List α} {kk:α->Option β}
theorem AEB (n ix d:Nat) (s:SV) (h:FB P N ops rest ((E.ex n ix).put (some d) s) Q) (hs:Cf P N false E oo=some ((E.ex n ix).put (some d) s):=by rfl) (hg:AR P ops E oo=some true:=by rfl):FB P N ops (oo::rest) E Q:=FB.op false hg hs h
theorem EB.o (d:Nat) (s:SV) (h:EB P N ops rest (E.put (some d) s) K) (hs:GP P E oo=some s:=by rfl) (hg:AR P ops E oo=some true:=by rfl) (hd:oo.dst=some d:=by rfl) (hN:Nat.blt d N=true:=by rfl):EB P N ops (oo::rest) E K:=
 EB.op s hg hd (by simp_all) hs h
theorem ACJ {l:List Oper} {r:β} {b:Bool} (h:(bif b then tx else ty)=some r) (t:Nat) (ht:tx=some r->EB P N ops l (E.rs t true) K) (hf:ty=some r->EB P N ops l (E.rs t false) K) (hc:E.slots t=B b:=by rfl):EB P N ops l E K:=by grind [vW]
theorem Cz {f g:α->List TV} (h:∀x,AU (f x)=g x):∀l:List α,AU (Az f l)=Az g l
 |[]=>rfl
 |x::l=>by
  have c:∀a b:List TV,AU (a++b)=AU a++AU b:=by
   intro a b
   induction a with
   |nil=>rfl
   |cons t ts ih=>grind [AU]
  rw[GH,GH,c,h,Cz h l]
theorem J7 (h:∀x,A9 (f x)=false):∀l:List α,A9 (Az f l)=false
 |[]=>rfl
 |x::l=>by
  have c:∀a b:List TV,A9 (a++b)=(A9 a||A9 b):=by
   intro a b
   induction a with
   |nil=>rfl
   |cons t ts ih=>grind [A9]
  rw[GH,c,h,J7 h l];rfl
def ad (a b:Int):Int:=IntKind.i64.wrap<|a+b
def sb (a b:Int):Int:=IntKind.i64.wrap<|a-b
def ml (a b:Int):Int:=IntKind.i64.wrap<|a*b
def qu (a b:Int):Int:=IntKind.i64.wrap<|a.tdiv b
def xr (a b:Int):Int:=IntKind.u32.wrap (BitVec.ofInt 32 a^^^BitVec.ofInt 32 b).toNat
def an (a b:Int):Int:=IntKind.u32.wrap (BitVec.ofInt 32 a&&&BitVec.ofInt 32 b).toNat
def bs (l:List UInt8):ByteArray:=⟨l.toArray⟩
section
variable (P:Program) (md:Region.Mode) (ops:Array Oper) (Q:Exit->Act->World->Prop) (T:Nat->Bool)
def S8:Nat->Array Bool->Act->World->Prop
 |0,listed,a,w=>Region.ready md ops listed=[]/\Q .normal a w
 |fuel+1,listed,a,w=>(Region.ready md ops listed=[]->Q .normal a w)/\
  ∀i∈Region.ready md ops listed,wpOp P ops Q i (λa' w'=>(T i=false->Dr w w')/\S8 fuel (listed.setIfInBounds i true) a' w') a w
end
theorem Xy {Q:Exit->Act->World->Prop}:∀(b:Nat) (listed:Array Bool) (a:Act) (w:World),S8 P md ops Q T b listed a w->wpAny P md ops Q b listed a w
 |0,_,_,_,h=>h
 |b+1,_,_,_,h=>⟨h.1,λi hi=>wpOp_mono (λa' w' h'=>Xy b _ a' w' h'.2) (h.2 i hi)⟩
section
variable (md:Region.Mode) (ops:Array Oper)
def X1 (i:Nat):Nat->Nat->Bool
 |0,_=>false
 |n+1,j=>match ops[j]? with
  |some o=>o.after.any λe=>Region.binds md e&&(e.on==i||X1 i n e.on)
  |none=>false
end
def Z9 (md:Region.Mode) (ops:Array Oper) (listed:Array Bool):Prop:=∀k o,ops[k]?=some o->listed.getD k false=true->∀e∈o.after,Region.binds md e=true->listed.getD e.on false=true
theorem Tv (hc:Z9 md ops listed):∀{n j:Nat} {o:Oper},ops[j]?=some o->(∀e∈o.after,Region.binds md e=true->listed.getD e.on false=true)->X1 md ops i n j=true->listed.getD i false=true
 |0,j,o,_,_,h=>by cases h
 |n+1,j,o,ho,ha,h=>by
  simp only[X1,ho]at h;obtain⟨e,he,hb⟩:=Array.any_eq_true'.1 h;simp only[Ao,GK,JW]at hb;have h1:=ha e he hb.1
  rcases hb.2 with h2|h2
  ·grind
  cases hk:ops[e.on]? with
  |none=>
   cases n with
   |zero=>cases h2
   |succ n=>grind [X1]
  |some ok=>exact Tv hc hk (hc e.on ok hk h1) h2
theorem IB (hc:Z9 md ops listed) (hr:j∈Region.ready md ops listed):Z9 md ops (listed.setIfInBounds j true):=by
 intro k o hk hl e he hb
 have a:∀m,listed.getD m false=true->(listed.setIfInBounds j true).getD m false=true:=λm hm=>getD_set_true hm
 by_cases b:k=j
 ·grind [mem_ready]
 rw[getD_set_ne false<|Jj b]at hl;exact a _<|hc k o hk hl e he hb
theorem LE {Q:Exit->Act->World->Prop} {oi:Oper} {n:Nat} (hi:ops[i]?=some oi) (l:∀(j:Nat) (o:Oper) cs b,ops[j]?=some o->o.op≠ .select cs b) (hQ:∀c a w,Q (.panic c) (a.put oi.dst v) w->Q (.panic c) a w) (h5:T i=false) (hT:∀j,T j=true->X1 md ops i n j=true):
  ∀(d:Nat) (listed:Array Bool) (a:Act) (w:World),Z9 md ops listed->
   (∀j oj,ops[j]?=some oj->j≠i->listed.getD j true=false->(∀e∈oj.after,Region.binds md e=true->e.on≠i)->oi.apart ops oj=true)->
   i∈Region.ready md ops listed->YieldsIf P ops (Dr w) oi v a->
   S8 P md ops Q T d (listed.setIfInBounds i true) (a.put oi.dst v) w->S8 P md ops Q T (d+1) listed a w:=by
 intro d
 induction d with
 |zero=>
  intro listed a w _ _ hr hy H;refine⟨λh=>(by grind),λj hj=>?_⟩;by_cases f:j=i
  ·subst f;exact hy.wpOp hi Dr.refl ⟨λ_=>Dr.refl,H⟩
  have:=ready_mono hj f;rw[H.1]at this;cases this
 |succ d ih=>
  intro listed a w s g hr hy H;refine⟨λh=>(by grind),λj hj=>?_⟩;by_cases f:j=i
  ·subst f;exact hy.wpOp hi Dr.refl ⟨λ_=>Dr.refl,H⟩
  have h1:=H.2 j<|ready_mono hj f;obtain⟨p,oj,m,h0⟩:=mem_ready.1 hj;have h4:listed.getD i false=false:=by grind [mem_ready]
  have t:T j=false:=by grind [Tv]
  have q:∀e∈oj.after,Region.binds md e=true->e.on≠i:=λe he hb h6=>by grind
  have h2:=wpOp_putIf m (g j oj m f p q) (λcs b=>l i oi cs b hi) (λcs b=>l j oj cs b m) hQ hy h1;have hfree':∀k ok,ops[k]?=some ok->k≠i->(listed.setIfInBounds j true).getD k true=false->
    (∀e∈ok.after,Region.binds md e=true->e.on≠i)->oi.apart ops ok=true:=λk ok hk u r x=>by
   refine g k ok hk u ?_ x;by_cases y:j=k
   ·grind
   rw[getD_set_ne true y]at r;exact r
  refine wpOp_mono (λa' w' h3=>⟨h3.2.1,ih (listed.setIfInBounds j true) a' w' (IB s hj) hfree' (ready_mono hr<|Jj f) ?_ ?_⟩) h2
  ·exact h3.1.imp (λ⟨p1,p2⟩=>⟨p1,λw2 z=>p2 w2<|(h3.2.1 t).trans z⟩) id
  grind [Array.setIfInBounds_comm]
def WH (P:Program) (N:Nat) (ops:Array Oper) (ts:List Nat) (b:Nat) (listed:Array Bool) (E:St) (Q:Exit->St->Prop):Prop:=(∀c E,Q (.panic c) E->False)->Z9 .any ops listed->∀(w0:Base) (FA UA:List Nat) (w:World) (a:Act) (blk:Root->Nat) (FS US:Root->List Nat),Ce w0 FA UA N w a E blk FS US->FS .hand=[]->US .hand=[]->S8 P .any ops (lW w0 FA UA N Q) (λi=>ts.contains i) b listed a w
def dY (P:Program) (N:Nat) (ops:Array Oper) (ts:List Nat) (i:Nat) (E:St) (K:St->Prop) (Q:Exit->St->Prop):Prop:=∀(w0:Base) (FA UA:List Nat) (w:World) (a:Act) (blk:Root->Nat) (FS US:Root->List Nat),Ce w0 FA UA N w a E blk FS US->FS .hand=[]->US .hand=[]->
  wpOp P ops (lW w0 FA UA N Q) i (λa' w'=>(ts.contains i=false->Dr w w')/\∃E' blk' FS' US',K E'/\Ce w0 FA UA N w' a' E' blk' FS' US'/\FS' .hand=[]/\US' .hand=[]) a w
theorem dY.op {ts:List Nat} (i:Nat) {o:Oper} (mv:Bool) (h:K E') (hs:Cf P N mv E o=some E') (ho:ops[i]?=some o) (hg:AR P ops E o=some true) (hk:(kp o||ts.contains i)=true):dY P N ops ts i E K Q:=by
 intro w0 FA UA w a blk FS US hr hF hU;unfold wpOp;simp only[ho,BB hr hg,Co];refine .inl<|(VV hr hF hU hs).wp λw' v blk' FS' US' k1 k2 k3 k4=>⟨λht=>k4 (by grind),_,_,_,_,h,k1,k2,k3⟩
theorem dY.call {ts:List Nat} {f:FuncId} {n:Nat} (i:Nat) {o:Oper} {args:Array Operand} {tys:Array TypeId} (hi:ops[i]?=some o) (ho:o.op= .call {callee:= .value (.func f),args:=args,argTypes:=tys}) (hf:aH P f) (hg:AR P ops E o=some true) (hN:∀d,o.dst=some d->d<N) (l:List (Bool×TypeId×Operand)) (hl:l.map (λx=>x.2.2)=args.toList) (e:(l.all (λx=>!x.1)||ts.contains i)=true) {b:SV} (c:AC P f as b (List.replicate n .gone)) (he:Xp P E o.dst l as b E') (h:K E'):dY P N ops ts i E K Q:=by
 intro w0 FA UA w a blk FS US hr hF hU;unfold wpOp;simp only[hi,BB hr hg,Co];exact .inl<|dO hr hF hU ho hf hN hl c he λw' v blk' FS' US' k1 k2 k3 k4=>⟨λht=>k4 (by grind),_,_,_,_,h,k1,k2,k3⟩
theorem WH.done {ts:List Nat} (h:Q .normal E) (hr:Region.ready .any ops listed=[]:=by decide+kernel):WH P N ops ts fuel listed E Q:=
 λ_ _ w0 FA UA w a blk FS US k1 k2 k3=>by
  have hq:lW w0 FA UA N Q .normal a w:=⟨E,blk,FS,US,h,k1,k2,k3⟩
  cases fuel with
  |zero=>exact⟨hr,hq⟩
  |succ n=>exact⟨λ_=>hq,by rw[hr];simp⟩
section
variable {ts:List Nat}
theorem WH.all (rs:List Nat) (h:∀i∈rs,dY P N ops ts i E (λE'=>WH P N ops ts fuel (listed.setIfInBounds i true) E' Q) Q) (hr:Region.ready .any ops listed=rs) (b:rs≠ []):WH P N ops ts (fuel+1) listed E Q:=
 λhQ hc w0 FA UA w a blk FS US k1 k2 k3=>⟨λh0=>absurd (hr▸h0) b,λi hi=>by
  have hi':i∈rs:=hr▸hi
  exact wpOp_mono (λa' w' ⟨m0,E',blk',FS',US',m1,m2,m3,m4⟩=>⟨m0,m1 hQ (IB hc hi) _ _ _ _ _ _ _ _ m2 m3 m4⟩)<|h i hi' _ _ _ _ _ _ _ _ k1 k2 k3⟩
end
def RV (ops:Array Oper) (ts:List Nat) (n i:Nat) (listed:Array Bool):Bool:=Region.noSelect ops&&Region.free .any ops listed i&&(Region.ready .any ops listed).contains i&&!ts.contains i&&ts.all λj=>X1 .any ops i n j
theorem U8 {ts:List Nat} {n:Nat} (h:RV ops ts n i listed=true):Region.noSelect ops=true/\Region.free .any ops listed i=true/\i∈Region.ready .any ops listed/\ts.contains i=false/\∀j,ts.contains j=true->X1 .any ops i n j=true:=by grind [RV]
theorem WH.take {ts:List Nat} (n i:Nat) {o:Oper} (d:Nat) (s:SV) (h:WH P N ops ts fuel (listed.setIfInBounds i true) (E.put (some d) s) Q) (hs:GP P E o=some s) (ho:ops[i]?=some o) (f:RV ops ts n i listed=true) (hg:AR P ops E o=some true) (hd:o.dst=some d) (hN:Nat.blt d N=true):WH P N ops ts (fuel+1) listed E Q:=by
 intro hQ hc w0 FA UA w a blk FS US k1 k2 k3;obtain⟨e1,e2,e3,e4,e5⟩:=U8 f;obtain⟨v,U,h1,h2,h3⟩:=SC k1 hs;refine LE (v:=v) (n:=n) ho (Region.noSelect_spec e1) (λc a w hx=>?_) e4 e5 fuel listed a w hc (Region.free_spec ho e2) e3 (.inl ⟨BB k1 hg,λw2 e=>?_⟩) ?_
 ·obtain⟨E',blk',FS',US',m1,_⟩:=hx
  grind
 ·exact h1 w2 λr hr=>⟨λb hb=>e.2 b (k1.inF r b hb).2,λb hb=>e.2 b (k1.inU r b hb).2⟩
 rw[hd];refine h hQ (IB hc e3) _ _ _ _ _ _ _ _ (k1.put (by simp_all) h2<|Mn k1 h3 _) ?_ ?_
 ·grind [AQ]
 grind [AQ]
theorem hZ {ts:List Nat} (n i:Nat) {o:Oper} (d:Nat) (h:WH P N ops ts fuel (listed.setIfInBounds i true) (E.put (some d) (.tup [])) Q) (ho:ops[i]?=some o) (b:RV ops ts n i listed=true) (hg:AR P ops E o=some false) (hd:o.dst=some d) (hN:Nat.blt d N=true):WH P N ops ts (fuel+1) listed E Q:=by
 intro hQ hc w0 FA UA w a blk FS US k1 k2 k3;obtain⟨e1,e2,e3,e4,e5⟩:=U8 b;refine LE (v:=undef) (n:=n) ho (Region.noSelect_spec e1) (λc a w hx=>?_) e4 e5 fuel listed a w hc (Region.free_spec ho e2) e3 (.inr ⟨BB k1 hg,rfl⟩) ?_
 ·obtain⟨E',blk',FS',US',m1,_⟩:=hx
  grind
 rw[hd];refine h hQ (IB hc e3) _ _ _ _ _ _ _ _ (k1.put (F:=[]) (U:=[]) (by simp_all) (by simp only[H8];exact⟨[],rfl,by simp[Qm]⟩) WS.none) ?_ ?_
 ·grind [AQ]
 grind [AQ]
theorem pA {id:Nat} (n:Nat) (ts:List Nat) (hm:P.follows .mixedOrders=true) (hQ:∀c E,Q (.panic c) E->False) (h:WH P N ops ts n (Array.replicate n false) E Q) (hn:ops.size=n:=by rfl):Wp P N (.region id ops true) E Q:=by
 subst hn;intro w0 FA UA w a blk FS US k1 k2 k3;refine wp_region_any hm<|Xy (T:=λi=>ts.contains i) _ _ _ _ ?_;obtain⟨FS',US',m1,m2,m3⟩:=k1.drop (w':={w with drawn:=w.drawn+1}) (Ax _) rfl rfl rfl λ_ _ _=>rfl;refine h hQ (λk o hk hl=>?_) _ _ _ _ _ _ _ _ m1 m2 m3;simp_all;grind
theorem WH.o {ts:List Nat} (n i d:Nat) (s:SV) {o:Oper} (h:WH P N ops ts fuel (listed.setIfInBounds i true) (E.put (some d) s) Q) (ho:ops[i]?=some o:=by rfl) (hs:GP P E o=some s:=by rfl) (a:RV ops ts n i listed=true:=by decide+kernel) (hg:AR P ops E o=some true:=by rfl) (hd:o.dst=some d:=by rfl) (hN:Nat.blt d N=true:=by rfl):WH P N ops ts (fuel+1) listed E Q:=WH.take n i d s h hs ho a hg hd hN
theorem ACV {ts:List Nat} {r:β} {b:Bool} (h:(bif b then tx else ty)=some r) (t:Nat) (ht:tx=some r->WH P N ops ts fuel listed (E.rs t true) Q) (hf:ty=some r->WH P N ops ts fuel listed (E.rs t false) Q) (hc:E.slots t=B b:=by rfl):WH P N ops ts fuel listed E Q:=by grind [vW]
theorem dY.o {ts:List Nat} (i d:Nat) (s:SV) {o:Oper} (h:K (E.put (some d) s)) (ho:ops[i]?=some o:=by rfl) (hs:Cf P N false E o=some (E.put (some d) s):=by rfl) (hg:AR P ops E o=some true:=by rfl) (hk:(kp o||ts.contains i)=true:=by rfl):dY P N ops ts i E K Q:=dY.op i false h hs ho hg hk
theorem dY.b {ts:List Nat} (i:Nat) (m:List (Root×List TV)) (d:Nat) (xs:List TV) {o:Oper} (h:K ((mvs E m).newBox d xs)) (ho:ops[i]?=some o:=by rfl) (hs:Cf P N false E o=some ((mvs E m).newBox d xs):=by rfl) (hg:AR P ops E o=some true:=by rfl) (hk:(kp o||ts.contains i)=true:=by rfl):dY P N ops ts i E K Q:=dY.op i false h hs ho hg hk
theorem AEC {ts:List Nat} (i:Nat) (mv:Bool) (m:List (Root×List TV)) (d:Nat) (s:SV) {o:Oper} (h:K ((mvs E m).put (some d) s)) (ho:ops[i]?=some o:=by rfl) (hs:Cf P N mv E o=some ((mvs E m).put (some d) s):=by rfl) (hg:AR P ops E o=some true:=by rfl) (hk:(kp o||ts.contains i)=true:=by rfl):dY P N ops ts i E K Q:=dY.op i mv h hs ho hg hk
theorem AED {ts:List Nat} (i n ix d:Nat) (s:SV) {o:Oper} (h:K ((E.ex n ix).put (some d) s)) (ho:ops[i]?=some o:=by rfl) (hs:Cf P N false E o=some ((E.ex n ix).put (some d) s):=by rfl) (hg:AR P ops E o=some true:=by rfl) (hk:(kp o||ts.contains i)=true:=by rfl):dY P N ops ts i E K Q:=dY.op i false h hs ho hg hk
def oI (n:Int):Prop:= -9223372036854775808<=n/\n<=9223372036854775807
def oK (k:IntKind) (n:Int):Prop:=k.min<=n/\n<=k.max
def ol (o:α->Prop) (l:List α):Prop:=l.length<=9223372036854775807/\∀x∈l,o x
def dW (P:Program) (t:TypeId) (c:α->List TV) (o:α->Prop):Prop:=∀{H:Type} (enc:TypeId×Value->H) (w:World) (d:Nat) (e:Nat) (cs:List Value) (x:DataW H×List MemPlace),DataW.trod enc P w d (λ_=>true) true e t cs=some x->
  ∃a U,o a/\Bk w (c a) cs [] U/\∀b∈U,b<w.heap.size
theorem Nu {t:TV} (h:CL w t v F U):Bk w [t] [v] F U:=by simp_all [Bk];grind
theorem tE {t:TypeId} (ht:P.underlying t=some (.int k)):dW P t (λn:Int=>[.int k n]) (λn=>k.min<=n/\n<=k.max):=by
 intro H enc w b a cs x h
 cases a with
 |zero=>simp[DataW.trod]at h
 |succ a=>
  simp only[DataW.trod,ht]at h;split at h<;>rename_i h1<;>try grind
  all_goals first|(cases h;done)|skip
  rename_i k' n;split at h
  ·rename_i hk;simp only[Ar,TypeDesc.int.injEq]at h1;subst h1;obtain⟨rfl,hw⟩:=hk;simp only[Lit.wf,Ao,Bc]at hw;exact⟨n,[],hw,Nu (by simp[CL]),by simp⟩
  cases h
theorem jO {t e:TypeId} {c:α->List TV} {o:α->Prop} (ht:P.underlying t=some (.slice e)) (p:P.cellsOf e=sz) (h0:0<sz) (hc:∀a,(c a).length=sz) (h:dW P e c o):
  dW P t (λl:List α=>[.sl false e sz (Az c l)]) (λl=>l.length<=9223372036854775807/\∀a∈l,o a):=by
 intro H enc w d s cs x hx
 rcases Go.Deep.open_slice ht hx with⟨rfl,_⟩|⟨a,len,cap,m,n,D,Pl,rfl,hb,f,z,hm,_,g⟩
 ·refine⟨[],[],⟨by simp,by simp⟩,Nu ?_,by simp⟩;simp only[CL];exact⟨none,0,0,[],[],[],rfl,Ax _,by simp,λi u hi=>by simp at hi,by simp[Az,Bk],by simp,by simp,by simp⟩
 simp only[Co]at hm;have q:∀k,k<=len->∃(l:List α) (vs:List Value) (U:List Nat),l.length=k/\(∀a∈l,o a)/\vs.length=k*sz/\Bk w (Az c l) vs [] U/\(∀i u,vs[i]?=some u->w.cell? (a.add i)=some u)/\∀b∈U,b<w.heap.size:=by
  intro k
  induction k with
  |zero=>simp[Az,Bk]
  |succ k ih=>
   intro hk;obtain⟨l,vs,U,h1,h2,h3,h4,h5,h6⟩:=ih (by omega);obtain⟨cs',k1,k2⟩:=g k (by omega);obtain⟨y,V,g1,g2,g3⟩:=h enc w d n cs' _ k2;obtain⟨_,k3,k4⟩:=World.cells?_some k1;rw[p]at k1 k3 k4;refine⟨l++ [y],vs++cs',U++V,by simp[h1],?_,?_,?_,?_,?_⟩
   ·grind
   ·grind
   ·grind [IN,Az]
   ·intro i u hi;by_cases h7:i<vs.length
    ·grind
    rw[CS<|by omega]at hi;have j:i-vs.length<sz:=by grind
    have:=k4 (i-vs.length) j
    grind [gX]
   grind
 obtain⟨l,vs,U,h1,h2,h3,h4,h5,h6⟩:=q len<|Ax _;have h8:len<=9223372036854775807:=by grind [maxLen]
 by_cases r:len=0
 ·subst r;have:vs=[]:=AW (by omega);subst this;refine⟨l,U,⟨by omega,h2⟩,Nu ?_,h6⟩;exact⟨some a,0,cap,[],U,[],rfl,f,by simp,λi u hi=>by simp at hi,h4,by simp,by simp,by simp⟩
 have v:a.block<w.heap.size:=by
  obtain⟨cs',k1,_⟩:=g 0 (by omega);have:=World.cells?_block k1<|by omega
  grind [Ja]
 refine⟨l,a.block::U,⟨by omega,h2⟩,Nu ?_,?_⟩
 ·exact⟨some a,len,cap,vs,U,[a.block],rfl,f,h3,λi u hi=>⟨a,len,cap,rfl,h5 i u hi⟩,h4,by simp,.inl (by simp[Bu,Value.ownBlock]),by simp⟩
 grind
theorem ABt {u:α->TV} {H:Type} {d:DataW H} {ps:List MemPlace} {t:TypeId} {o:α->Prop} {enc:TypeId×Value->H} (h:dW P t (λa=>[u a]) o) (hv:v.cells= #[v]) (k:DataW.Trod enc P w 0 (λ_=>true) true t v d ps):
  ∃a U,o a/\iE w (.one (u a)) v [] U/\∀b∈U,b<w.heap.size:=by
 obtain⟨n,hn⟩:=k;obtain⟨a,U,h1,h2,h3⟩:=h enc w 0 n _ _ hn;rw[hv]at h2;obtain⟨v',c,F1,F2,U1,U2,e,hF,hU,h4,rfl,rfl,rfl⟩:=h2
 injection e with e _
 subst e;obtain⟨rfl,_⟩:=It.1 hF.symm;refine⟨a,U1,h1,?_,by simpa[hU]using h3⟩
 grind [iE]
theorem wS {r:Reach} {a:Nat} {t:TypeId} (h:Value.okWide P w r a t v) (h1:∀fs,P.underlying t≠some (.struct fs)) (h2:∀n e,P.underlying t≠some (.array n e)):v.cells= #[v]:=by
 unfold Value.okWide at h;split at h
 ·grind
 ·grind
 unfold Cell.okWide at h;cases v<;>first|rfl|skip
 simp_all [Cell.ok]
def St.without (E:St) (r:Root):St:={E with boxes:=B9 E.boxes r none,ver:=B9 E.ver r<|E.ver r+1,gen:=B9 E.gen r (E.gen r+1)}
theorem dZ {r s:Root} (h:s≠r):(E.without r).root s=E.root s:=by simp_all [St.without,St.root,B9];grind
theorem Ce.without {w0:Base} {a:Act} (h:Ce w0 FA UA N w a E blk FS US) (hF:FS .hand=[]) (hU:US .hand=[]) {r:Root} (hm:r.mem=true):
  Ce w0 FA UA N w a (E.without r) blk (B9 (B9 FS r []) .hand (FS r)) (B9 (B9 US r []) .hand (US r)):=by
 have c:r≠ .hand:=by rintro rfl;cases hm
 have d:∀s,BH w w a a E (E.without r) blk blk s:=by
  intro s;by_cases hs:s=r
  ·subst hs;exact⟨.inl (by simp[St.without,B9]),.inl<|by simp[St.without,B9]⟩
  by_cases hh:s= .hand
  ·subst hh;exact EW (by simp_all [St.without,B9]) (by simp_all [St.without,B9])<|by simp[St.root,h.nohand]
  exact Di h (by simp_all [St.without,B9]) (by simp_all [St.without,B9]) (dZ hs) (λ_ _=>rfl) (λ_=>rfl) (λ_ _=>rfl) λ_ _=>rfl
 refine h.two (r1:=r) (r2:= .hand) (L1:=[]) (L2:=FS r) (V1:=[]) (V2:=US r) c (by simpa using h.nodup r) (λb hb=>⟨.inl (by simpa using hb),(h.inF r b<|by simpa using hb).2⟩)
  (λb hb=> .inl ⟨r,by simpa using hb⟩) (Ax _) rfl rfl rfl (λ_ _ _ _=>rfl) d (λn _ _=>⟨rfl,rfl⟩) (λs _ hs _=>⟨by simp_all [St.without,B9],rfl⟩) ?_ trivial ?_ h.len h.nodef
 ·cases r with
  |slot n=>cases hm
  |hand=>cases hm
  |box n=>exact .inl ⟨by simp[St.without,B9],rfl,rfl⟩
  |ext n=>exact .inl ⟨by simp[St.without,B9],rfl,rfl⟩
 simp[St.without,B9,Jj c,h.nohand]
theorem Yv {a:Act}:∀{l:List (Bool×TypeId×Operand)},xV w a l (List.replicate l.length none) [] []
 |[]=>⟨rfl,rfl⟩
 |_::l=>Yv (l:=l)
section
variable {w0:Base} {a:Act}
theorem zR {f:FuncId} {x:Operand} {l:List (Bool×TypeId×Operand)} {n:Nat} {K:Act->World->Prop} {Q:Exit->Act->World->Prop} (h:Ce w0 FA UA N w a E blk FS US) (hF:FS .hand=[]) (hU:US .hand=[]) {o:Oper} {args:Array Operand} {tys:Array TypeId} (ho:o.op= .call {callee:= .value (.func f),args:=args,argTypes:=tys}) (hf:aH P f) (hN:∀d,o.dst=some d->d<N) (hl:x::l.map (λx=>x.2.2)=args.toList) {r:Root} (hm:r.mem=true) (hx:E.ptr? x=some (r,[],0)) {cells cells':List TV} (hc:E.boxes r=some cells) (b5:cells'.length=cells.length) {res:SV} {c:Bool} (a8:I3 P (E.without r) l (List.replicate l.length none)=some (as,c)) (h0:c=true\/Bw res=false/\A9 cells'=false) (hg:AC P f (.ext cells::as) res (.ext cells'::List.replicate n .gone)) (hK:∀w' v blk' FS' US',Ce w0 FA UA N w' (a.put o.dst v) (((E.setRoot r cells').bump r).put o.dst res) blk' FS' US'->FS' .hand=[]->US' .hand=[]->K (a.put o.dst v) w'):o.wp P a w K Q:=by
 have h9:r≠ .hand:=by rintro rfl;cases hm
 have k2:=h.without hF hU hm;obtain⟨U',k5,k6⟩:=Kj k2 Yv a8;have a0:∃i T F,w.heap[blk r]?=some (.cells i T (0,0))/\Bk w cells i.toList F (US r)/\FS r=blk r::F:=by
  rcases h.box r hm with⟨h1,_⟩|⟨cs,i,T,F,h1,h2,h3,h4⟩
  ·grind
  grind
 obtain⟨i,T,F,b2,b3,b4⟩:=a0;obtain⟨b6,ad,b7,a1⟩:=HE h hx;have a9:ad=⟨blk r,0,none⟩:=by simp_all [pa,Addr.add];grind
 subst a9;have a2:cells≠ []:=by
  rintro rfl
  cases r with
  |slot n=>cases hm
  |hand=>cases hm
  |box n=>grind [St.place,St.root,Bq]
  |ext n=>grind [St.place,St.root,Bq]
 have a3:a.eval x::l.map (λx=>a.eval x.2.2)=(args.map a.eval).toList:=by
  rw[O1,<-hl,C8,GN];rfl
 have k:Ke w (.ext cells::as) (args.map a.eval).toList (FS r++ []) (US r++U'):=by
  rw[<-a3];exact⟨_,_,FS r,[],US r,U',rfl,rfl,rfl,⟨blk r,i,T,F,a1,b2,b3,b4,a2⟩,k5⟩
 rw[AJ]at k;have b8:∀s b,b∈B9 (B9 US r []) .hand (US r) s->∃s',b∈US s':=by
  intro s b hb;by_cases hs:s= .hand
  ·grind [BF]
  rw[AQ hs]at hb;by_cases b0:s=r
  ·grind [BF]
  grind [AQ]
 have c0:∀s b,s≠ .hand->b∈B9 (B9 FS r []) .hand (FS r) s->s≠r/\b∈FS s:=by
  intro s b hs hb;rw[AQ hs]at hb;by_cases b0:s=r
  ·grind [BF]
  grind [AQ]
 have k6':∀b∈U',(∃s,b∈US s)\/(c=false/\∃s,s≠r/\b∈FS s):=by grind
 have y:∀b∈FS r,b∉US r++U':=by
  intro b hb hb'
  rcases Ay.1 hb' with hb'|hb'
  ·exact h.disU r r b hb hb'
  rcases k6' b hb' with⟨s,h4⟩|⟨_,s,h5,h4⟩
  ·exact h.disU r s b hb h4
  exact h.dis r s (Jj h5) b hb h4
 have m:=hg w _ (FS r) (US r++U') k (h.nodup r) y (by
  intro b hb
  rcases Ay.1 hb with hb|hb
  ·exact(h.inF r b hb).2
  rcases Ay.1 hb with hb|hb
  ·exact(h.inU r b hb).2
  rcases k6' b hb with⟨s,h4⟩|⟨_,s,h5,h4⟩
  ·exact(h.inU s b h4).2
  exact(h.inF s b h4).2)
 unfold Oper.wp;rw[Hl ho hf];simp only[Oper.upon];rw[Array.toArray_toList]at m;refine Calls.mono m ?_;rintro e w' ⟨v,Fr,Ur,G,V,rfl,g⟩;have p:=g.fin;rw[<-a3]at p;simp only[Ke]at p;obtain⟨v1,vs1,G1,G2,V1,V2,e1,rfl,rfl,⟨b,cur',T',F0,g1,g2,g3,rfl,g5⟩,z⟩:=p;obtain⟨rfl,rfl⟩:=Ti z
 injection e1 with e1 e2
 rw[<-e1,a1]at g1
 injection g1 with g1
 injection g1 with g1
 injection g1 with g1
 subst g1;have a4:=g.nodup;have a5:=g.dis;have t:=g.inF;have u:=g.inU;simp only[AJ]at a4 a5 t u;have hV:∀b∈Ur++V1,(∃s,b∈US s)\/((b∈FS r\/w.heap.size<=b)/\b<w'.heap.size):=by
  intro b hb;obtain⟨h4,h5⟩:=u b hb
  rcases h4 with h4|h4|h4
  ·rcases Ay.1 h4 with h4|h4
   ·grind
   rcases k6' b h4 with h6|⟨h6,s,h7,h8⟩
   ·exact .inl h6
   rcases h0 with h0|⟨c1,c2⟩
   ·grind
   have n1:=Qq g.res c1
   grind [J4]
  ·grind
  omega
 have a7:∀j,((E.setRoot r cells').bump r).place r [] j=cells'[j]? :=by
  intro j
  cases r with
  |slot n=>cases hm
  |hand=>cases hm
  |box n=>simp[St.place,St.bump,St.setRoot,St.root,B9,Bq]
  |ext n=>simp[St.place,St.bump,St.setRoot,St.root,B9,Bq]
 have a6:∀j,E.place r [] j=cells[j]? :=by
  intro j
  cases r with
  |slot n=>cases hm
  |hand=>cases hm
  |box n=>grind [St.place,St.root,Bq]
  |ext n=>grind [St.place,St.root,Bq]
 let E1:St:=(E.setRoot r cells').bump r
 have ev:∀s,s≠r->E1.ver s=E.ver s:=by
  intro s hs;cases r<;>simp[E1,St.bump,St.setRoot,B9,hs]
 have evr:E1.ver r=E.ver r+1:=by cases r<;>simp[E1,St.bump,St.setRoot,B9]
 have eg:∀s,E1.gen s=E.gen s:=by intro s;cases r<;>rfl
 have er:∀s,s≠r->E1.root s=E.root s:=by
  intro s hs
  cases r with
  |slot n=>cases hm
  |hand=>cases hm
  |box n=>cases s<;>simp[E1,St.bump,St.setRoot,St.root,B9,hs]
  |ext n=>cases s<;>simp[E1,St.bump,St.setRoot,St.root,B9,hs]
 have es:∀n,E1.slots n=E.slots n:=by
  intro n
  cases r with
  |slot n=>cases hm
  |hand=>cases hm
  |box n=>rfl
  |ext n=>rfl
 have eb:∀s,E1.boxes s=if s=r then some cells' else E.boxes s:=by
  intro s
  cases r with
  |slot n=>cases hm
  |hand=>cases hm
  |box n=>rfl
  |ext n=>rfl
 have b1:∀s,BH w w' a a E E1 blk blk s:=by
  intro s;by_cases hs:s=r
  ·subst hs;refine⟨.inl (by rw[evr];omega),.inr ⟨eg s,λj ad hv hp=>?_⟩⟩;refine⟨(by cases s<;>first|exact hv|(cases hm)),?_⟩
   grind
  by_cases hh:s= .hand
  ·subst hh;exact EW (ev _ hs) (eg _)<|by simp[St.root,h.nohand]
  exact Di h (ev s hs) (eg s) (er s hs) (λ_ _=>rfl) (λ_=>rfl)
   (λb hb=>g.keep b (h.inF s b hb).2<|h.dis s r hs b hb) (λb hb=>g.keep b (h.inU s b hb).2 λe=>h.disU r s b e hb)
 have k7:=h.two (w':=w') (a':=a) (E':=E1) (blk':=blk) (r1:=r) (r2:= .hand) (L1:=blk r::F0) (L2:=Fr) (V1:=V1) (V2:=Ur) h9
  (by grind)
  (λb hb=>by
   grind)
  (λb hb=>by grind)
  g.size g.os g.tape g.output (λb hb q _=>g.keep b hb q) b1 (λn _ _=>⟨es n,rfl⟩) (λs _ hs _=>⟨by grind,rfl⟩)
  (by
   have:FK w' a E1 blk r (blk r::F0) V1:=by
    have:=eb r;rw[Bv rfl]at this
    cases r with
    |slot n=>cases hm
    |hand=>cases hm
    |box n=>exact .inr ⟨cells',cur',T',F0,this,g2,g3,rfl⟩
    |ext n=>exact .inr ⟨cells',cur',T',F0,this,g2,g3,rfl⟩
   exact this)
  trivial (by rw[eb,AT<|Jj h9];exact h.nohand) h.len h.nodef (hfz:=by
   intro n hn;have e:((E.setRoot r cells').bump r).fz=E.fz:=by rw[PM,GX]
   exact h.frz n<|e▸hn) (hamb:=by rw[Lt,D9])
 have kh:(B9 (B9 FS r (blk r::F0)) .hand Fr) .hand=Fr:=BF _ _ _;have kh2:(B9 (B9 US r V1) .hand Ur) .hand=Ur:=BF _ _ _
 cases hd:o.dst with
 |some d=>
  obtain⟨FS',US',q1,q2,q3⟩:=k7.land (w':=w') (d:=d) (s:=res) (v:=v) (F:=Fr) (U:=Ur) (hN d hd) (Mt g.res) (CF.1 a4).1
   (λb hb=>⟨.inl (by rw[kh];exact hb),(t b<|BJ _ hb).2⟩) (λb hb=> .inl ⟨.hand,by grind⟩) (Ax _) rfl rfl rfl (λ_ _ _=>rfl)
  grind
 |none=>
  obtain⟨FS',US',q1,q2,q3⟩:=k7.drop (w':=w') (Ax _) rfl rfl rfl λ_ _ _=>rfl;have:=hK w' v blk FS' US' (by rw[hd];exact q1) q2 q3
  grind
end
theorem YM {f:FuncId} (A:Nat->Ql) (hA:∀b,(A b).B=[]/\(∀w,(A b).I w)/\∀c,(A b).pin=some c->c=b) {c:Code} {cells cells':List TV} {res:SV} (hf:P.funcs[f]?=some fn) (hb:fn.body=some c) (h:∀b,Wp P fn.ntmps c (CQ (.ext cells::as) (A b)) λe E=>(e= .normal\/e= .ret)/\∃ss E',Dm P E fn.results.toList=some (ss,E')/\D6 ss=res/\E'.boxes (.ext 0)=some cells') (r:cells'.isEmpty=false):
  AC P f (.ext cells::as) res (.ext cells'::List.replicate as.length .gone):=by
 intro w vs FA UA ha k j l;have ha':=ha;obtain⟨v0,vs0,F1,F2,U1,U2,rfl,rfl,rfl,⟨b0,cur0,T0,F0,rfl,_,_,rfl,_⟩,s⟩:=ha;obtain⟨blk,FS,US,hr,hF,hU⟩:=Rr (N:=fn.ntmps) ha' k j l (A:=A b0) ((hA b0).2.1 w) (λb hb=>by grind) (hpin:=λc hc=>((hA b0).2.2 c hc).symm);refine calls_of_wp hf hb<|wp_mono (h b0 _ _ _ _ _ _ _ _ hr hF hU) ?_;rintro e a w' ⟨E,blk',FS',US',⟨he,ss,E',h1,rfl,o⟩,h2,h3,h4⟩;obtain⟨us,FS2,US2,F,U,k1,k2,k3,k4,k5⟩:=Ld h2 h1;rw[h3,Av]at k4;rw[h4,Av]at k5;have i:∀(n:Nat) (vs:List Value),vs.length=n->Ke w' (List.replicate n .gone) vs [] []:=by
  intro n
  induction n with
  |zero=>intro vs hv;simp at hv;subst hv;exact⟨rfl,rfl,rfl⟩
  |succ n ih=>
   intro vs hv
   cases vs with
   |nil=>simp at hv
   |cons v vs=>exact⟨v,vs,[],[],[],[],rfl,rfl,rfl,⟨rfl,rfl⟩,ih vs<|by simpa using hv⟩
 have m:vs0.length=as.length:=by grind [Sc]
 have p:blk' (.ext 0)=b0:=by
  rw[k3.xblk];rfl
 obtain⟨d,T,F3,b2,b3,b4⟩:∃d T F3,w'.heap[b0]?=some (.cells d T (0,0))/\Bk w' cells' d.toList F3 (US2<|.ext 0)/\FS2 (.ext 0)=b0::F3:=by
  rcases k3.box (.ext 0) rfl with⟨q,_⟩|⟨cs,d,T,F3,q1,q2,q3,q4⟩
  ·grind
  grind
 have hne':cells'≠ []:=by grind
 have g:a.defers=[]/\∃v,(results fn a.tmps).run P w'= .ok v w'/\∃v' F U G V,Ending.returned v= .returned v'/\AAd w w' ((b0::F0)++F2) (U1++U2) (D6 ss) (.ext cells'::List.replicate as.length .gone) (.pointer (some ⟨b0,0,none⟩)::vs0) v' F U G V:=by
  refine⟨h2.nodef,_,Nt k1,_,F,U,FS2<|.ext 0,US2<|.ext 0,rfl,?_⟩
  exact{
   res:=QH k2
   fin:=⟨_,vs0,FS2<|.ext 0,[],US2<|.ext 0,[],rfl,by simp,by simp,⟨b0,d,T,F3,rfl,b2,b3,b4,hne'⟩,i _ _ m⟩
   nodup:=by
    rw[<-k4,CF];exact⟨k3.nodup _,k3.nodup _,λx hx y hy e=>k3.dis .hand (.ext 0) (by simp) x hx<|e▸hy⟩
   dis:=by
    intro b hb hb';rw[<-k4]at hb;rw[<-k5]at hb'
    rcases Ay.1 hb with hb|hb<;>rcases Ay.1 hb' with hb'|hb'
    ·exact k3.disU .hand .hand b hb hb'
    ·exact k3.disU .hand (.ext 0) b hb hb'
    ·exact k3.disU (.ext 0) .hand b hb hb'
    exact k3.disU (.ext 0) (.ext 0) b hb hb'
   inF:=by
    intro b hb;rw[<-k4]at hb
    rcases Ay.1 hb with hb|hb
    ·exact k3.inF .hand b hb
    exact k3.inF (.ext 0) b hb
   inU:=by
    intro b hb;rw[<-k5]at hb
    rcases Ay.1 hb with hb|hb
    ·exact k3.inU .hand b hb
    exact k3.inU (.ext 0) b hb
   os:=k3.os
   tape:=k3.tape
   output:=k3.output
   size:=k3.size
   keep:=λb hb hF=>k3.keep b hb hF (λe=>by grind)}
 rcases he with rfl|rfl
 ·exact g
 exact g
theorem tW {f:FuncId} {c:Code} {a cells':List TV} {b:SV} (hf:P.funcs[f]?=some fn) (hb:fn.body=some c) (h:Wp P fn.ntmps c (CQ (.ext a::as)) λe E=>(e= .normal\/e= .ret)/\∃ss E',Dm P E fn.results.toList=some (ss,E')/\D6 ss=b/\E'.boxes (.ext 0)=some cells') (d:cells'.isEmpty=false):
 AC P f (.ext a::as) b (.ext cells'::List.replicate as.length .gone):=YM (λ_=>Ql.none) (λ_=>⟨rfl,λ_=>trivial,λ_ h=>by cases h⟩) hf hb (λ_=>h) d
def jK (b:Nat):Ql:={Ql.none with pin:=some b}
theorem AAI (b:Nat):(jK b).B=[]/\(∀w,(jK b).I w)/\∀c,(jK b).pin=some c->c=b:=⟨rfl,λ_=>trivial,λc h=>by injection h with h;exact h.symm⟩
theorem AD8 {len:Nat} {o:Oper} {m:Nat} (r:Root) (q:List Nat) (j:Nat) (hn:n=(m:Int)) {t e:TypeId} {a i:Operand} (ho:o.op= .indexAddr t a i:=by rfl) (ht:P.underlying t=some (.array len e):=by rfl) (hi:E.cell1 P 0 i=some (.int k n):=by rfl) (hp:E.ptr? a=some (r,q,j):=by rfl) (hc:P.cellsOf e=1:=by rfl) (hl:Nat.blt m len=true:=by rfl) (hs:(E.place r q<|j+m).isSome=true:=by rfl):AG P E o=some (.one<|.ptr r (E.stamp r q) q<|j+m):=by simp_all [AG]
def DU (l:List Int):ByteArray:=strOfNums l
theorem UK {f:Int->List TV} (hf:∀n,f n=[.int .u8 n]):∀l,N5 (Az f l)=some l
 |[]=>rfl
 |n::l=>by
  have:Az f (n::l)=f n++Az f l:=by simp[Az]
  rw[this,hf];simp only[Jg,N5,UK hf l,ID]
theorem AEe {f:Int->List TV} {x:Operand} {o:Oper} (hf:∀n,f n=[.int .u8 n]) (l:List Int) {s d e e':TypeId} {a:Bool} {r:Root} {q:List Nat} (ho:o.op= .convert s d x:=by rfl) (hs:P.underlying s=some (.slice e):=by rfl) (hd:P.underlying d=some .string:=by rfl) (he:P.underlying e=some (.int .u8):=by rfl) (hr:E.ref x=some (r,q,j):=by rfl) (hp:E.place r q j=some (.sl a e' 1<|Az f l):=by rfl):AG P E o=some (.one<|.str<|DU l):=by
 simp only[AG,ho,hs,hd,he,hr,hp,Co,UK hf,ID];rfl
def shl (k:IntKind) (a b:Int):Option Int:=if b<0 then none else some<|k.wrap<|a*2^(min b.toNat k.bits)
theorem ADg {x y:Operand} {o:Oper} {a b v:Int} (h:shl k a b=some v) {t t2:TypeId} (ho:o.op= .binOp .shl t x y t2:=by rfl) (hx:E.cell1 P t x=some (.int k a):=by rfl) (hy:E.cell1 P t y=some (.int k2 b):=by rfl):AG P E o=some (.one<|.int k v):=by grind [shl,AG,VH,W6]
def dr (l:List α) (lo hi:Int):Option (List α):=if 0<=lo/\lo<=hi/\hi<=l.length then some ((l.drop lo.toNat).take<|hi.toNat-lo.toNat)else none
theorem VA (hf:∀x,(f x).length=sz):∀(l:List α) (n:Nat),(Az f l).take (n*sz)=Az f (l.take n)
 |l,0=>by simp[Az]
 |[],n+1=>by simp[Az]
 |x::l,n+1=>by
  have h1:Az f (x::l)=f x++Az f l:=by simp[Az]
  have h2:Az f (x::l.take n)=f x++Az f (l.take n):=by simp[Az]
  rw[h1,K1,Nat.add_comm,List.take_append,hf x,Nat.add_sub_cancel_left,VA hf l n,List.take_succ_cons,h2,AF (by rw[hf x];omega)]
theorem AEd {v:List α} {x oh:Operand} {o:Oper} (hf:∀x,(f x).length=sz) {a b:Int} (h:dr l a b=some v) {t e e':TypeId} {r:Root} {q:List Nat} (ho:o.op= .slice t x lo (some oh) none:=by rfl) (ht:P.underlying t=some (.slice e):=by rfl) (hr:E.ref x=some (r,q,j):=by rfl) (hp:E.place r q j=some (.sl false e' sz<|Az f l):=by rfl) (hl:(match lo with|some o=>E.cell1 P 0 o|none=>some<|.int .i64 0)=some (.int k1 a):=by rfl) (hh:E.cell1 P 0 oh=some (.int k2 b):=by rfl) (c:P.cellsOf e=sz:=by rfl) (h0:Nat.blt 0 sz=true:=by rfl):AG P E o=some (.one<|.sl false e' sz<|Az f v):=by
 have h0':0<sz:=by simp_all
 unfold dr at h;split at h
 ·rename_i hc
  injection h with h
  subst h;have hl':∀lo':Option TV,lo'=some (.int k1 a)->(match lo',E.cell1 P 0 oh with|some (.int _ l0),some (.int _ h0)=>if sz=P.cellsOf e/\0<sz/\0<=l0/\l0<=h0/\h0.toNat*sz<=(Az f l).length then some (SV.one<|.sl false e' sz<|((Az f l).drop<|l0.toNat*sz).take<|(h0.toNat-l0.toNat)*sz)else none|_,_=>none)=some (SV.one<|.sl false e' sz<|Az f<|(l.drop a.toNat).take<|b.toNat-a.toNat):=by simp_all [DC,IZ,VA]
  simp only[AG,ho,ht,hr,hp];exact hl' _ hl
 cases h
theorem ADj {v:List α} {x:Operand} {o:Oper} (hf:∀x,(f x).length=sz) {a:Int} (h:dr l a (ln l)=some v) {t e e':TypeId} {r:Root} {q:List Nat} (ho:o.op= .slice t x lo none none:=by rfl) (ht:P.underlying t=some (.slice e):=by rfl) (hr:E.ref x=some (r,q,j):=by rfl) (hp:E.place r q j=some (.sl false e' sz<|Az f l):=by rfl) (hl:(match lo with|some o=>E.cell1 P 0 o|none=>some<|.int .i64 0)=some (.int k1 a):=by rfl) (c:P.cellsOf e=sz:=by rfl) (h0:Nat.blt 0 sz=true:=by rfl):AG P E o=some (.one<|.sl false e' sz<|Az f v):=by
 have h0':0<sz:=by simp_all
 have b:(Az f l).length/sz=l.length:=by simp_all [DC]
 unfold dr at h;split at h
 ·rename_i hc
  injection h with h
  subst h;have hl':∀lo':Option TV,lo'=some (.int k1 a)->(match lo',some (TV.int .i64 (((Az f l).length/sz:Nat):Int))with|some (.int _ l0),some (.int _ h0)=>if sz=P.cellsOf e/\0<sz/\0<=l0/\l0<=h0/\h0.toNat*sz<=(Az f l).length then some (SV.one<|.sl false e' sz<|((Az f l).drop<|l0.toNat*sz).take<|(h0.toNat-l0.toNat)*sz)else none|_,_=>none)=some (SV.one<|.sl false e' sz<|Az f<|(l.drop a.toNat).take<|((l.length:Nat):Int).toNat-a.toNat):=by simp_all [DC,IZ,VA];grind
  simp only[AG,ho,ht,hr,hp];exact hl' _ hl
 cases h
theorem gP {x y:Option β} {b:Bool} {r:β} (h:(bif b then x else y)=some r) (h1:b=true->x=some r->G) (h2:y=some r->G):G:=by grind
def vQ (b:ByteArray):List Int:=b.data.toList.map λc=>(c.toNat:Int)
def aps (l:List Int) (b:ByteArray):Option (List Int):=if l.length+b.size<=140737488355328 then some (l++vQ b)else none
theorem iN {f:Int->List TV} (hf:∀n,f n=[.int .u8 n]) (b:ByteArray):Vf b=Az f (vQ b):=by
 unfold Vf vQ
 induction b.data.toList with
 |nil=>rfl
 |cons c l ih=>grind [Az]
structure F9 (w w':World) (B:List Nat):Prop where
 os:w'.os=w.os
 tape:w'.tape=w.tape
 output:w'.output=w.output
 size:w.heap.size<=w'.heap.size
 keep:∀b,b<w.heap.size->b∉B->w'.heap[b]?=w.heap[b]?
theorem Ce.beside {w0:Base} {a:Act} (h:Ce w0 FA UA N w a E blk FS US) (hb:F9 w w' w0.B) (hB:A'.B=E.amb.B) (hI:A'.I w') (hP:∀b,A'.pin=some b->E.amb.pin=some b):Ce w0 FA UA N w' a {E with amb:=A'} blk FS US:=by
 have hF:∀r,∀b∈FS r,w'.heap[b]?=w.heap[b]? :=λr b hx=>hb.keep b (h.inF r b hx).2 (λe=>by
  obtain⟨h1,h2,h3⟩:=h.ambF b e
  rcases(h.inF r b hx).1 with h4|h4
  ·exact h2 h4
  omega)
 have hU:∀r,∀b∈US r,w'.heap[b]?=w.heap[b]? :=λr b hx=>hb.keep b (h.inU r b hx).2 (λe=>by
  obtain⟨h1,h2,h3⟩:=h.ambF b e
  rcases(h.inU r b hx).1 with h4|h4|h4
  ·exact h3 h4
  ·exact h2 h4
  omega)
 have c:∀s,BH w w' a a E {E with amb:=A'} blk blk s:=λs=>
  Di h rfl rfl (by cases s<;>rfl) (λ_ _=>rfl) (λ_=>rfl) (hF s) (hU s)
 have hr:∀r,FK w' a {E with amb:=A'} blk r (FS r) (US r):=λr=>
  Q9 c (h.root r) (λn _=>⟨rfl,rfl⟩) (λ_=>⟨rfl,rfl⟩) (hF r) (hU r)
 constructor
 ·exact λn=>hr<|.slot n
 ·intro r hm
  cases r with
  |slot n=>cases hm
  |hand=>cases hm
  |box n=>exact hr<|.box n
  |ext n=>exact hr<|.ext n
 ·exact h.nohand
 ·exact h.nodup
 ·exact h.dis
 ·exact h.disU
 ·exact λr b hx=>⟨(h.inF r b hx).1,AE (h.inF r b hx).2 hb.size⟩
 ·exact λr b hx=>⟨(h.inU r b hx).1,AE (h.inU r b hx).2 hb.size⟩
 ·exact h.disA
 ·exact hb.os.trans h.os
 ·exact hb.tape.trans h.tape
 ·exact hb.output.trans h.output
 ·exact Ir h.size hb.size
 ·exact λb h1 h2 h3=>(hb.keep b (AE h1 h.size) h3).trans<|h.keep b h1 h2 h3
 ·exact h.len
 ·exact h.nodef
 ·exact h.xblk
 ·rw[hB];exact h.ambB
 ·exact hI
 ·exact h.frz
 ·exact h.ambF
 exact λb hp=>h.pin b<|hP b hp
def L7 (P:Program) (f:FuncId) (A:Ql) (as:List AV) (A':Ql):Prop:=∀(w:World) (vs:List Value),Ke w as vs [] []->(∀b∈A.B,b<w.heap.size)->A.I w->Calls P f vs.toArray w λe w'=>e= .returned (.tuple #[])/\F9 w w' A.B/\A'.I w'
theorem tX {f:FuncId} {c:Code} (hf:P.funcs[f]?=some fn) (hb:fn.body=some c) (hr:fn.results= #[]) (hp:A.pin=none) (h:Wp P fn.ntmps c (CQ as A) λe E=>(e= .normal\/e= .ret)/\E.amb=A'):L7 P f A as A':=by
 intro w vs ha hB hA;obtain⟨blk,FS,US,g,hF,hU⟩:=Rr (N:=fn.ntmps) ha CR (by simp) (by simp) (A:=A) hA (λb hb=>⟨hB b hb,by simp,by simp⟩) (hpin:=λb h=>by grind);refine calls_of_wp hf hb<|wp_mono (h _ _ _ _ _ _ _ _ g hF hU) ?_;rintro e a w' ⟨E,blk',FS',US',⟨he,rfl⟩,h2,h3,h4⟩;have i:(results fn a.tmps).run P w'= .ok (.tuple #[]) w':=by
  rw[Yb (P:=P),hr];simp
 have d:a.defers=[]/\∃v,(results fn a.tmps).run P w'= .ok v w'/\Ending.returned v= .returned (.tuple #[])/\F9 w w' A.B/\E.amb.I w':=
  ⟨h2.nodef,_,i,rfl,⟨h2.os,h2.tape,h2.output,h2.size,λb h5 h6=>h2.keep b h5 (by simp) h6⟩,h2.ambI⟩
 rcases he with rfl|rfl
 ·exact d
 exact d
theorem Qt {w0:Base} {a:Act} {blk:Root->Nat} (h:Ce w0 FA UA N w a E blk FS US) (hF:FS .hand=[]) (hU:US .hand=[]) (hd:d<N) {s:SV} (hb:F9 w w' w0.B) (hB:A'.B=E.amb.B) (hI:A'.I w') (hs:iE w' s v [] []) (hP:∀b,A'.pin=some b->E.amb.pin=some b):
  ∃FS' US',Ce w0 FA UA N w' (a.put (some d) v) (({E with amb:=A'}:St).put (some d) s) blk FS' US'/\FS' .hand=[]/\US' .hand=[]:=by
 have k:=h.beside hb hB hI hP;exact k.land (w':=w') (F:=[]) (U:=[]) hd (Mt hs) CR (by simp) (by simp) (Ax _) rfl rfl rfl λ_ _ _=>rfl
theorem ACU {rr : β} {x : Option α} {k : α → Option β} {f : FuncId} {l : List AV} (h : x.bind k = some rr) (d : Nat) (Am : α → Ql) {args : Array Operand} {tys : Array TypeId} (ho : oo.op = .call { callee := .value (.func f), args := args, argTypes := tys }) (hA : E.amb = A) (hB : ∀ v, (Am v).B = A.B ∧ (Am v).pin = none) (i : I3 P E ((tys.toList.zip args.toList).map fun (t, x) => (false, t, x)) (List.replicate args.size none) = some (l, true)) (j : ∀ w vs F U, Ke w l vs F U → F = [] ∧ U = []) (m : ∀ v, x = some v → L7 P f A l (Am v)) (hk : ∀ v, x = some v → k v = some rr → FB P N ops rest (({ E with amb := Am v } : St).put (some d)<|.tup []) Q) (hf : P.funcs[f]? = some fn := by rfl) (hn : (fn.name == "runtime.NumGoroutine") = false := by rfl) (hb : fn.body.isNone = false := by rfl) (hd : oo.dst = some d := by rfl) (hN : Nat.blt d N = true := by rfl) (hz : tys.size = args.size := by rfl) (hg : AR P ops E oo = some true := by rfl) : FB P N ops (oo :: rest) E Q := by
 obtain⟨v,hv,h⟩:=Af.1 h;have hN':d<N:=by simp_all
 intro w0 FA UA w a blk FS US hr hF hU;simp only[wpList,BB hr hg,Co];refine .inl ?_;have g:((tys.toList.zip args.toList).map λ(t,x)=>(false,t,x)).length=args.size:=by simp[hz]
 obtain⟨U',k5,k6⟩:=Kj hr (Yv (l:=(tys.toList.zip args.toList).map λ(t,x)=>(false,t,x))) (by rw[g];exact i);have n:((tys.toList.zip args.toList).map λ(t,x)=>(false,t,x)).map (λx=>a.eval x.2.2)=(args.map a.eval).toList:=by
  rw[O1,GN];have:((λx:Bool×TypeId×Operand=>a.eval x.2.2)∘λ(x:TypeId×Operand)=>(false,x.1,x.2))=a.eval∘Prod.snd:=rfl
  grind [List.map_snd_zip]
 rw[n]at k5;obtain⟨_,rfl⟩:=j _ _ _ _ k5;have o:w0.B=A.B:=hr.ambB.trans<|by rw[hA]
 have c:=m v hv w _ k5 (λb hb=>by
  rw[<-o]at hb
  exact AE (hr.ambF b hb).1 hr.size) (by rw[<-hA];exact hr.ambI)
 unfold Oper.wp;rw[Hl ho ⟨fn,hf,by grind,hb⟩];refine Calls.mono c ?_;rintro e w' ⟨rfl,p,hI⟩;obtain⟨FS',US',q1,q2,q3⟩:=Qt (s:= .tup []) (v:= .tuple #[]) hr hF hU hN' (by grind) (by grind) hI ⟨[],rfl,rfl,rfl,rfl⟩ (λb hb=>by grind);rw[hd];exact hk v hv h _ _ _ _ _ _ _ _ q1 q2 q3
def H7 (P:Program) (Am:List γ->Ql) (lt:γ->γ->Bool) (g:FuncId) (cap:Array Value):Prop:=(∀(args:Array Value) (w:World),(callFunc g args).run P w= .ok (.enter g args) w)/\∀(l:List γ) (i j:Int) (x y:γ),gi l i=some x->gi l j=some y->∀w,(Am l).I w->(∀b∈(Am l).B,b<w.heap.size)->Calls P g (#[.int .i64 i,.int .i64 j]++cap) w λe w'=>e= .returned (.bool<|lt x y)/\F9 w w' (Am l).B/\(Am l).I w'
def L4 (P:Program) (Am:List γ->Ql) (sf:FuncId) (cap:Array Value):Prop:=∀(l:List γ) (i j:Int) (x y:γ),gi l i=some x->gi l j=some y->∀w,(Am l).I w->(∀b∈(Am l).B,b<w.heap.size)->∃w',(callFunc sf<|#[.int .i64 i,.int .i64 j]++cap).run P w= .ok (.value<|.tuple #[]) w'/\F9 w w' (Am l).B/\(Am<|si (si l i y) j x).I w'
theorem TW {a:Act} {o:Oper} {t:Nat} {args:Array Operand} {tys:Array TypeId} {g:FuncId} {cap:Array Value} (ho:o.op= .call {callee:= .value (.tmp t),args:=args,argTypes:=tys}) (hv:a.eval (.tmp t)= .func (.func g) #[] cap):
 (execOp a.eval o).run P w=(callFunc g<|args.map a.eval++cap).run P w:=by grind [execOp,resolve,Deferred.ofValue,invoke]
theorem zA {f:Fn} {w0:Base} {a:Act} {blk:Root->Nat} (h:Ce w0 FA UA N w a E blk FS US) {t:Nat} {ta cap:Array Value} (hs:E.slots t= .one (.fn f ta cap)):a.eval (.tmp t)= .func f ta cap:=by
 have:=h.slot t;rw[hs]at this;exact this.1.1
theorem ACT {l:List γ} {x y:γ} {i j:Int} {g:FuncId} {cap:Array Value} (c:H7 P Am lt g cap) (hx:gi l i=some x) (hy:gi l j=some y) (d:Nat) {t:Nat} {tys:Array TypeId} (hk:FB P N ops rest (E.put (some d) (.one (.bool (lt x y)))) Q) (hA:E.amb=Am l:=by rfl) (ho:oo.op= .call {callee:= .value (.tmp t),args:= #[o1,o2],argTypes:=tys}:=by rfl) (hs:E.slots t= .one (.fn (.func g) #[] cap):=by rfl) (h1:E.cell1 P 0 o1=some (.int .i64 i):=by rfl) (h2:E.cell1 P 0 o2=some (.int .i64 j):=by rfl) (hd:oo.dst=some d:=by rfl) (hN:Nat.blt d N=true:=by rfl) (hg:AR P ops E oo=some true:=by rfl):FB P N ops (oo::rest) E Q:=by
 have hN':d<N:=by simp_all
 intro w0 FA UA w a blk FS US hr hF hU;simp only[wpList,BB hr hg,Co];refine .inl ?_;have h:w0.B=(Am l).B:=hr.ambB.trans<|by rw[hA]
 have m:∀b∈(Am l).B,b<w.heap.size:=λb hb=>by
  rw[<-h]at hb;exact AE (hr.ambF b hb).1 hr.size
 have hI:(Am l).I w:=by rw[<-hA];exact hr.ambI
 have f:=c.2 l i j x y hx hy w hI m;unfold Oper.wp;have e1:=Cx hr h1;have e2:=Cx hr h2;have k:(execOp a.eval oo).run P w= .ok (.enter g<|#[.int .i64 i,.int .i64 j]++cap) w:=by
  rw[TW ho<|zA hr hs];rw[c.1];simp[e1,e2]
 rw[k];refine Calls.mono f ?_;rintro e w' ⟨rfl,n,hI'⟩;obtain⟨FS',US',q1,q2,q3⟩:=Qt (A':=E.amb) (s:= .one (.bool<|lt x y)) (v:= .bool (lt x y)) hr hF hU hN' (by rw[h];exact n) rfl (by grind) ⟨⟨rfl,rfl,rfl⟩,rfl⟩ λ_ hb=>hb;rw[hd];exact hk _ _ _ _ _ _ _ _ q1 q2 q3
theorem ACP {l:List γ} {x y:γ} {i j:Int} {cap:Array Value} (c:L4 P Am sf cap) (hB:∀l l',(Am l).B=(Am l').B/\(Am l).pin=none) (hx:gi l i=some x) (hy:gi l j=some y) (d:Nat) {t:Nat} {tys:Array TypeId} (hk:FB P N ops rest (({E with amb:=Am (si (si l i y) j x)}:St).put (some d)<|.tup []) Q) (hA:E.amb=Am l:=by rfl) (ho:oo.op= .call {callee:= .value (.tmp t),args:= #[o1,o2],argTypes:=tys}:=by rfl) (hs:E.slots t= .one (.fn (.func sf) #[] cap):=by rfl) (h1:E.cell1 P 0 o1=some (.int .i64 i):=by rfl) (h2:E.cell1 P 0 o2=some (.int .i64 j):=by rfl) (hd:oo.dst=some d:=by rfl) (hN:Nat.blt d N=true:=by rfl) (hg:AR P ops E oo=some true:=by rfl):FB P N ops (oo::rest) E Q:=by
 have hN':d<N:=by simp_all
 intro w0 FA UA w a blk FS US hr hF hU;simp only[wpList,BB hr hg,Co];refine .inl ?_;have f:w0.B=(Am l).B:=hr.ambB.trans<|by rw[hA]
 have g:∀b∈(Am l).B,b<w.heap.size:=λb hb=>by
  rw[<-f]at hb;exact AE (hr.ambF b hb).1 hr.size
 have hI:(Am l).I w:=by rw[<-hA];exact hr.ambI
 obtain⟨w',h,k,hI'⟩:=c l i j x y hx hy w hI g;unfold Oper.wp;have e1:=Cx hr h1;have e2:=Cx hr h2;have e:(execOp a.eval oo).run P w= .ok (.value<|.tuple #[]) w':=by
  rw[TW ho<|zA hr hs]
  grind
 rw[e];rw[Oper.upon_value];obtain⟨FS',US',q1,q2,q3⟩:=Qt (s:= .tup []) (v:= .tuple #[]) hr hF hU hN' (by grind) (by grind) hI' ⟨[],rfl,rfl,rfl,rfl⟩ (λb hb=>by rw[(hB _ []).2]at hb;cases hb);rw[hd];exact hk _ _ _ _ _ _ _ _ q1 q2 q3
def uP (l:List γ) (i j:Int):Option (γ×γ):=(gi l i).bind λx=>(gi l j).bind λy=>some (x,y)
theorem ABF {rr:β} {l:List γ} {i j:Int} {k:γ×γ->Option β} {g:FuncId} {cap:Array Value} (a:H7 P Am lt g cap) (h:(uP l i j).bind k=some rr) (d:Nat) {t:Nat} {tys:Array TypeId} (hk:∀v,k v=some rr->FB P N ops rest (E.put (some d) (.one (.bool (lt v.1 v.2)))) Q) (hA:E.amb=Am l:=by rfl) (ho:oo.op= .call {callee:= .value (.tmp t),args:= #[o1,o2],argTypes:=tys}:=by rfl) (hs:E.slots t= .one (.fn (.func g) #[] cap):=by rfl) (h1:E.cell1 P 0 o1=some (.int .i64 i):=by rfl) (h2:E.cell1 P 0 o2=some (.int .i64 j):=by rfl) (hd:oo.dst=some d:=by rfl) (hN:Nat.blt d N=true:=by rfl) (hg:AR P ops E oo=some true:=by rfl):FB P N ops (oo::rest) E Q:=by
 obtain⟨v,hv,h⟩:=Af.1 h;obtain⟨x,hx,hv⟩:=Af.1 hv
 grind [Af,ACT]
def mU (l:List γ) (i j:Int):Option (List γ):=(gi l i).bind λx=>(gi l j).bind λy=>some<|si (si l i y) j x
theorem ABD {rr:β} {l:List γ} {i j:Int} {k:List γ->Option β} {cap:Array Value} (a:L4 P Am sf cap) (hB:∀l l',(Am l).B=(Am l').B/\(Am l).pin=none) (h:((mU l i j).bind k)=some rr) (d:Nat) {t:Nat} {tys:Array TypeId} (hk:∀l',k l'=some rr->FB P N ops rest (({E with amb:=Am l'}:St).put (some d)<|.tup []) Q) (hA:E.amb=Am l:=by rfl) (ho:oo.op= .call {callee:= .value (.tmp t),args:= #[o1,o2],argTypes:=tys}:=by rfl) (hs:E.slots t= .one (.fn (.func sf) #[] cap):=by rfl) (h1:E.cell1 P 0 o1=some (.int .i64 i):=by rfl) (h2:E.cell1 P 0 o2=some (.int .i64 j):=by rfl) (hd:oo.dst=some d:=by rfl) (hN:Nat.blt d N=true:=by rfl) (hg:AR P ops E oo=some true:=by rfl):FB P N ops (oo::rest) E Q:=by
 obtain⟨l',hl',h⟩:=Af.1 h;obtain⟨x,hx,hl'⟩:=Af.1 hl'
 grind [Af,ACP]
def ADq (ls:List (Nat×SV)) (bs:List (Root×List TV)) (A:Ql):St:={ACx ls bs with amb:=A}
def TV.flat:TV->Bool
 | .int .. | .bool _| .str _| .fn .. =>true
 |_=>false
def oZ:AV->Bool
 | .sv (.one t)=>t.flat
 | .sv (.agg cs)=>cs.all TV.flat
 |_=>false
theorem jC {t:TV} (h:CL w t v F U) (ht:t.flat=true):F=[]/\U=[]:=by
 cases t<;>first|(cases ht;done)|(exact h.2)
theorem Ko:∀{ts:List TV} {vs:List Value} {F U:List Nat},Bk w ts vs F U->ts.all TV.flat=true->F=[]/\U=[]
 |[],vs,F,U,h,_=>by exact h.2
 |t::ts,vs,F,U,h,ht=>by
  simp only[L6,Ao]at ht;obtain⟨v,a,F1,F2,U1,U2,rfl,rfl,rfl,h1,h2⟩:=h;obtain⟨rfl,rfl⟩:=jC h1 ht.1;obtain⟨rfl,rfl⟩:=Ko h2 ht.2;exact⟨rfl,rfl⟩
theorem Zr:∀{l:List AV},l.all oZ=true->∀(w:World) (vs:List Value) (F U:List Nat),Ke w l vs F U->F=[]/\U=[]
 |[],_,w,vs,F,U,h=>h.2
 |s::l,hl,w,vs,F,U,h=>by
  simp only[L6,Ao]at hl;obtain⟨v,a,F1,F2,U1,U2,rfl,rfl,rfl,h1,h2⟩:=h;obtain⟨rfl,rfl⟩:=Zr hl.2 w a F2 U2 h2;have:F1=[]/\U1=[]:=by
   match s,hl.1,h1 with
   | .sv (.one t),ht,h1=>exact jC h1.1 ht
   | .sv (.agg cs),ht,h1=>obtain⟨_,_,h1⟩:=h1;exact Ko h1 ht
  grind
def TV.val:TV->Value
 | .int k n=> .int k n
 | .bool b=> .bool b
 | .str s=> .string s
 | .fn f ta c=> .func f ta c
 |_=> .bool false
theorem AAD {t:TV} (h:CL w t v F U) (ht:t.flat=true):v=t.val:=by
 cases t<;>first|(cases ht;done)|(exact h.1)
theorem TY:∀{ts:List TV} {vs:List Value} {F U:List Nat},Bk w ts vs F U->ts.all TV.flat=true->vs=ts.map TV.val
 |[],vs,F,U,h,_=>by exact h.1
 |t::ts,vs,F,U,h,ht=>by
  simp only[L6,Ao]at ht;obtain⟨v,a,F1,F2,U1,U2,rfl,_,_,h1,h2⟩:=h;rw[AAD h1 ht.1,TY h2 ht.2];rfl
theorem AAn {t:TV} (ht:t.flat=true):CL w t t.val [] []:=by
 cases t<;>first|(cases ht;done)|(simp[CL,TV.val])
theorem Ty:∀{ts:List TV},ts.all TV.flat=true->Bk w ts (ts.map TV.val) [] []
 |[],_=>by simp[Bk]
 |t::ts,ht=>by
  simp only[L6,Ao]at ht;exact⟨_,_,[],[],[],[],rfl,rfl,rfl,AAn ht.1,Ty ht.2⟩
theorem WV {t:TV}:t.val.oneCell'=true:=by cases t<;>rfl
theorem Ip (e:TypeId) (fz:Nat×Nat) (g:Nat):∀(vs:List Value) (o:Nat) (a:Array Value) (w:World),w.heap[g]?=some (.cells a e fz)->o+vs.length<=a.size->(w.setCells g o vs).heap[g]?=some (.cells (setRow a.toList o vs).toArray e fz)
 |[],o,a,w,h,_=>by simp_all [World.setCells,setRow]
 |v::vs,o,a,w,h,hl=>by
  simp only[AD]at hl;simp only[World.setCells];have h1:(w.setCell ⟨g,o,none⟩ v).heap[g]?=some (.cells (a.setIfInBounds o v) e fz):=by grind [World.setCell]
  rw[Ip e fz g vs (o+1) (a.setIfInBounds o v) _ h1 (by simp;omega)];congr 2;apply Array.ext';simp only[Array.toList_setIfInBounds];apply Bo;intro k;have l1:(a.toList.take o).length=o:=by simp;omega
  have l2:((a.toList.set o v).take<|o+1).length=o+1:=by simp;omega
  simp only[setRow,Bx]
  rcases Tr k o with hk|hk|hk
  ·grind
  ·simp_all [KQ]
  have eL:(List.take (o+1) (a.toList.set o v)++(vs++List.drop (o+1+vs.length) (a.toList.set o v)))[k]?=(vs++List.drop (o+1+vs.length) (a.toList.set o v))[k-(o+1)]? :=by grind
  have eR:(List.take o a.toList++(v::vs++List.drop (o+(v::vs).length) a.toList))[k]?=(vs++List.drop (o+(v::vs).length) a.toList)[k-(o+1)]? :=by
   rw[CS (by omega),l1,show k-o=(k-(o+1))+1 by omega,BX,List.getElem?_cons_succ]
  rw[eL,eR];by_cases hv:k-(o+1)<vs.length
  ·grind
  rw[CS (by omega),CS (by omega),So,So,List.getElem?_set_ne (by omega),AD]
  grind
structure lP (n b g cap:Nat) (e T:TypeId) (sz:Nat) (enc:γ->List TV) (w:World) (l:List γ):Prop where
 ne:b≠g
 len:l.length=n
 box:w.heap[b]?=some (.cells #[.slice (some ⟨g,0,none⟩) l.length cap] T (0,0))
 row:∃cur,w.heap[g]?=some (.cells cur e (0,0))/\cur.size=cap*sz/\cur.toList.take (l.length*sz)=(Az enc l).map TV.val
 le:l.length<=cap/\cap<=maxLen
def Lz (n b g cap:Nat) (e T:TypeId) (sz:Nat) (enc:γ->List TV) (l:List γ):Ql where
 B:=[b,g]
 I:=λw=>lP n b g cap e T sz enc w l
 st:=λw w' h hk=>⟨h.ne,h.len,by rw[hk b<|by simp];exact h.box,by rw[hk g<|by simp];exact h.row,h.le⟩
 rd:=λad=>if ad.spot.isSome=true then none else if ad.block=b then(if ad.off=0 then some (.slice (some ⟨g,0,none⟩) n cap)else none)else if ad.block=g then(if ad.off<l.length*sz then((Az enc l).map TV.val)[ad.off]? else none)else none
 rdI:=λw ad v h hr=>by
  obtain⟨bl,off,spot⟩:=ad
  cases spot with
  |some s=>simp at hr
  |none=>
   simp only[Option.isSome_none,Mc,nZ]at hr;split at hr
   ·rename_i hb;subst hb;split at hr
    ·rename_i ho;subst ho
     injection hr with hr
     subst hr;simp[World.cell?,h.box,h.len]
    cases hr
   split at hr
   ·rename_i hg;subst hg;split at hr
    ·rename_i ho;obtain⟨a,h1,h2,h3⟩:=h.row
     grind [World.cell?]
    cases hr
   cases hr
theorem Tf (f:γ->List TV) (x:γ) (l:List γ):Az f (x::l)=f x++Az f l:=by simp[Az]
theorem HV (g:Nat):∀(vs:List Value) (o:Nat) (w:World),(w.setCells g o vs).tape=w.tape
 |[],_,_=>rfl
 |v::vs,o,w=>by
  simp only[World.setCells];rw[HV g vs,World.tape_setCell]
theorem OZ (f:α->β) (A B:List α) (j:Nat):(setRow A j B).map f=setRow (A.map f) j (B.map f):=by
 simp[setRow,List.map_take,List.map_drop]
theorem eH {enc:γ->List TV} (a:∀x,(enc x).length=sz) (x z:γ):setRow (enc x) 0 (enc z)=enc z:=by grind [setRow]
theorem Rz {l:List γ} {i:Int} {x z:γ} {enc:γ->List TV} (a:∀x,(enc x).length=sz) (h:gi l i=some x):setRow (Az enc l) (i.toNat*sz) (enc z)=Az enc (si l i z):=
 Vg a h (k:=0) (by rw[a];simp) (eH a x z)
theorem H0 {i:Int} (h:gi l i=some x):0<=i/\l[i.toNat]?=some x:=by grind [gi]
theorem XC {ie:TypeInfo} {b g cap:Nat} {e T:TypeId} {enc:γ->List TV} (f:∀x,(enc x).length=sz) (n:Nat) (gS:Bool) (hx:∀args W,(callFunc sf args).run P W=((Extern.ReflectliteSwapper.swap gS args).run P W).andThen λv w'=> .ok (.value v) w') (r:P.info? e=some ie) (h:ie.size=sz) (p:∀w,(isAgg e).run P w= .ok true w):
  L4 P (Lz n b g cap e T sz enc) sf #[.slice (some ⟨g,0,none⟩) n cap,typeHandle P e]:=by
 intro l i j x y hi hj w hI hB;obtain⟨s,hn,h4,⟨d,hg,h7,t⟩,h8⟩:=hI;obtain⟨i0,i1⟩:=H0 hi;obtain⟨j0,j1⟩:=H0 hj;obtain⟨a,rfl⟩:=BN i0;obtain⟨c,rfl⟩:=BN j0;simp only[B8]at i1 j1;have la:=(Ae.1 i1).1;have lc:=(Ae.1 j1).1;have hX:((enc x).map TV.val).length=sz:=by grind
 have hY:((enc y).map TV.val).length=sz:=by grind
 have h5:(Az enc l).length=l.length*sz:=DC f l;have h6:l.length*sz<=d.size:=by simp_all [BI]
 have u:(a+1)*sz<=l.length*sz:=BI _ la;have h0:(c+1)*sz<=l.length*sz:=BI _ lc;rw[K1]at u h0;have cell:∀(m:Nat) (z:γ),l[m]?=some z->∀k v,((enc z).map TV.val)[k]?=some v->w.cell? ⟨g,0+m*ie.size+k,none⟩=some v:=by
  intro m z hm k v hk;have h9:=(Ae.1 hk).1;have lm:=(Ae.1 hm).1;have a0:(m+1)*sz<=l.length*sz:=BI _ lm;rw[h,K0];have e1:(Az enc l)[m*sz+k]?=(enc z)[k]? :=by
   have:=IZ f l m;have h2:(Az enc l)[m*sz+k]?=((Az enc l).drop<|m*sz)[k]? :=by grind
   grind [A6,Az]
  have e2:d.toList[m*sz+k]?=some v:=by
   have:(d.toList.take<|l.length*sz)[m*sz+k]?=d.toList[m*sz+k]? :=by grind
   grind
  grind [World.cell?]
 have frz:∀(m k:Nat),w.frozen? ⟨g,0+m*ie.size+k,none⟩=false:=by grind [World.frozen?]
 have o:=Go.Lib.run_swap_cells (P:=P) gS e ie r p g 0 n cap a c (by omega) (by omega) ((enc x).map TV.val) ((enc y).map TV.val) (by rw[hX,h]) (by rw[hY,h]) (λv hv=>by grind [WV]) (λv hv=>by grind [WV]) w (cell a x i1) (cell c y j1) (λk _=>frz a k) λk _=>frz c k;simp only[K0,h]at o;have h1:=Ip e (0,0) g ((enc y).map TV.val) (a*sz) d w hg (by rw[hY];omega);have a1:(setRow d.toList (a*sz)<|(enc y).map TV.val).toArray.size=d.size:=by grind [D1]
 have h2:=Ip e (0,0) g ((enc x).map TV.val) (c*sz) _ _ h1 (by grind);have kB:∀k,k<w.heap.size->k≠g->((w.setCells g (a*sz)<|(enc y).map TV.val).setCells g (c*sz)<|(enc x).map TV.val).heap[k]?=w.heap[k]? :=by grind [World.heap_setCells_other]
 refine⟨(w.setCells g (a*sz)<|(enc y).map TV.val).setCells g (c*sz)<|(enc x).map TV.val,?_,⟨?_,?_,?_,?_,?_⟩,?_⟩
 ·rw[hx];have ea:(#[Value.int .i64 (a:Int),Value.int .i64 (c:Int)]++ #[Value.slice (some ⟨g,0,none⟩) n cap,typeHandle P e])= #[.int .i64 (a:Int),.int .i64 (c:Int),.slice (some ⟨g,0,none⟩) n cap,typeHandle P e]:=rfl;rw[ea,o];rfl
 ·rw[World.os_setCells,World.os_setCells]
 ·rw[HV,HV]
 ·rw[World.output_setCells,World.output_setCells]
 ·grind
 ·grind [Lz]
 have q:(si (si l (a:Int) y) (c:Int) x).length=l.length:=by simp[si]
 have lcur:d.toList.length=d.size:=by simp
 have a2:(setRow d.toList (a*sz)<|(enc y).map TV.val).length=d.size:=by omega
 have a3:(setRow (setRow d.toList (a*sz)<|(enc y).map TV.val) (c*sz)<|(enc x).map TV.val).length=d.size:=by grind [D1]
 refine⟨s,q.trans hn,?_,⟨_,h2,?_,?_⟩,by grind⟩
 ·grind
 ·grind
 rw[q];rw[KS (by rw[hX];omega) (by grind),KS (by rw[hY];omega) (by grind),t,<-OZ,<-OZ];have e1:setRow (Az enc l) (a*sz) (enc y)=Az enc (si l (a:Int) y):=by grind [Rz,B8]
 obtain⟨z0,h3⟩:∃z0,gi (si l (a:Int) y) (c:Int)=some z0:=by grind [si,gi]
 have e2:=Rz f (z:=x) h3
 grind
theorem gW {w0:Base} {a:Act} {blk:Root->Nat} (h:Ce w0 FA UA N w a E blk FS US) {t:Nat} {ad:Addr} (hs:E.slots t= .one (.adr ad)):a.eval (.tmp t)= .pointer (some ad):=by
 have:=h.slot t;rw[hs]at this;exact this.1.1
theorem ABb {w0:Base} {a:Act} {blk:Root->Nat} (h:Ce w0 FA UA N w a E blk FS US) {t:Nat} {ad:Addr} {n c:Nat} (hs:E.slots t= .one (.hdr ad n c)):a.eval (.tmp t)= .slice (some ad) n c:=by
 have:=h.slot t;rw[hs]at this;exact this.1.1
theorem EB.any {o:Oper} (d:Nat) (t:TV) (hk:EB P N ops rest (E.put (some d) (.one t)) K) (b:∀(w0:Base) (FA UA:List Nat) (w:World) (a:Act) (blk:Root->Nat) (FS US:Root->List Nat),Ce w0 FA UA N w a E blk FS US->∃v,(execOp a.eval o).run P w= .ok (.value v) w/\CL w t v [] []/\v.cells= #[v]) (hd:o.dst=some d:=by rfl) (hN:Nat.blt d N=true:=by rfl) (hg:AR P ops E o=some true:=by rfl):EB P N ops (o::rest) E K:=by
 have hN':d<N:=by simp_all
 intro w0 FA UA w a blk FS US k1 k2 k3;obtain⟨v,h1,h2,h3⟩:=b w0 FA UA w a blk FS US k1;simp only[wpStill,BB k1 hg,Co,Oper.still,h1,Oper.stillUpon_value];rw[hd];refine hk _ _ _ _ _ _ _ _ (k1.put (F:=[]) (U:=[]) hN' (by grind [Fs,H8]) WS.none) ?_ ?_
 ·grind [AQ]
 grind [AQ]
theorem JR {o:Oper} {ty:TypeId} {x:Nat} (d:Nat) (t:TV) (v:Value) {ad:Addr} (hk:EB P N ops rest (E.put (some d) (.one t)) K) (hs:E.slots x= .one (.adr ad)) (b:E.amb.rd ad=some v) (hv:∀w,CL w t v [] []) (hc:v.cells= #[v]) (ha:aL P ty=false) (hu:(P.underlying ty).isSome=true) (ho:o.op= .load ty (.tmp x):=by rfl) (hd:o.dst=some d:=by rfl) (hN:Nat.blt d N=true:=by rfl) (hg:AR P ops E o=some true:=by rfl):EB P N ops (o::rest) E K:=
 EB.any d t hk (λw0 FA UA w a blk FS US h=>by
  have h1:=gW h hs;have h2:=E.amb.rdI w ad v h.ambI b;have c:P.underlying ty≠none:=by grind
  simp_all [Vm,execOp,Instr.loadAt,Instr.sureAddr,loadVar]) hd hN hg
theorem NJ {o:Oper} {x f:Nat} {fs:Array Field} {fd:Field} (d:Nat) {ad:Addr} {st:TypeId} (hk:EB P N ops rest (E.put (some d) (.one (.adr (ad.add fd.offset)))) K) (hs:E.slots x= .one (.adr ad)) (c:P.underlying st=some (.struct fs)) (hf:fs[f]?=some fd) (b:P.cellsOf fd.type≠0) (ho:o.op= .fieldAddr st (.tmp x) f:=by rfl) (hd:o.dst=some d:=by rfl) (hN:Nat.blt d N=true:=by rfl) (hg:AR P ops E o=some true:=by rfl):EB P N ops (o::rest) E K:=
 EB.any d (.adr<|ad.add fd.offset) hk (λw0 FA UA w a blk FS US h=>by
  have h1:=gW h hs;obtain⟨i,hi,_⟩:=Fz b;refine⟨.pointer<|some<|ad.add fd.offset,?_,by simp[CL],rfl⟩
  simp[execOp,ho,h1,Instr.fieldAt,run_underlying c,hf,Instr.sureAddr,fieldPlace,run_sizeOf w hi,b]) hd hN hg
theorem VM {o:Oper} {x:Nat} {i:Operand} (d:Nat) {ad:Addr} {n c:Nat} {t e:TypeId} {m:Int} (hk:EB P N ops rest (E.put (some d) (.one (.adr (ad.add (m.toNat*P.cellsOf e))))) K) (hs:E.slots x= .one (.hdr ad n c)) (ht:P.underlying t=some (.slice e)) (hi:E.cell1 P 0 i=some (.int k m)) (h0:0<=m) (hm:m<n) (f:P.cellsOf e≠0) (ho:o.op= .indexAddr t (.tmp x) i:=by rfl) (hd:o.dst=some d:=by rfl) (hN:Nat.blt d N=true:=by rfl) (hg:AR P ops E o=some true:=by rfl):EB P N ops (o::rest) E K:=
 EB.any d (.adr<|ad.add<|m.toNat*P.cellsOf e) hk (λw0 FA UA w a blk FS US h=>by
  have h1:=ABb h hs;have h2:=Cx h hi;obtain⟨inf,b,_⟩:=Fz f;refine⟨.pointer<|some<|ad.add<|m.toNat*P.cellsOf e,?_,by simp[CL],rfl⟩
  simp[execOp,ho,h1,h2,Instr.indexAt,run_underlying ht,asIntOf,h0,hm,run_sizeOf w b]) hd hN hg
def UR (P:Program) (f:FuncId) (A:Ql) (as:List AV) (t:TV):Prop:=∀(w:World) (vs:List Value),Ke w as vs [] []->(∀b∈A.B,b<w.heap.size)->A.I w->Calls P f vs.toArray w λe w'=>e= .returned (UR.val t)/\F9 w w' A.B/\A.I w'
where
 val:TV->Value
 | .int k n=> .int k n
 | .bool b=> .bool b
 | .str s=> .string s
 | .fn f ta c=> .func f ta c
 |_=> .bool false
theorem wC {t:TV} (h:CL w t v F U) (ht:t.flat=true):v=UR.val t:=by
 cases t<;>first|(cases ht;done)|(exact h.1)
theorem YL {f:FuncId} {c:Code} {t:TV} (hf:P.funcs[f]?=some fn) (hb:fn.body=some c) (ht:t.flat=true) (h:Wp P fn.ntmps c (CQ as A) λe E=>(e= .normal\/e= .ret)/\E.amb=A/\∃E',Dm P E fn.results.toList=some ([.one t],E')) (hp:A.pin=none:=by rfl):UR P f A as t:=by
 intro w vs ha hB hA;obtain⟨blk,FS,US,g,hF,hU⟩:=Rr (N:=fn.ntmps) ha CR (by simp) (by simp) (A:=A) hA (λb hb=>⟨hB b hb,by simp,by simp⟩) (hpin:=λb h=>by grind);refine calls_of_wp hf hb<|wp_mono (h _ _ _ _ _ _ _ _ g hF hU) ?_;rintro e a w' ⟨E,blk',FS',US',⟨he,i,E',h1⟩,h2,h3,h4⟩;obtain⟨us,FS2,US2,F,U,k1,k2,k3,k4,k5⟩:=Ld h2 h1;have k6:=QH k2;have hv:=wC k6.1 ht;have hI:A.I w':=by rw[<-i];exact h2.ambI
 have d:a.defers=[]/\∃v,(results fn a.tmps).run P w'= .ok v w'/\Ending.returned v= .returned (UR.val t)/\F9 w w' A.B/\A.I w':=
  ⟨h2.nodef,_,Nt k1,by rw[hv],⟨h2.os,h2.tape,h2.output,h2.size,λb h5 h6=>h2.keep b h5 (by simp) h6⟩,hI⟩
 rcases he with rfl|rfl
 ·exact d
 exact d
theorem Vx {g : FuncId} {ad : Addr} (hf : P.funcs[g]? = some fn) (hn : (fn.name == "runtime.NumGoroutine") = false) (hb : fn.body.isNone = false) (h : ∀ (l : List γ) (i j : Int) (x y : γ), gi l i = some x → gi l j = some y → (∃ w, (Am l).I w) → UR P g (Am l) [.sv (.one (.int .i64 i)), .sv (.one (.int .i64 j)), .sv (.one (.adr ad))] (.bool (lt x y))) : H7 P Am lt g #[.pointer (some ad)] := by
 refine⟨λargs w=>?_,λl i j x y hx hy w hI hB=>?_⟩
 ·have a:fn.body≠none:=by grind
  have b : fn.name ≠ "runtime.NumGoroutine" := by grind
  simp[callFunc,hf,b,a]
 exact h l i j x y hx hy ⟨w,hI⟩ w [.int .i64 i,.int .i64 j,.pointer<|some ad]
  ⟨_,_,[],[],[],[],rfl,rfl,rfl,⟨by simp[CL],rfl⟩,⟨_,_,[],[],[],[],rfl,rfl,rfl,⟨by simp[CL],rfl⟩,⟨_,_,[],[],[],[],rfl,rfl,rfl,⟨by simp[CL],rfl⟩,⟨rfl,rfl,rfl⟩⟩⟩⟩ hB hI
def Se (P:Program) (f:FuncId) (t e sz:Nat) (enc:γ->List TV) (g:FuncId) (l l':List γ):Prop:=∀(w:World) (b:Nat) (v:Value) (T:TypeId),w.heap[b]?=some (.cells #[v] T (0,0))->w.ownsRow 0 e sz v l.length ((Az enc l).map TV.val)->b∉Bu v->
  Calls P f #[.iface t v,.func (.func g) #[] #[.pointer<|some ⟨b,0,none⟩]] w λr w'=>r= .returned (.tuple #[])/\F9 w w' (b::Bu v)/\w'.heap[b]?=some (.cells #[v] T (0,0))/\w'.ownsRow 0 e sz v l'.length ((Az enc l').map TV.val)
section
variable {w0:Base} {a:Act}
theorem Ce.turn (h:Ce w0 FA UA N w a E blk FS US) (hF:FS .hand=[]) (hU:US .hand=[]) {r:Root} (hm:r.mem=true) {cells cells':List TV} (hc:E.boxes r=some cells) (l:cells'.length=cells.length) (hb:F9 w w' (FS r)) (d:∃c T F,w'.heap[blk r]?=some (.cells c T (0,0))/\Bk w' cells' c.toList F (US r)/\FS r=blk r::F):
  ∃FS' US',Ce w0 FA UA N w' a ((E.setRoot r cells').bump r) blk FS' US'/\FS' .hand=[]/\US' .hand=[]:=by
 have f:r≠ .hand:=by rintro rfl;cases hm
 have i:∀j,((E.setRoot r cells').bump r).place r [] j=cells'[j]? :=by
  intro j
  cases r with
  |slot n=>cases hm
  |hand=>cases hm
  |box n=>simp[St.place,St.bump,St.setRoot,St.root,B9,Bq]
  |ext n=>simp[St.place,St.bump,St.setRoot,St.root,B9,Bq]
 have g:∀j,E.place r [] j=cells[j]? :=by
  intro j
  cases r with
  |slot n=>cases hm
  |hand=>cases hm
  |box n=>grind [St.place,St.root,Bq]
  |ext n=>grind [St.place,St.root,Bq]
 let E1:St:=(E.setRoot r cells').bump r
 have ev:∀s,s≠r->E1.ver s=E.ver s:=by
  intro s hs;cases r<;>simp[E1,St.bump,St.setRoot,B9,hs]
 have evr:E1.ver r=E.ver r+1:=by cases r<;>simp[E1,St.bump,St.setRoot,B9]
 have eg:∀s,E1.gen s=E.gen s:=by intro s;cases r<;>rfl
 have er:∀s,s≠r->E1.root s=E.root s:=by
  intro s hs
  cases r with
  |slot n=>cases hm
  |hand=>cases hm
  |box n=>cases s<;>simp[E1,St.bump,St.setRoot,St.root,B9,hs]
  |ext n=>cases s<;>simp[E1,St.bump,St.setRoot,St.root,B9,hs]
 have es:∀n,E1.slots n=E.slots n:=by
  intro n
  cases r with
  |slot n=>cases hm
  |hand=>cases hm
  |box n=>rfl
  |ext n=>rfl
 have eb:∀s,E1.boxes s=if s=r then some cells' else E.boxes s:=by
  intro s
  cases r with
  |slot n=>cases hm
  |hand=>cases hm
  |box n=>rfl
  |ext n=>rfl
 have k:∀s,BH w w' a a E E1 blk blk s:=by
  intro s;by_cases hs:s=r
  ·subst hs;refine⟨.inl (by rw[evr];omega),.inr ⟨eg s,λj ad hv hp=>?_⟩⟩;refine⟨(by cases s<;>first|exact hv|(cases hm)),?_⟩
   grind
  by_cases hh:s= .hand
  ·subst hh;exact EW (ev _ hs) (eg _)<|by simp[St.root,h.nohand]
  exact Di h (ev s hs) (eg s) (er s hs) (λ_ _=>rfl) (λ_=>rfl)
   (λb hx=>hb.keep b (h.inF s b hx).2<|h.dis s r hs b hx) (λb hx=>hb.keep b (h.inU s b hx).2 λe=>h.disU r s b e hx)
 have k7:=h.two (w':=w') (a':=a) (E':=E1) (blk':=blk) (r1:=r) (r2:= .hand) (L1:=FS r) (L2:=[]) (V1:=US r) (V2:=[]) f
  (by simpa using h.nodup r)
  (λb hx=>⟨.inl (by simpa using hx),AE (h.inF r b<|by simpa using hx).2 hb.size⟩)
  (λb hx=> .inl ⟨r,by simpa using hx⟩)
  hb.size hb.os hb.tape hb.output (λb hx q _=>hb.keep b hx q) k (λn _ _=>⟨es n,rfl⟩) (λs _ hs _=>⟨by rw[eb,AT hs],rfl⟩)
  (by
   obtain⟨c,T,F,g1,g2,g3⟩:=d;have:FK w' a E1 blk r (FS r) (US r):=by
    have e1:=eb r;rw[Bv rfl]at e1
    cases r with
    |slot n=>cases hm
    |hand=>cases hm
    |box n=>exact .inr ⟨cells',c,T,F,e1,g1,g2,g3⟩
    |ext n=>exact .inr ⟨cells',c,T,F,e1,g1,g2,g3⟩
   exact this)
  trivial (by rw[eb,AT<|Jj f];exact h.nohand) h.len h.nodef (hfz:=by
   intro n hn;have e:((E.setRoot r cells').bump r).fz=E.fz:=by rw[PM,GX]
   exact h.frz n<|e▸hn) (hamb:=by rw[Lt,D9])
 grind [BF]
end
theorem Us {w0:Base} {a:Act} (h:Ce w0 FA UA N w a E blk FS US) (hF:FS .hand=[]) (hU:US .hand=[]) (hd:d<N) (v:Value):∃FS' US',Ce w0 FA UA N w (a.put (some d) v) (E.put (some d) (.one .junk)) blk FS' US'/\FS' .hand=[]/\US' .hand=[]:=
 h.land (w':=w) (F:=[]) (U:=[]) hd (by simp[H8,Do,TV.isJunk]) CR (by simp) (by simp) (Ax _) rfl rfl rfl (λ_ _ _=>rfl)
theorem FQ {enc:γ->List TV} (a:∀x,(enc x).all TV.flat=true):∀l:List γ,(Az enc l).all TV.flat=true
 |[]=>rfl
 |x::l=>by grind [Az]
theorem IA {o:Oper} (h:o.guard=none):AR P ops E o=some true:=by unfold AR;rw[h]
theorem FB.srt {l l':List γ} {o1 o2 o3:Oper} {d1 d2 d3 x p ver:Nat} {enc:γ->List TV} {sz e t:Nat} {f b:FuncId} {r:Root} {tys:Array TypeId} (hs:Se P f t e sz enc b l l') (hk:FB P N ops rest (((((E.put (some d1) (.one .junk)).put (some d2) (.one .junk)).setRoot r [.sl true e sz (Az enc l')]).bump r).put (some d3) (.tup [])) Q) (h:∀x,(enc x).length=sz) (c:∀x,(enc x).all TV.flat=true) (hx:E.slots x= .one (.view r ver [] 0):=by rfl) (i:E.ver r=ver:=by rfl) (hp:E.ptr? (.tmp p)=some (r,[],0):=by rfl) (hc:E.boxes r=some [.sl true e sz<|Az enc l]:=by rfl) (hm:r.mem=true:=by rfl) (h1:o1.op= .makeInterface t (.tmp x):=by rfl) (h2:o2.op= .makeFunc (.func b) #[] #[.tmp p]:=by rfl) (h3:o3.op= .call {callee:= .value (.func f),args:= #[.tmp d1,.tmp d2],argTypes:=tys}:=by rfl) (k1:o1.dst=some d1:=by rfl) (k2:o2.dst=some d2:=by rfl) (k3:o3.dst=some d3:=by rfl) (g1:o1.guard=none:=by rfl) (g2:o2.guard=none:=by rfl) (g3:o3.guard=none:=by rfl) (h6:Nat.blt d1 N=true:=by rfl) (h7:Nat.blt d2 N=true:=by rfl) (h8:Nat.blt d3 N=true:=by rfl) (h9:Nat.beq d1 d2=false:=by rfl) (h5:Nat.beq p d1=false:=by rfl) (a0:Nat.blt 0 sz=true:=by rfl) (ht:P.underlying t=some (.slice e):=by rfl) (hf:aH P f):FB P N ops (o1::o2::o3::rest) E Q:=by
 have hN1':d1<N:=by simp_all
 have hN2':d2<N:=by simp_all
 have hN3':d3<N:=by simp_all
 have hne':d1≠d2:=by intro e;simp_all
 have hne2':p≠d1:=by intro e;simp_all
 have hsz':0<sz:=by simp_all
 intro w0 FA UA w a blk FS US hr hF hU;have j:∃v T F,w.heap[blk r]?=some (.cells #[v] T (0,0))/\CL w (.sl true e sz<|Az enc l) v F (US r)/\FS r=blk r::F:=by
  rcases hr.box r hm with⟨q1,_⟩|⟨cs,k,T,F,q1,q2,q3,q4⟩
  ·grind
  rw[hc]at q1
  injection q1 with q1
  subst q1;obtain⟨v,o,F1,F2,U1,U2,e1,rfl,e3,q5,rfl,rfl,rfl⟩:=q3;have:k= #[v]:=by grind
  grind
 obtain⟨v,T,F,b1,b2,b3⟩:=j;obtain⟨n,vs,F',b4,b5,rfl⟩:=b2;have u:=TY b5<|FQ c l;obtain⟨rfl,a1⟩:=Ko b5<|FQ c l;subst u;have y:n=l.length:=by
  have q:=b4.1;rw[Bm,DC h l]at q
  grind [Nat.eq_of_mul_eq_mul_right]
 subst y;have z:blk r∉Bu v:=by
  have:=hr.nodup r
  grind
 have evx:a.eval (.tmp x)=v:=by
  have q:=hr.slot x;rw[hx]at q;obtain⟨⟨_,_,_,q4⟩,_⟩:=q;obtain⟨q5,_⟩:=q4 i
  cases r with
  |slot n=>cases hm
  |hand=>cases hm
  |box n=>grind [pv,AX,Addr.add,World.cell?]
  |ext n=>grind [pv,AX,Addr.add,World.cell?]
 have evp:a.eval (.tmp p)= .pointer (some ⟨blk r,0,none⟩):=by
  obtain⟨_,ad,q1,q2⟩:=HE hr hp;simp_all [pa,Addr.add];grind
 obtain⟨FS1,US1,r1,r2,r3⟩:=Us hr hF hU hN1'<|.iface t v;have e1:(execOp a.eval o1).run P w= .ok (.value<|.iface t v) w:=by simp_all [run_underlying,execOp,Instr.makeInterface]
 simp only[wpList,BB hr<|IA (P:=P) (ops:=ops) g1,Co];refine .inl ?_
 try unfold Oper.wp
 rw[e1,Oper.upon_value,k1];have evp1:(a.put (some d1)<|.iface t v).eval (.tmp p)= .pointer (some ⟨blk r,0,none⟩):=by grind [C1]
 obtain⟨FS2,US2,s1,s2,s3⟩:=Us r1 r2 r3 hN2'<|.func (.func b) #[] #[.pointer<|some ⟨blk r,0,none⟩];have e2:(execOp (a.put (some d1)<|.iface t v).eval o2).run P w= .ok (.value<|.func (.func b) #[] #[.pointer<|some ⟨blk r,0,none⟩]) w:=by simp_all [execOp,Instr.makeFunc]
 simp only[wpList,BB r1<|IA (P:=P) (ops:=ops) g2,Co];refine .inl ?_
 try unfold Oper.wp
 rw[e2,Oper.upon_value,k2];simp only[wpList,BB s1<|IA (P:=P) (ops:=ops) g3,Co];refine .inl ?_;have a2:d1<a.tmps.size:=AE hN1' hr.len;have a3:d2<(a.put (some d1)<|.iface t v).tmps.size:=AE hN2' r1.len
 try unfold Oper.wp
 rw[Hl h3 hf];have ea: #[Operand.tmp d1,.tmp d2].map ((a.put (some d1)<|.iface t v).put (some d2)<|.func (.func b) #[] #[.pointer<|some ⟨blk r,0,none⟩]).eval= #[.iface t v,.func (.func b) #[] #[.pointer<|some ⟨blk r,0,none⟩]]:=by grind [H1,C1]
 rw[ea];refine Calls.mono (hs w (blk r) v T b1 b4 z) ?_;rintro ee w' ⟨rfl,a4,h0,h4⟩;have m:((E.put (some d1)<|.one .junk).put (some d2)<|.one .junk).boxes r=some [.sl true e sz<|Az enc l]:=hc;have g:∃F2,FS2 r=blk r::F2/\F2=Bu v/\US2 r=[]:=by
  rcases s1.box r hm with⟨q1,_⟩|⟨cs,k,T2,F2,q1,q2,q3,q4⟩
  ·grind
  rw[m]at q1
  injection q1 with q1
  subst q1;rw[b1]at q2
  injection q2 with q2
  injection q2 with q2
  subst q2;obtain⟨v2,o,F3,F4,U1,U2,e1,rfl,e3,q5,rfl,rfl,rfl⟩:=q3;simp at e1;subst e1;obtain⟨n,vs,F',c4,c5,rfl⟩:=q5
  grind [Ko,FQ]
 obtain⟨F2,f1,rfl,f3⟩:=g;obtain⟨FS3,US3,t1,t2,t3⟩:=s1.turn s2 s3 hm m (cells':=[.sl true e sz<|Az enc l']) rfl (w':=w') (by grind)
  ⟨#[v],T,Bu v,h0,by
   rw[f3];refine⟨v,[],Bu v,[],[],[],rfl,by simp,rfl,?_,rfl,rfl,rfl⟩
   exact⟨l'.length,_,[],h4,Ty<|FQ c l',by simp⟩,f1⟩
 obtain⟨FS4,US4,u1,u2,u3⟩:=t1.land (w':=w') (d:=d3) (s:= .tup []) (v:= .tuple #[]) (F:=[]) (U:=[]) hN3' (by simp[H8,Qm]) CR (by simp) (by simp) (Ax _) rfl rfl rfl λ_ _ _=>rfl;rw[k3];exact hk _ _ _ _ _ _ _ _ u1 u2 u3
def rG (b:Nat) (v:Value) (T:TypeId) (e sz n:Nat) (xs:List Value):Ql where
 B:=b::Bu v
 I:=λw=>w.heap[b]?=some (.cells #[v] T (0,0))/\w.ownsRow 0 e sz v n xs
 st:=λw w' h hk=>⟨by grind,h.2.1,by
  rcases h.2.2 with q|⟨g,cap,a,rfl,q1,q2,q3⟩
  ·exact .inl q
  grind [Bu,Value.ownBlock]⟩
theorem eV {l:List γ} {i:Int} {x:γ} {k:Nat} {n b g cap:Nat} {e T:TypeId} {enc:γ->List TV} (a:∀x,(enc x).length=sz) {t:TV} {ad:Addr} (hi:gi l i=some x) (hk:(enc x)[k]?=some t) (hb:b≠g) (c:ad=⟨g,i.toNat*sz+k,none⟩):(Lz n b g cap e T sz enc l).rd ad=some t.val:=by
 subst c;obtain⟨i0,i1⟩:=H0 hi;have lm:=(Ae.1 i1).1;have d:=(Ae.1 hk).1;rw[a]at d;have f:(i.toNat+1)*sz<=l.length*sz:=BI _ lm;have e1:(Az enc l)[i.toNat*sz+k]?=(enc x)[k]? :=by
  have h2:(Az enc l)[i.toNat*sz+k]?=((Az enc l).drop<|i.toNat*sz)[k]? :=by grind
  grind [IZ,A6,Tf]
 grind [Lz]
theorem eW {l:List γ} {n b g cap:Nat} {e T:TypeId} {enc:γ->List TV}:(Lz n b g cap e T sz enc l).rd ⟨b,0,none⟩=some (.slice (some ⟨g,0,none⟩) n cap):=by
 simp[Lz]
theorem W7 {g m:Nat}:((⟨g,0,none⟩:Addr).add m)=⟨g,m,none⟩:=by
 unfold Addr.add
 grind
theorem dC {i:Int} (h:gi l i=some x):0<=i/\i<l.length:=by
 obtain⟨i0,i1⟩:=H0 h
 grind
def uO (t t':TV):Prop:=t=t'\/∃e sz a cells',t= .sl true e sz a/\AU a=cells'/\t'= .sl false e sz cells'
def les:List TV->List TV->Prop
 |[],ts'=>ts'=[]
 |t::ts,ts'=>∃x xs,ts'=x::xs/\uO t x/\les ts xs
mutual
def Zv:SV->SV->Prop
 | .one t,s'=>∃t',s'= .one t'/\uO t t'
 | .agg cs,s'=>∃cs',s'= .agg cs'/\les cs cs'
 | .tup ss,s'=>∃ss',s'= .tup ss'/\S6 ss ss'
def S6:List SV->List SV->Prop
 |[],ss'=>ss'=[]
 |s::ss,ss'=>∃x xs,ss'=x::xs/\Zv s x/\S6 ss xs
end
theorem ABW {t:TV}:uO t t:= .inl rfl
theorem ABV:∀{ts:List TV},les ts ts
 |[]=>rfl
 |t::ts=>⟨t,ts,rfl,ABW,ABV⟩
theorem les.c {t x:TV} {ts xs:List TV} (h:uO t x) (k:les ts xs):les (t::ts) (x::xs):=⟨x,xs,rfl,h,k⟩
theorem uO.s {e sz:Nat} {a cells':List TV} (h:AU a=cells'):uO (.sl true e sz a) (.sl false e sz cells'):= .inr ⟨e,sz,a,cells',rfl,h,rfl⟩
mutual
theorem ACK:∀{s:SV},Zv s s
 | .one t=>⟨t,rfl,ABW⟩
 | .agg cs=>⟨cs,rfl,ABV⟩
 | .tup ss=>⟨ss,rfl,sE⟩
theorem sE:∀{ss:List SV},S6 ss ss
 |[]=>rfl
 |s::ss=>⟨s,ss,rfl,ACK,sE⟩
end
theorem Zv.a {cs cs':List TV} (h:les cs cs'):Zv (.agg cs) (.agg cs'):=⟨cs',rfl,h⟩
theorem Zv.o {t t':TV} (h:uO t t'):Zv (.one t) (.one t'):=⟨t',rfl,h⟩
theorem AEo {ss':List SV} (h:S6 ss ss'):Zv (.tup ss) (.tup ss'):=⟨ss',rfl,h⟩
theorem S6.c {xs:List SV} {s x:SV} (h:Zv s x) (k:S6 ss xs):S6 (s::ss) (x::xs):=⟨x,xs,rfl,h,k⟩
def HS (F U F' U':List Nat):Prop:=F'.Sublist F/\∀b∈U',b∈U\/(b∈F/\b∉F')
theorem RC {F1 F2 U1 U2 F1' F2' U1' U2':List Nat} (hd:(F1++F2).Nodup) (h:HS F1 U1 F1' U1') (k:HS F2 U2 F2' U2'):HS (F1++F2) (U1++U2) (F1'++F2') (U1'++U2'):=by
 obtain⟨_,_,hd⟩:=CF.1 hd;refine⟨h.1.append k.1,λb hb=>?_⟩
 rcases Ay.1 hb with hb|hb
 ·rcases h.2 b hb with q|⟨q1,q2⟩
  ·grind
  refine .inr ⟨by simp[q1],λhc=>?_⟩
  rcases Ay.1 hc with hc|hc
  ·exact q2 hc
  exact hd b q1 b (k.1.subset hc) rfl
 rcases k.2 b hb with q|⟨q1,q2⟩
 ·grind
 refine .inr ⟨by simp[q1],λhc=>?_⟩
 rcases Ay.1 hc with hc|hc
 ·exact hd b (h.1.subset hc) b q1 rfl
 exact q2 hc
theorem HS.refl:HS F U F U:=⟨List.Sublist.refl _,λb hb=> .inl hb⟩
theorem ACn {t t':TV} (h:CL w t v F U) (k:uO t t'):∃F' U',CL w t' v F' U'/\HS F U F' U':=by
 rcases k with rfl|⟨e,sz,a,cells',rfl,rfl,rfl⟩
 ·grind [HS.refl]
 obtain⟨U',h1,h2⟩:=R5 h;exact⟨[],U',h1,List.nil_sublist _,λb hb=>(h2 b hb).elim (λq=> .inr ⟨q,by simp⟩) .inl⟩
def oA (ops:Array Oper) (i:Nat):Oper:=match ops[i]? with
 |some o=>o
 | none => { dst := none, op := .load 0 (.tmp 0), type := 0, pos := "", after := #[], guard := none }
theorem Iz {ops:Array Oper} (h:Nat.blt i ops.size=true):ops[i]?=some (oA ops i):=by grind [Es,oA]
theorem Fq {ops:Array Oper} (h:Nat.blt i ops.size=true):ops.toList.drop i=oA ops i::ops.toList.drop (i+1):=by
 have hi:i<ops.toList.length:=by simpa[Es]using h
 have h1:=Iz h
 grind [A6]
def Sl (P:Program) (ops:Array Oper) (E:St) (i:Nat):Bool:=Nat.blt i ops.size&&(match AR P ops E (oA ops i)with|some b=>b|none=>false)
theorem GM {ops:Array Oper} (h:Sl P ops E i=true):Nat.blt i ops.size=true/\AR P ops E (oA ops i)=some true:=by grind [Sl]
def H3 (N:Nat) (o:Oper):Bool:=match o.dst with
 |some d=>Nat.blt d N
 |none=>false
theorem DS {o:Oper} (h:H3 N o=true):∃d,o.dst=some d/\Nat.blt d N=true/\d<N:=by grind [Es,H3]
def vC (P:Program) (N:Nat) (ops:Array Oper) (mv:Bool) (E:St) (i:Nat):Option St:=bif Nat.blt i ops.size then
  match AR P ops E (oA ops i)with
  |some true=>Cf P N mv E<|oA ops i
  |some false=>bif H3 N (oA ops i)then some (E.put (oA ops i).dst<|.tup [])else none
  |none=>none else none
def Q6 (P:Program) (N:Nat) (ops:Array Oper):Nat->Nat->Nat->St->Option St
 |0,_,_,E=>some E
 |k+1,m,i,E=>match vC P N ops (Nat.beq (m %2) 1) E i with
  |some E'=>Q6 P N ops k (m/2) (i+1) E'
  |none=>none
def OO (P:Program) (N:Nat) (ops:Array Oper) (k m i:Nat) (E:St):St:=(Q6 P N ops k m i E).getD E
theorem getD_some {α:Type _} {x:Option α} {a:α} (h:x.isSome=true):x=some (x.getD a):=by
 cases x with
 |none=>cases h
 |some y=>rfl
def RW (P:Program) (N:Nat) (ops:Array Oper) (i:Nat) (E:St) (Q:Exit->St->Prop):Prop:=FB P N ops (ops.toList.drop i) E Q
def SW (P:Program) (N:Nat) (ops:Array Oper) (m i:Nat) (E:St) (K:St->Prop):Prop:=EB P N ops ((ops.toList.take m).drop i) E K
theorem bd {r:β} {x:Option α} {k:α->Option β} (h:x.bind k=some r) (hk:∀a,x=some a->k a=some r->G):G:=by grind [Af]
theorem RW.nil (h:Q .normal E) (hi:Nat.ble ops.size i=true:=by kernel_rfl):RW P N ops i E Q:=by grind [ABB,FC,FB.nil,RW]
theorem CE {mv:Bool} (hs:Cf P N mv E (oA ops i)=some E') (h:RW P N ops (i+1) E' Q) (hk:Sl P ops E i=true:=by kernel_rfl):RW P N ops i E Q:=by
 obtain⟨h1,h2⟩:=GM hk
 grind [Fq,FB.op,RW]
theorem RW.st {mv:Bool} (hs:vC P N ops mv E i=some E') (h:RW P N ops (i+1) E' Q):RW P N ops i E Q:=by grind [Fq,FB.op,DS,AAe,vC,RW]
section
variable {m:Nat}
theorem RW.run:∀{k m i:Nat} {E E':St},Q6 P N ops k m i E=some E'->RW P N ops (i+k) E' Q->RW P N ops i E Q
 |0,m,i,E,E',h,hw=>by grind [Q6]
 |k+1,m,i,E,E',h,hw=>by
  simp only[Q6]at h;split at h
  ·rename_i E1 h1;exact RW.st h1 (RW.run h (by grind))
  cases h
end
theorem AAa (k m:Nat) (h:RW P N ops (i+k) (OO P N ops k m i E) Q) (hk:(Q6 P N ops k m i E).isSome=true:=by kernel_rfl):RW P N ops i E Q:=RW.run (getD_some hk) h
def wG (P:Program) (N:Nat) (ops:Array Oper) (i:Nat) (E:St):Bool:=Sl P ops E i&&pk (oA ops i)&&H3 N (oA ops i)
theorem nE (h:wG P N ops i E=true):Sl P ops E i=true/\pk (oA ops i)=true/\∃d,(oA ops i).dst=some d/\Nat.blt d N=true/\d<N:=by grind [DS,wG]
theorem ACN {s:SV} (hp:AG P E (oA ops i)=some s) (h:RW P N ops (i+1) (E.put (oA ops i).dst s) Q) (hk:wG P N ops i E=true:=by kernel_rfl):RW P N ops i E Q:=by
 obtain⟨h1,h2,d,h3,h4,_⟩:=nE hk;rw[h3]at h;exact CE (qC hp h3 h4 h2) h h1
theorem ADI {r:β} {b:Bool} (t:Nat) (h:(bif b then tx else ty)=some r) (ht:tx=some r->RW P N ops i (E.rs t true) Q) (hf:ty=some r->RW P N ops i (E.rs t false) Q) (hc:E.slots t=B b:=by kernel_rfl):RW P N ops i E Q:=ACQ h t ht hf hc
section
variable {m:Nat}
theorem PH (h:Nat.blt i ops.size=true) (hm:Nat.blt i m=true):(ops.toList.take m).drop i=oA ops i::(ops.toList.take m).drop (i+1):=by
 have hi:i<ops.size:=by simpa[Es]using h
 have a:i<m:=by simp_all
 have hl:i<(ops.toList.take m).length:=by simp;omega
 have h1:=Iz h
 grind [A6]
end
theorem SW.nil {m:Nat} (h:K E) (hi:(Nat.ble ops.size i||Nat.ble m i)=true:=by kernel_rfl):SW P N ops m i E K:=by grind [FC,ABB,EB.nil,SW]
def mX (P:Program) (N:Nat) (ops:Array Oper) (m:Nat) (E:St) (i:Nat):Option St:=bif Nat.blt i ops.size&&Nat.blt i m&&H3 N (oA ops i)then
  match AR P ops E (oA ops i)with
  |some true=>match GP P E (oA ops i)with
   |some s=>some<|E.put (oA ops i).dst s
   |none=>none
  |some false=>some<|E.put (oA ops i).dst<|.tup []
  |none=>none else none
def bM (P:Program) (N:Nat) (ops:Array Oper) (m:Nat):Nat->Nat->St->Option St
 |0,_,E=>some E
 |k+1,i,E=>match mX P N ops m E i with
  |some E'=>bM P N ops m k (i+1) E'
  |none=>none
theorem SW.st {m:Nat} (hs:mX P N ops m E i=some E') (h:SW P N ops m (i+1) E' K):SW P N ops m i E K:=by grind [DS,PH,EB.op,z7,mX,SW]
theorem SW.run {m:Nat}:∀{k i:Nat} {E E':St},bM P N ops m k i E=some E'->SW P N ops m (i+k) E' K->SW P N ops m i E K
 |0,i,E,E',h,hw=>by grind [bM]
 |k+1,i,E,E',h,hw=>by
  simp only[bM]at h;split at h
  ·rename_i E1 h1;exact SW.st h1 (SW.run h (by grind))
  cases h
theorem G3 {m:Nat} (k:Nat) (h:SW P N ops m (i+k) ((bM P N ops m k i E).getD E) K) (hk:(bM P N ops m k i E).isSome=true:=by kernel_rfl):SW P N ops m i E K:=SW.run (getD_some hk) h
theorem Ft {m:Nat} {s:SV} (hp:AG P E (oA ops i)=some s) (h:SW P N ops m (i+1) (E.put (oA ops i).dst s) K) (hk:(wG P N ops i E&&Nat.blt i m)=true:=by kernel_rfl):SW P N ops m i E K:=by
 rw[Ao]at hk;obtain⟨h1,h2,d,h3,h4,h5⟩:=nE hk.1;obtain⟨h6,h7⟩:=GM h1
 grind [PH,EB.op,qE,SW]
theorem sD {m:Nat} {r:β} {b:Bool} (t:Nat) (h:(bif b then tx else ty)=some r) (ht:tx=some r->SW P N ops m i (E.rs t true) K) (hf:ty=some r->SW P N ops m i (E.rs t false) K) (hc:E.slots t=B b:=by kernel_rfl):SW P N ops m i E K:=ACJ h t ht hf hc
def yC (n:Nat):List Nat->Array Bool
 |[]=>Array.replicate n false
 |i::l=>(yC n l).setIfInBounds i true
def KW (P:Program) (N:Nat) (ops:Array Oper) (ts:List Nat) (dn:List Nat) (E:St) (Q:Exit->St->Prop):Prop:=WH P N ops ts (ops.size-dn.length) (yC ops.size dn) E Q
def KB (P:Program) (N:Nat) (ops:Array Oper) (ts:List Nat) (dn:List Nat) (i:Nat) (E:St) (Q:Exit->St->Prop):Prop:=dY P N ops ts i E (λE'=>KW P N ops ts (i::dn) E' Q) Q
theorem KW.done {ts:List Nat} (h:Q .normal E) (hr:(Region.ready .any ops (yC ops.size dn)).isEmpty=true:=by kernel_rfl):KW P N ops ts dn E Q:=WH.done h<|by simpa using hr
def rdy (ops:Array Oper) (dn l:List Nat):Bool:=(Region.ready .any ops (yC ops.size dn)==l)&&Nat.blt dn.length ops.size
theorem RD (h:Nat.blt dn.length ops.size=true):ops.size-dn.length=(ops.size-(i::dn).length)+1:=by grind [Es]
theorem KW.all {ts:List Nat} (l:List Nat) (h:∀i∈l,KB P N ops ts dn i E Q) (a:l≠ []) (hr:rdy ops dn l=true):KW P N ops ts dn E Q:=by
 simp only[rdy,Ao,JW]at hr;unfold KW;rw[RD (i:=0) hr.2];exact WH.all l (λi hi=>h i hi) hr.1 a
theorem Bp {ts:List Nat} (i:Nat) (h:KB P N ops ts dn i E Q) (hr:rdy ops dn [i]=true:=by kernel_rfl):KW P N ops ts dn E Q:=KW.all [i] (λj hj=>by grind) (by simp) hr
theorem Ej {ts:List Nat} (i j:Nat) (h:KB P N ops ts dn i E Q) (h2:KB P N ops ts dn j E Q) (hr:rdy ops dn [i,j]=true:=by kernel_rfl):KW P N ops ts dn E Q:=KW.all [i,j] (λm hm=>by grind) (by simp) hr
theorem G4 {ts:List Nat} {mv:Bool} (hs:Cf P N mv E (oA ops i)=some E') (h:KW P N ops ts (i::dn) E' Q) (hk:(Sl P ops E i&&(kp (oA ops i)||ts.contains i))=true:=by kernel_rfl):KB P N ops ts dn i E Q:=by
 rw[Ao]at hk;obtain⟨h1,h2⟩:=GM hk.1;exact dY.op i mv h hs (Iz h1) h2 hk.2
theorem ABG {ts:List Nat} {s:SV} (hp:AG P E (oA ops i)=some s) (h:KW P N ops ts (i::dn) (E.put (oA ops i).dst s) Q) (hk:(wG P N ops i E&&(kp (oA ops i)||ts.contains i))=true:=by kernel_rfl):KB P N ops ts dn i E Q:=by
 rw[Ao]at hk;obtain⟨h1,h2,d,h3,h4,h5⟩:=nE hk.1;rw[h3]at h;exact G4 (qC hp h3 h4 h2) h<|by grind
def sL (ops:Array Oper) (ts dn:List Nat) (i:Nat):Bool:=Nat.blt dn.length ops.size&&RV ops ts ops.size i (yC ops.size dn)
theorem ACW {ts:List Nat} {s:SV} (i:Nat) (hp:GP P E (oA ops i)=some s) (h:KW P N ops ts (i::dn) (E.put (oA ops i).dst s) Q) (hk:(Sl P ops E i&&H3 N (oA ops i)&&sL ops ts dn i)=true):KW P N ops ts dn E Q:=by
 simp only[Ao,sL]at hk;obtain⟨⟨h1,h2⟩,h3,h4⟩:=hk;obtain⟨h5,h6⟩:=GM h1;obtain⟨d,h7,h8,_⟩:=DS h2;unfold KW at h⊢;rw[RD (i:=i) h3];rw[h7]at h;exact WH.take ops.size i d s h hp (Iz h5) h4 h6 h7 h8
theorem AEq {ts:List Nat} {s:SV} (i:Nat) (hp:AG P E (oA ops i)=some s) (h:KW P N ops ts (i::dn) (E.put (oA ops i).dst s) Q) (hk:(wG P N ops i E&&sL ops ts dn i)=true:=by kernel_rfl):KW P N ops ts dn E Q:=by grind [ACW,qE,wG]
theorem ADO {ts:List Nat} (i:Nat) (h:KW P N ops ts (i::dn) (E.put (oA ops i).dst (.tup [])) Q) (hg:AR P ops E (oA ops i)=some false) (hk:(Nat.blt i ops.size&&H3 N (oA ops i)&&sL ops ts dn i)=true):KW P N ops ts dn E Q:=by
 simp only[Ao,sL]at hk;obtain⟨⟨h1,h2⟩,h3,h4⟩:=hk;obtain⟨d,h7,h8,_⟩:=DS h2;unfold KW at h⊢;rw[RD (i:=i) h3];rw[h7]at h;exact hZ ops.size i d h (Iz h1) h4 hg h7 h8
def yH (P:Program) (N:Nat) (ops:Array Oper) (ts:List Nat) (mv:Bool) (dn:List Nat) (E:St) (i:Nat):Option St:=match AR P ops E (oA ops i)with
 |some false=>bif Nat.blt i ops.size&&H3 N (oA ops i)&&sL ops ts dn i then some (E.put (oA ops i).dst<|.tup [])else none
 |some true=>bif Nat.blt i ops.size&&H3 N (oA ops i)&&sL ops ts dn i&&!mv then
   (match GP P E (oA ops i)with
   |some s=>some<|E.put (oA ops i).dst s
   |none=>bif rdy ops dn [i]&&(kp (oA ops i)||ts.contains i)then Cf P N mv E (oA ops i)else none) else bif Nat.blt i ops.size&&rdy ops dn [i]&&(kp (oA ops i)||ts.contains i)then Cf P N mv E (oA ops i)else none
 |none=>none
section
variable {m:Nat}
def yI (P:Program) (N:Nat) (ops:Array Oper) (ts:List Nat):List Nat->Nat->List Nat->St->Option St
 |[],_,_,E=>some E
 |i::l,m,dn,E=>match yH P N ops ts (Nat.beq (m %2) 1) dn E i with
  |some E'=>yI P N ops ts l (m/2) (i::dn) E'
  |none=>none
end
def eX:List Nat->List Nat->List Nat
 |[],dn=>dn
 |i::l,dn=>eX l (i::dn)
section
variable {ts:List Nat}
theorem KW.st {mv:Bool} (hs:yH P N ops ts mv dn E i=some E') (h:KW P N ops ts (i::dn) E' Q):KW P N ops ts dn E Q:=by
 unfold yH at hs;split at hs
 ·grind [ADO]
 ·rename_i hg;have one:(Nat.blt i ops.size&&rdy ops dn [i]&&(kp (oA ops i)||ts.contains i))=true->Cf P N mv E (oA ops i)=some E'->KW P N ops ts dn E Q:=by
   intro hb hs;simp only[Ao]at hb;refine Bp i (G4 hs h ?_) hb.1.2
   grind [Sl]
  grind [ACW,Sl]
 cases hs
end
section
variable {m:Nat} {ts:List Nat}
theorem KW.run:∀{l:List Nat} {m:Nat} {dn:List Nat} {E E':St},yI P N ops ts l m dn E=some E'->KW P N ops ts (eX l dn) E' Q->KW P N ops ts dn E Q
 |[],m,dn,E,E',h,hw=>by
  injection h with h
  subst h;exact hw
 |i::l,m,dn,E,E',h,hw=>by
  simp only[yI]at h;split at h
  ·rename_i E1 h1;exact KW.st h1 (KW.run h hw)
  cases h
end
theorem Bf {ts:List Nat} (l:List Nat) (m:Nat) (h:KW P N ops ts (eX l dn) ((yI P N ops ts l m dn E).getD E) Q) (hk:(yI P N ops ts l m dn E).isSome=true:=by kernel_rfl):KW P N ops ts dn E Q:=KW.run (getD_some hk) h
theorem WI {r:β} {ts:List Nat} {b:Bool} (t:Nat) (h:(bif b then tx else ty)=some r) (ht:tx=some r->KW P N ops ts dn (E.rs t true) Q) (hf:ty=some r->KW P N ops ts dn (E.rs t false) Q) (hc:E.slots t=B b:=by kernel_rfl):KW P N ops ts dn E Q:=ACV h t ht hf hc
theorem ACa {id:Nat} (h:RW P N ops 0 E Q):Wp P N (.region id ops false) E Q:=by
 have:=Wp.region (id:=id) (l:=ops.toList) (P:=P) (N:=N) (E:=E) (Q:=Q) (by simpa[RW]using h);simpa using this
theorem W9 {id:Nat} (hm:P.follows .mixedOrders=true) (h:SW P N ops ops.size 0 E (λE'=>Q .normal E')) (hB:Region.lexB .any ops=true:=by kernel_rfl):Wp P N (.region id ops true) E Q:=by
 have:=PO (id:=id) (l:=ops.toList) (P:=P) (N:=N) (E:=E) (Q:=Q) hm (by simpa using hB) (by simp_all [AF,SW]);simpa using this
theorem W8 {id:Nat} (n:Nat) (hm:P.follows .mixedOrders=true) (h:SW P N ops n 0 E (λE'=>RW P N ops n E' Q)) (hB:Region.lexTailB .any ops n=true:=by kernel_rfl):Wp P N (.region id ops true) E Q:=by
 have:=o9 (id:=id) (l:=ops.toList) (P:=P) (N:=N) (E:=E) (Q:=Q) n hm (by simpa using hB) (by simp_all [SW,RW]);simpa using this
theorem Ei {id:Nat} (ts:List Nat) (hm:P.follows .mixedOrders=true) (hQ:∀c E,Q (.panic c) E->False) (h:KW P N ops ts [] E Q):Wp P N (.region id ops true) E Q:=
 pA ops.size ts hm hQ (by grind [KW,yC]) rfl
def bT (E:St) (x:Operand) (sz:Nat):Option (List TV):=match E.ref x with
 |some (r,q,j)=>match E.place r q j with
  |some (.sl _ _ s cells)=>bif Nat.beq s sz then some cells else none
  |_=>none
 |none=>none
theorem OQ {x:Operand} {a:List TV} (h:bT E x sz=some a):∃r q j b e,E.ref x=some (r,q,j)/\E.place r q j=some (.sl b e sz a):=by grind [AP,bT]
def aI (P:Program) (t:TypeId):TypeId:=match P.underlying t with
 |some (.slice e)=>e
 |_=>0
def XN (P:Program) (t:TypeId) (sz:Nat):Bool:=match P.underlying t with
 |some (.slice e)=>Nat.beq (P.cellsOf e) sz&&Nat.blt 0 sz
 |_=>false
theorem LH {t:TypeId} (h:XN P t sz=true):∃e,P.underlying t=some (.slice e)/\P.cellsOf e=sz/\Nat.blt 0 sz=true:=by grind [AP,XN]
def HR (E:St) (x:Operand):Root×List Nat×Nat:=(E.ptr? x).getD (.hand,[],0)
def Kb (E:St) (x:Operand):Root×List Nat×Nat:=(E.ref x).getD (.hand,[],0)
def Ye (E:St) (x:Operand):Option (List TV×Nat):=match E.ptr? x with
 |some (r,q,j)=>match(E.root r).bind λcs=>Bq cs q with
  |some row=>some (row,j)
  |none=>none
 |none=>none
theorem QE {x:Operand} {a:List TV} (h:Ye E x=some (a,j)):E.ptr? x=some ((HR E x).1,(HR E x).2.1,j)/\(E.root (HR E x).1).bind (λcs=>Bq cs (HR E x).2.1)=some a:=by grind [Ye,HR]
def EF (o:Oper):TypeId×Operand×Operand:=match o.op with
 | .indexAddr t a i=>(t,a,i)
 |_=>(0,.tmp 0,.tmp 0)
def tQ (o:Oper):Bool:=match o.op with
 | .indexAddr .. =>true
 |_=>false
theorem rM {o:Oper} (h:tQ o=true):o.op= .indexAddr (EF o).1 (EF o).2.1 (EF o).2.2:=by grind [tQ,EF]
def Sw (P:Program) (E:St) (x:Operand):Option Int:=match E.cell1 P 0 x with
 |some (.int _ n)=>some n
 |_=>none
theorem Hn {x:Operand} (h:Sw P E x=some n):∃k,E.cell1 P 0 x=some (.int k n):=by grind [Sw]
def yL (P:Program) (E:St) (o:Oper) (sz:Nat):Option (List TV×Int):=bif tQ o&&XN P (EF o).1 sz then(match bT E (EF o).2.1 sz,Sw P E (EF o).2.2 with
 |some c,some n=>some (c,n)
 |_,_=>none)else none
def jY (E:St) (o:Oper) (m:Nat):SV:= .one (.ptr (Kb E (EF o).2.1).1 (E.ver (Kb E (EF o).2.1).1) ((Kb E (EF o).2.1).2.1++ [(Kb E (EF o).2.1).2.2]) m)
theorem cB {o:Oper} (hf:∀x,(f x).length=sz) (hx:gi l n=some x) (hc:yL P E o sz=some (Az f l,n):=by kernel_rfl):AG P E o=some (jY E o<|n.toNat*sz+0):=by grind [OQ,Hn,LH,ADi,yL,tQ,EF,jY,Kb]
section
variable {o:Oper}
theorem AAH (hf:∀x,(f x).length=sz) (hx:gi l n=some x) (hf':∀x,(f' x).length=sz') (hx':gi l' n'=some x') (k:Nat) (hi:(tQ o&&XN P (EF o).1 sz&&Nat.blt k sz')=true:=by kernel_rfl) (hn:Sw P E (EF o).2.2=some n:=by kernel_rfl) (hr:E.ref (EF o).2.1=some ((Kb E (EF o).2.1).1,(Kb E (EF o).2.1).2.1,n'.toNat*sz'+k):=by kernel_rfl) (hp:(E.root (Kb E (EF o).2.1).1).bind (λcs=>Bq cs (Kb E (EF o).2.1).2.1)=some (Az f' l'):=by kernel_rfl) {a:Bool} (hc:(f' x')[k]?=some (.sl a e' sz<|Az f l):=by rfl):AG P E o=some (jY E o<|n.toNat*sz+0):=by
 simp only[Ao]at hi;obtain⟨k',h5⟩:=Hn hn;obtain⟨e,h6,h7,h8⟩:=LH hi.1.2;have b:E.place (Kb E (EF o).2.1).1 (Kb E (EF o).2.1).2.1 (n'.toNat*sz'+k)=some (.sl a e' sz<|Az f l):=by
  obtain⟨cs,h1,h2⟩:=Af.1 hp
  grind [PD,St.place]
 grind [ADi,rM,Kb,EF,jY]
end
def Rj (o:Oper):TypeId×Operand×Nat:=match o.op with
 | .fieldAddr t a i=>(t,a,i)
 |_=>(0,.tmp 0,0)
def ACz (o:Oper):Bool:=match o.op with
 | .fieldAddr .. =>true
 |_=>false
theorem AA8 {o:Oper} (h:ACz o=true):o.op= .fieldAddr (Rj o).1 (Rj o).2.1 (Rj o).2.2:=by grind [ACz,Rj]
def AB2 (P:Program) (o:Oper):Option Nat:=match P.underlying (Rj o).1 with
 |some (.struct fs)=>match fs[(Rj o).2.2]? with
  |some fd=>bif Nat.beq (P.cellsOf fd.type) 0 then none else some fd.offset
  |none=>none
 |_=>none
def ADA (E:St) (o:Oper) (m:Nat):SV:= .one (.ptr (HR E (Rj o).2.1).1 (E.stamp (HR E (Rj o).2.1).1 (HR E (Rj o).2.1).2.1) (HR E (Rj o).2.1).2.1 m)
theorem QF {o:Oper} (hf:∀x,(f x).length=sz) (hx:gi l n=some x) (k m:Nat) (hr:Ye E (Rj o).2.1=some (Az f l,n.toNat*sz+k):=by kernel_rfl) (ho:(ACz o&&Nat.blt m sz)=true:=by kernel_rfl) (a:AB2 P o=some (m-k):=by kernel_rfl) (c:Nat.ble k m=true:=by kernel_rfl):AG P E o=some (ADA E o<|n.toNat*sz+m):=by
 rw[Ao]at ho;obtain⟨h1,h2⟩:=QE hr;have d:k<=m:=by simp_all
 unfold AB2 at a;split at a
 ·rename_i fs hs;split at a
  ·rename_i fd b
   cases hb:Nat.beq (P.cellsOf fd.type) 0 with
   |true=>grind
   |false=>
    rw[hb]at a
    injection a with a
    have hm:k+fd.offset=m:=by omega
    exact AEc hf _ _ k hx h2 (AA8 ho.1) hs h1 b hb hm<|by grind
  cases a
 cases a
def Nw (o:Oper):TypeId×Operand:=match o.op with
 | .load t a=>(t,a)
 |_=>(0,.tmp 0)
def AA7 (o:Oper):Bool:=match o.op with
 | .load .. =>true
 |_=>false
theorem rL {o:Oper} (h:AA7 o=true):o.op= .load (Nw o).1 (Nw o).2:=by grind [AA7,Nw]
def ABX (P:Program) (o:Oper) (k sz:Nat):Bool:=AA7 o&&!aL P (Nw o).1&&Nat.beq (P.cellsOf (Nw o).1) 1&&(P.underlying (Nw o).1).isSome&&Nat.blt k sz
def ABY (P:Program) (o:Oper) (k m sz:Nat):Bool:=AA7 o&&aL P (Nw o).1&&Nat.beq (P.cellsOf (Nw o).1) m&&Nat.ble (k+m) sz
def ldC (E:St) (o:Oper) (j:Nat) (u:TV):SV:= .one (see E (HR E (Nw o).2).1 (HR E (Nw o).2).2.1 j u)
def ldA (E:St) (o:Oper) (j:Nat) (us:List TV):SV:= .agg (Vh E (HR E (Nw o).2).1 (HR E (Nw o).2).2.1 j us)
theorem HF {o:Oper} (hf:∀x,(f x).length=sz) (hx:gi l n=some x) (k:Nat) (hr:Ye E (Nw o).2=some (Az f l,n.toNat*sz+k):=by kernel_rfl) (ho:ABX P o k sz=true:=by kernel_rfl):AG P E o=some (ldC E o (n.toNat*sz+k)<|((f x)[k]?).getD .junk):=by
 simp only[ABX,Ao,CG]at ho;obtain⟨⟨⟨⟨h3,h4⟩,h5⟩,h6⟩,h7⟩:=ho;obtain⟨h1,h2⟩:=QE hr;have hk:k<(f x).length:=by simp_all
 refine AEb hf _ _ k _ hx h2 (rL h3) h1 h4 (AP h5) h6 h7 ?_
 grind
theorem L9 {o:Oper} (hf:∀x,(f x).length=sz) (hx:gi l n=some x) (k m:Nat) (hr:Ye E (Nw o).2=some (Az f l,n.toNat*sz+k):=by kernel_rfl) (ho:ABY P o k m sz=true:=by kernel_rfl):AG P E o=some (ldA E o (n.toNat*sz+k)<|((f x).drop k).take m):=by
 simp only[ABY,Ao]at ho;obtain⟨⟨⟨h3,h4⟩,h5⟩,h6⟩:=ho;obtain⟨h1,h2⟩:=QE hr;exact AEa hf _ _ k m hx h2 (rL h3) h1 h4 (AP h5) h6
def Og (o:Oper):TypeId×Operand:=match o.op with
 | .call c=>match c.callee,c.args.toList,c.argTypes.toList with
  | .builtin .len,[x],[t]=>(t,x)
  |_,_,_=>(0,.tmp 0)
 |_=>(0,.tmp 0)
def AA6 (o:Oper):Bool:=match o.op with
 | .call c=>match c.callee,c.args.toList,c.argTypes.toList with
  | .builtin .len,[x],[t]=>true
  |_,_,_=>false
 |_=>false
theorem rJ {o:Oper} (h:AA6 o=true):o.op= .call {callee:= .builtin .len,args:= #[(Og o).2],argTypes:= #[(Og o).1]}:=by
 unfold AA6 at h;unfold Og;split at h
 ·rename_i c hc;split at h
  ·rename_i x t h1 h2 h3;obtain⟨callee,args,types⟩:=c;subst h1;obtain rfl:args= #[x]:=by cases args;simp_all
   obtain rfl:types= #[t]:=by cases types;simp_all
   rw[hc]
  cases h
 cases h
theorem D5 {o:Oper} (hf:∀x,(f x).length=sz) (l:List α) (hr:bT E (Og o).2 sz=some (Az f l):=by kernel_rfl) (ho:(AA6 o&&XN P (Og o).1 sz)=true:=by kernel_rfl):AG P E o=some (.one<|.int .i64<|ln l):=by
 rw[Ao]at ho;obtain⟨r,q,j,a,e',h3,h4⟩:=OQ hr;obtain⟨e,h6,h7,h8⟩:=LH ho.2;exact ADh hf l (rJ ho.1) h6 h3 h4 h8
section
variable {o:Oper}
theorem ADd (hf:∀x,(f x).length=sz) (l:List α) (hf':∀x,(f' x).length=sz') (hx':gi l' n'=some x') (k:Nat) (ho:(AA6 o&&XN P (Og o).1 sz&&Nat.blt k sz')=true:=by kernel_rfl) (hr:E.ref (Og o).2=some ((Kb E (Og o).2).1,(Kb E (Og o).2).2.1,n'.toNat*sz'+k):=by kernel_rfl) (hp:(E.root (Kb E (Og o).2).1).bind (λcs=>Bq cs (Kb E (Og o).2).2.1)=some (Az f' l'):=by kernel_rfl) {a:Bool} (hc:(f' x')[k]?=some (.sl a e' sz<|Az f l):=by rfl):AG P E o=some (.one<|.int .i64<|ln l):=by
 simp only[Ao]at ho;obtain⟨e,h6,h7,h8⟩:=LH ho.1.2;have b:E.place (Kb E (Og o).2).1 (Kb E (Og o).2).2.1 (n'.toNat*sz'+k)=some (.sl a e' sz<|Az f l):=by
  obtain⟨cs,h1,h2⟩:=Af.1 hp
  grind [PD,St.place]
 exact ADh hf l (rJ ho.1.1) h6 hr b h8
end
def XG (P:Program) (E:St) (t:TypeId) (x:Operand):Option ByteArray:=match E.cell1 P t x with
 |some (.str s)=>some s
 |_=>none
theorem O8 {x:Operand} {t:TypeId} {s:ByteArray} (h:XG P E t x=some s):E.cell1 P t x=some (.str s):=by grind [XG]
def jZ (P:Program) (t:TypeId):Bool:=match P.underlying t with
 |some .string=>true
 |_=>false
theorem Y1 {t:TypeId} (h:jZ P t=true):P.underlying t=some .string:=by grind [jZ]
def ABN (P:Program) (E:St) (o:Oper):Option (ByteArray×Int):=match o.op with
 | .index t a i=>match jZ P t,XG P E t a,Sw P E i with
  |true,some s,some n=>some (s,n)
  |_,_,_=>none
 |_=>none
theorem wM {o:Oper} {s:ByteArray} {n b:Int} (h:sx s n=some b) (hc:ABN P E o=some (s,n):=by kernel_rfl):AG P E o=some (.one<|.int .u8 b):=by grind [Hn,AD9,Y1,O8,ABN]
def kS (P:Program) (E:St) (d:Int):Option Operand->Option Int
 |none=>some d
 |some x=>Sw P E x
def vA (P:Program) (E:St) (o:Oper):Option (ByteArray×Int×Int):=match o.op with
 | .slice t a lo hi none=>match jZ P t,XG P E t a with
  |true,some s=>match kS P E 0 lo,kS P E (s.size:Nat) hi with
   |some l,some h=>some (s,l,h)
   |_,_=>none
  |_,_=>none
 |_=>none
section
variable {o:Oper}
theorem Te {d:Int} {x:Option Operand} (h:kS P E d x=some n):∃k,(match x with|some o=>E.cell1 P 0 o|none=>some (.int .i64 d))=some (.int k n):=by
 cases x with
 |none=>
  injection h with h
  simp_all
 |some x=>exact Hn h
end
theorem jH {o:Oper} {s u:ByteArray} {l h:Int} (hx:sub s l h=some u) (hc:vA P E o=some (s,l,h):=by kernel_rfl):AG P E o=some (.one<|.str u):=by
 unfold vA at hc
 grind [Te,ADf,Y1,O8]
def zN (P:Program) (E:St) (o:Oper):Option (ByteArray×ByteArray):=match o.op with
 | .binOp .add t x y _=>match XG P E t x,XG P E t y with
  |some a,some b=>some (a,b)
  |_,_=>none
 |_=>none
theorem Gf {o:Oper} {a b u:ByteArray} (hx:GI a b=some u) (hc:zN P E o=some (a,b):=by kernel_rfl):AG P E o=some (.one<|.str u):=by grind [ADk,O8,zN]
def AB3 (o:Oper):TypeId×TypeId×Operand:=match o.op with
 | .convert s d x=>(s,d,x)
 |_=>(0,0,.tmp 0)
def ADD (P:Program) (o:Oper):Bool:=match o.op with
 | .convert s d x=>(match P.underlying s,P.underlying d with
  |some (.slice e),some .string=>(match P.underlying e with
   |some (.int .u8)=>true
   |_=>false)
  |_,_=>false)
 |_=>false
theorem tC {o:Oper} {f:Int->List TV} (hf:∀n,f n=[.int .u8 n]) (l:List Int) (hr:bT E (AB3 o).2.2 1=some (Az f l):=by kernel_rfl) (ho:ADD P o=true:=by kernel_rfl):AG P E o=some (.one<|.str<|DU l):=by grind [OQ,AEe,ADD,AB3]
def vH (P:Program) (E:St) (o:Oper) (k:IntKind):Option (Int×Int):=match o.op with
 | .binOp .shl t x y _=>match E.cell1 P t x,E.cell1 P t y with
  |some (.int k' a),some (.int _ b)=>bif decide (k'=k)then some (a,b)else none
  |_,_=>none
 |_=>none
theorem AD7 {o:Oper} {a b v:Int} (hx:shl k a b=some v) (hc:vH P E o k=some (a,b):=by kernel_rfl):AG P E o=some (.one<|.int k v):=by grind [ADg,vH]
def Ow (o:Oper):TypeId×Operand×Option Operand×Option Operand:=match o.op with
 | .slice t x lo hi none=>(t,x,lo,hi)
 |_=>(0,.tmp 0,none,none)
def AA9 (o:Oper):Bool:=match o.op with
 | .slice t x lo hi none=>true
 |_=>false
theorem rN {o:Oper} (h:AA9 o=true):o.op= .slice (Ow o).1 (Ow o).2.1 (Ow o).2.2.1 (Ow o).2.2.2 none:=by grind [AA9,Ow]
def qK (E:St) (x:Operand) (sz:Nat):Option (Nat×List TV):=match E.ref x with
 |some (r,q,j)=>match E.place r q j with
  |some (.sl false e s cells)=>bif Nat.beq s sz then some (e,cells)else none
  |_=>none
 |none=>none
theorem Ya {x:Operand} {a:List TV} {e:Nat} (h:qK E x sz=some (e,a)):∃r q j,E.ref x=some (r,q,j)/\E.place r q j=some (.sl false e sz a):=by grind [AP,qK]
theorem pdr {o:Oper} {v:List α} (hf:∀x,(f x).length=sz) {a b:Int} (e:Nat) (hx:dr l a b=some v) (hr:qK E (Ow o).2.1 sz=some (e,Az f l):=by kernel_rfl) (ha:kS P E 0 (Ow o).2.2.1=some a:=by kernel_rfl) (hb:((Ow o).2.2.2.bind<|Sw P E)=some b:=by kernel_rfl) (ho:(AA9 o&&XN P (Ow o).1 sz)=true:=by kernel_rfl):AG P E o=some (.one<|.sl false e sz<|Az f v):=by
 rw[Ao]at ho;obtain⟨r,q,j,h1,h2⟩:=Ya hr;obtain⟨e1,h6,h7,h8⟩:=LH ho.2;obtain⟨k1,h3⟩:=Te ha;obtain⟨oh,h4,h5⟩:=Af.1 hb;obtain⟨k2,h5⟩:=Hn h5;have:=rN ho.1
 grind [AEd]
theorem ACs {o:Oper} {v:List α} (hf:∀x,(f x).length=sz) {a:Int} (e:Nat) (hx:dr l a (ln l)=some v) (hr:qK E (Ow o).2.1 sz=some (e,Az f l):=by kernel_rfl) (ha:kS P E 0 (Ow o).2.2.1=some a:=by kernel_rfl) (ho:(AA9 o&&XN P (Ow o).1 sz&&(Ow o).2.2.2.isNone)=true:=by kernel_rfl):AG P E o=some (.one<|.sl false e sz<|Az f v):=by
 simp only[Ao]at ho;obtain⟨r,q,j,h1,h2⟩:=Ya hr;obtain⟨e1,h6,h7,h8⟩:=LH ho.1.2;obtain⟨k1,h3⟩:=Te ha;have:=rN ho.1.1
 grind [Option.isNone_iff_eq_none,ADj]
def AC6 (P:Program) (E:St) (o:Oper) (m:Nat):Bool:=match P.underlying (EF o).1 with
 |some (.array len e)=>tQ o&&Nat.beq (P.cellsOf e) 1&&Nat.blt m len&&(match E.ptr? (EF o).2.1 with
  |some (r,q,j)=>(E.place r q<|j+m).isSome
  |none=>false)
 |_=>false
def ABL (E:St) (o:Oper) (m:Nat):SV:= .one (.ptr (HR E (EF o).2.1).1 (E.stamp (HR E (EF o).2.1).1 (HR E (EF o).2.1).2.1) (HR E (EF o).2.1).2.1<|(HR E (EF o).2.1).2.2+m)
theorem pxa {o:Oper} (m:Nat) (hn:n=(m:Int)) (hi:Sw P E (EF o).2.2=some n:=by kernel_rfl) (ho:AC6 P E o m=true:=by kernel_rfl):AG P E o=some (ABL E o m):=by
 unfold AC6 at ho;split at ho
 ·rename_i len e ht;simp only[Ao]at ho;obtain⟨⟨⟨h1,h2⟩,h3⟩,h4⟩:=ho;obtain⟨k,hi⟩:=Hn hi;split at h4
  ·rename_i r q j hp;have:=AD8 r q j hn (rM h1) ht hi hp (AP h2) h3 h4
   grind [ABL,HR]
  cases h4
 cases ho
def DL (o:Oper):TypeId×TypeId×Operand×Operand:=match o.op with
 | .call c=>match c.callee,c.args.toList,c.argTypes.toList with
  | .builtin .append,[s,x],[t,t']=>(t,t',s,x)
  |_,_,_=>(0,0,.tmp 0,.tmp 0)
 |_=>(0,0,.tmp 0,.tmp 0)
def yO (o:Oper):Bool:=match o.op with
 | .call c=>match c.callee,c.args.toList,c.argTypes.toList with
  | .builtin .append,[s,x],[t,t']=>true
  |_,_,_=>false
 |_=>false
theorem fI {o:Oper} (h:yO o=true):o.op= .call {callee:= .builtin .append,args:= #[(DL o).2.2.1,(DL o).2.2.2],argTypes:= #[(DL o).1,(DL o).2.1]}:=by
 unfold yO at h;unfold DL;split at h
 ·rename_i c hc;split at h
  ·rename_i s x t t' h1 h2 h3;obtain⟨callee,args,types⟩:=c;subst h1;obtain rfl:args= #[s,x]:=by grind
   obtain rfl:types= #[t,t']:=by grind
   rw[hc]
  cases h
 cases h
def ABv (P:Program) (N:Nat) (o:Oper) (sz by_:Nat):Bool:=yO o&&Nat.beq (DL o).1 (DL o).2.1&&XN P (DL o).1 sz&&(K4 P<|aI P (DL o).1).isSome&&Nat.beq (P.bytesOf<|aI P (DL o).1) by_&&Nat.blt 0 by_&&H3 N o
def S3 (P:Program) (E:St) (o:Oper) (sz:Nat):Option (List TV×St):=match E.cell1 P (DL o).1 (DL o).2.2.1 with
 |some sv=>match Ew E sv with
  |some (.sl true e s cells,E1)=>bif Nat.beq e (aI P (DL o).1)&&Nat.beq s sz then some (cells,E1)else none
  |_=>none
 |none=>none
def apE (P:Program) (E:St) (o:Oper) (sz:Nat):St:=((S3 P E o sz).map Prod.snd).getD E
def apV (P:Program) (o:Oper) (sz:Nat) (a:List TV):SV:= .one (.sl true (aI P (DL o).1) sz a)
def zW (P:Program) (E1:St) (o:Oper) (sz:Nat):Option (Nat×List TV×St):=match E1.ref (DL o).2.2.2 with
 |some (r,q,j)=>match E1.place r q j with
  |some (.sl _ _ s cells)=>bif Nat.beq s sz then(match FE E1 (Vh E1 r (q++ [j]) 0 cells)with
   |some (news,E2)=>some (cells.length,news,E2)
   |none=>none)else none
  |_=>none
 |none=>none
theorem gL {t:TypeId} {e:TypeId} (h:P.underlying t=some (.slice e)):aI P t=e:=by unfold aI;rw[h]
theorem ADz {o:Oper} {E1 E2:St} {e2:Nat} {cells2:List TV} (hf:∀x,(f x).length=sz) (l m:List α) (h:ap by_ l m=some u) (hd:S3 P E o sz=some (Az f l,E1)) {r:Root} {q:List Nat} {b:Bool} (hr:E1.ref (DL o).2.2.2=some (r,q,j)) (hp:E1.place r q j=some (.sl b e2 sz cells2)) (hn:FE E1 (Vh E1 r (q++ [j]) 0 cells2)=some (Az f m,E2)) (hl:cells2.length=m.length*sz) (ho:ABv P N o sz by_=true):Cf P N false E o=some (E2.put o.dst (apV P o sz (Az f u))):=by
 obtain⟨rfl,g⟩:=ABu h;simp only[ABv,Ao]at ho;obtain⟨⟨⟨⟨⟨⟨a1,a2⟩,a3⟩,a4⟩,a5⟩,a6⟩,a7⟩:=ho;obtain⟨d,a8,_,a9⟩:=DS a7;obtain⟨e,b1,b2,b3⟩:=LH a3;have a:=gL b1;rw[a]at a4 a5;have h0':0<sz:=by simp_all
 have hb0':0<by_:=by simp_all
 have hb:=AP a5;have i:=AP a2;unfold S3 at hd;rw[a]at hd;split at hd
 ·rename_i sv hs;split at hd
  ·rename_i e1 s c E1' h1
   cases hc:(Nat.beq e1 e&&Nat.beq s sz)with
   |false=>grind
   |true=>
    rw[hc]at hd
    injection hd with hd
    injection hd with hd1 hd2
    rw[Ao]at hc;have c1:=AP hc.1;have c2:=AP hc.2;subst hd1 hd2 c1 c2;have k:(Az f l).length/s=l.length:=by simp_all [DC]
    have n:cells2.length/s=m.length:=by simp_all
    have p:l.length+m.length<=(l.length+m.length)*by_:=Nat.le_mul_of_pos_right _ hb0';simp_all [fI,Wy,Cf,Mo,apV];grind
  cases hd
 cases hd
theorem Tj {o:Oper} {a:List TV} (h:(S3 P E o sz).map Prod.fst=some a):S3 P E o sz=some (a,apE P E o sz):=by grind [apE,S3]
theorem CI {o:Oper} (hf:∀x,(f x).length=sz) (hg:∀x,HZ (f x)=true) (l:List α) {m u:List α} (h:ap by_ l m=some u) (hd:(S3 P E o sz).map Prod.fst=some (Az f l):=by kernel_rfl) (hm:bT (apE P E o sz) (DL o).2.2.2 sz=some (Az f m):=by kernel_rfl) (ho:ABv P N o sz by_=true:=by kernel_rfl):
  Cf P N false E o=some ((apE P E o sz).put o.dst<|apV P o sz<|Az f u):=by
 obtain⟨r,q,j,a,e,h1,h2⟩:=OQ hm;exact ADz hf l m h (Tj hd) h1 h2 (by grind [XP,Yg,PS]) (DC hf m) ho
section
variable {o:Oper}
theorem gK (hf:∀x,(f x).length=sz) (l m:List α) (h:ap by_ l m=some u) (hd:(S3 P E o sz).map Prod.fst=some (Az f l):=by kernel_rfl) (hm:(zW P (apE P E o sz) o sz).map (λz=>(z.1,z.2.1))=some (m.length*sz,Az f m):=by kernel_rfl) (ho:ABv P N o sz by_=true:=by kernel_rfl):
  Cf P N false E o=some ((((zW P (apE P E o sz) o sz).map λz=>z.2.2).getD E).put o.dst<|apV P o sz<|Az f u):=by
 have hd':=Tj hd;generalize hE:apE P E o sz=E1 at hm hd'⊢;unfold zW at hm⊢
 grind [AP,ADz]
end
def AB8 (P:Program) (N:Nat) (o:Oper):Bool:=yO o&&XN P (DL o).1 1&&jZ P (DL o).2.1&&!Nat.beq (DL o).1 (DL o).2.1&&AA4 P (aI P (DL o).1)&&H3 N o
section
variable {o:Oper}
theorem oM {f:Int->List TV} {u:List Int} (hf:∀n,f n=[.int .u8 n]) (l:List Int) {b:ByteArray} (h:aps l b=some u) (hd:(S3 P E o 1).map Prod.fst=some (Az f l):=by kernel_rfl) (hx:XG P E (DL o).2.1 (DL o).2.2.2=some b:=by kernel_rfl) (ho:AB8 P N o=true:=by kernel_rfl):
  Cf P N false E o=some ((apE P E o 1).put o.dst<|apV P o 1<|Az f u):=by
 have hd':=Tj hd;simp only[AB8,Ao,CG]at ho;obtain⟨⟨⟨⟨⟨a1,a2⟩,a3⟩,a4⟩,a5⟩,a6⟩:=ho;obtain⟨d,a8,_,a9⟩:=DS a6;obtain⟨e,b1,b2,b3⟩:=LH a2;have a:=gL b1;have g:=Y1 a3;have i:=O8 hx;have hne':(DL o).1≠(DL o).2.1:=by grind
 rw[a]at a5;unfold aps at h;split at h
 case isFalse=>cases h
 rename_i hb
 injection h with h
 subst h;have hl:(Az f l).length=l.length:=by simp_all [DC]
 unfold S3 at hd';rw[a]at hd';split at hd'
 ·rename_i sv hs;split at hd'
  ·rename_i e1 s c E1' h1
   cases hc:(Nat.beq e1 e&&Nat.beq s 1)with
   |false=>grind
   |true=>
    rw[hc]at hd'
    injection hd' with hd'
    injection hd' with hd1 hd2
    rw[Ao]at hc;have c1:=AP hc.1;have c2:=AP hc.2;subst hd1 hd2 c1 c2;unfold Cf;rw[a8]
    grind [fI,iN,Wy,PG,apV]
  cases hd'
 cases hd'
end
def Sv (o:Oper):TypeId×Operand×Operand:=match o.op with
 | .makeSlice t l c=>(t,l,c)
 |_=>(0,.tmp 0,.tmp 0)
def ACy (o:Oper):Bool:=match o.op with
 | .makeSlice .. =>true
 |_=>false
theorem AA5 {o:Oper} (h:ACy o=true):o.op= .makeSlice (Sv o).1 (Sv o).2.1 (Sv o).2.2:=by grind [ACy,Sv]
def ADr (P:Program) (N:Nat) (o:Oper) (sz by_:Nat):Bool:=ACy o&&XN P (Sv o).1 sz&&Nat.beq (P.bytesOf<|aI P (Sv o).1) by_&&H3 N o
theorem fmk {o:Oper} (hf:∀x,(f x).length=sz) (z:α) (h:mk by_ z n=some u) (hl:Sw P E (Sv o).2.1=some n:=by kernel_rfl) (hc:Sw P E (Sv o).2.2=some n:=by kernel_rfl) (hz:K4 P (aI P (Sv o).1)=some (f z):=by kernel_rfl) (ho:ADr P N o sz by_=true:=by kernel_rfl):
  Cf P N false E o=some (E.put o.dst<|.one<|.sl true (aI P (Sv o).1) sz<|Az f u):=by
 simp only[ADr,Ao]at ho;obtain⟨⟨⟨a1,a2⟩,a3⟩,a4⟩:=ho;obtain⟨d,a5,a6,_⟩:=DS a4;obtain⟨e,b1,b2,b3⟩:=LH a2;have a:=gL b1;rw[a]at hz a3⊢;obtain⟨k1,hl⟩:=Hn hl;obtain⟨k2,hc⟩:=Hn hc;rw[a5];exact AD4 z h (AA5 a1) a5 a6 b1 hl hc hz rfl (AP a3) b2
def KT (o:Oper):TypeId×Operand×Operand:=match o.op with
 | .store t a x=>(t,a,x)
 |_=>(0,.tmp 0,.tmp 0)
def yN (o:Oper):Bool:=match o.op with
 | .store .. =>o.dst.isNone
 |_=>false
theorem rH {o:Oper} (h:yN o=true):o.op= .store (KT o).1 (KT o).2.1 (KT o).2.2/\o.dst=none:=by
 unfold yN at h;unfold KT;split at h
 ·simp_all
 cases h
def N8 (P:Program) (E:St) (o:Oper):Option (List TV×St):=match E.val P (KT o).1 (KT o).2.2 with
 |some s=>Lw E s
 |none=>none
def sN (P:Program) (E:St) (o:Oper):List TV:=((N8 P E o).map Prod.fst).getD []
def qD (P:Program) (E:St) (o:Oper):St:=((N8 P E o).map Prod.snd).getD E
def stP (P:Program) (E:St) (o:Oper):Root×List Nat×Nat:=HR (qD P E o) (KT o).2.1
def sO (P:Program) (E:St) (o:Oper) (k sz:Nat):Bool:=yN o&&(N8 P E o).isSome&&Nat.beq (sN P E o).length (P.cellsOf (KT o).1)&&Nat.blt 0 (sN P E o).length&&Nat.ble (k+(sN P E o).length) sz
section
variable {o:Oper}
theorem ADu (hf:∀x,(f x).length=sz) (hx:gi l n=some x) (k:Nat) {r:Root} {c:Nat} {q:List Nat} {cs cs':List TV} (ho:sO P E o k sz=true) (hp:(qD P E o).ptr? (KT o).2.1=some (r,c::q,n.toNat*sz+k)) (hr:(qD P E o).root r=some cs) (A:At cs (c::q) (Az f l) (λa=>setRow a (n.toNat*sz+k) (sN P E o)) cs'):Cf P N false E o=some (((qD P E o).setRoot r cs').bump r):=by
 simp only[sO,Ao]at ho;obtain⟨⟨⟨⟨a1,a2⟩,a3⟩,a4⟩,a5⟩:=ho;obtain⟨b1,b2⟩:=rH a1;have ht:N8 P E o=some (sN P E o,qD P E o):=by
  unfold sN qD
  cases hh:N8 P E o with
  |none=>grind
  |some z=>rfl
 generalize hX:sN P E o=xs at*;unfold N8 at ht;split at ht
 ·rename_i s hs;have h0':0<xs.length:=by simp_all
  simp only[Cf,b2,b1,Ov,hs,ht,hp,hr,A.c];rw[Bv ⟨A.o,AP a3,h0',ACC hf hx a5⟩,AT (by simp),A.u]
 cases ht
end
section
variable {o:Oper}
def AAC (E:St) (r:Root) (c:Nat) (a:List TV):List TV:=match E.root r with
 |some cs=>match cs[c]? with
  |some (.sl o e s _)=>cs.set c<|.sl o e s a
  |_=>cs
 |none=>[]
end
def QJ (E:St) (r:Root) (c:Nat):Option (List TV):=match E.root r with
 |some cs=>match cs[c]? with
  |some (.sl true e s row)=>some row
  |_=>none
 |none=>none
theorem QI {r:Root} {c:Nat} {a:List TV} (h:QJ E r c=some a):∃cs e s,E.root r=some cs/\cs[c]?=some (.sl true e s a)/\∀row',AAC E r c row'=cs.set c (.sl true e s row'):=by grind [QJ,AAC]
theorem YQ {o:Oper} (hf:∀x,(f x).length=sz) (hx:gi l n=some x) (k c:Nat) (z:α) (ho:sO P E o k sz=true:=by kernel_rfl) (hp:(qD P E o).ptr? (KT o).2.1=some ((stP P E o).1,[c],n.toNat*sz+k):=by kernel_rfl) (hr:QJ (qD P E o) (stP P E o).1 c=some (Az f l):=by kernel_rfl) (hz:setRow (f x) k (sN P E o)=f z:=by kernel_rfl):Cf P N false E o=some (((qD P E o).setRoot (stP P E o).1<|AAC (qD P E o) (stP P E o).1 c<|Az f<|si l n z).bump (stP P E o).1):=by grind [QI,ADu,At.one,Vg,sO]
theorem ABd {o:Oper} (hf:∀x,(f x).length=sz) (hx:gi l n=some x) (k c:Nat) (z:α) (hf':∀x,(f' x).length=sz') (hx':gi l' n'=some x') (k':Nat) (z':α') (ho:(sO P E o k sz&&Nat.blt k' sz')=true:=by kernel_rfl) (hp:(qD P E o).ptr? (KT o).2.1=some ((stP P E o).1,[c,n'.toNat*sz'+k'],n.toNat*sz+k):=by kernel_rfl) (hr:QJ (qD P E o) (stP P E o).1 c=some (Az f' l'):=by kernel_rfl) (hz:setRow (f x) k (sN P E o)=f z:=by kernel_rfl) {e s:Nat} (hc:(f' x')[k']?=some (.sl true e s<|Az f l):=by rfl) (hc':(f' x').set k' (.sl true e s<|Az f<|si l n z)=f' z':=by rfl):Cf P N false E o=some (((qD P E o).setRoot (stP P E o).1<|AAC (qD P E o) (stP P E o).1 c<|Az f'<|si l' n' z').bump (stP P E o).1):=by
 obtain⟨cs,e1,s1,h1,h2,h3⟩:=QI hr;rw[Ao]at ho;refine ADu hf hx k ho.1 hp h1 ?_
 grind [ADQ,At.one,Vg,sO]
theorem KB.o {ops:Array Oper} {ts dn:List Nat} (mv:Bool) (h:KW P N ops ts (i::dn) ((Cf P N mv E (oA ops i)).getD E) Q) (hs:(Cf P N mv E (oA ops i)).isSome=true:=by kernel_rfl) (hk:(Sl P ops E i&&(kp (oA ops i)||ts.contains i))=true:=by kernel_rfl):KB P N ops ts dn i E Q:=G4 (getD_some hs) h hk
def bits:Nat->List (TypeId×Operand)->List (Bool×TypeId×Operand)
 |_,[]=>[]
 |m,(t,x)::l=>(Nat.beq (m %2) 1,t,x)::bits (m/2) l
def Rl (o:Oper):Nat:=match o.op with
 | .call c=>match c.callee with
  | .value (.func f)=>f
  |_=>0
 |_=>0
def FR (o:Oper):List (TypeId×Operand):=match o.op with
 | .call c=>c.argTypes.toList.zip c.args.toList
 |_=>[]
def VF (P:Program) (N:Nat) (o:Oper):Bool:=(match o.op with
 | .call c=>match c.callee with
  | .value (.func f)=>Nat.beq c.argTypes.size c.args.size&&(match P.funcs[f]? with
   | some fn => !(fn.name == "runtime.NumGoroutine") && !fn.body.isNone
   |none=>false)
  |_=>false
 |_=>false)&&(match o.dst with
 |some d=>Nat.blt d N
 |none=>true)
theorem Rq:∀{l:List (TypeId×Operand)} {m:Nat},(bits m l).map (λx=>x.2.2)=l.map Prod.snd
 |[],m=>rfl
 |(t,x)::l,m=>by simp only[bits,C8,Rq]
theorem PI {o:Oper} (h:VF P N o=true):∃args tys,o.op= .call {callee:= .value (.func<|Rl o),args:=args,argTypes:=tys}/\aH P (Rl o)/\(∀d,o.dst=some d->d<N)/\(FR o).map Prod.snd=args.toList:=by
 simp only[VF,Ao]at h;obtain⟨h1,h2⟩:=h;have hN:∀d,o.dst=some d->d<N:=by
  intro d hd;simp_all
 unfold Rl FR;split at h1
 ·rename_i c hc;split at h1
  ·rename_i f a;rw[Ao]at h1;obtain⟨h3,h4⟩:=h1;split at h4
   ·rename_i fn b;simp only[Ao,CG]at h4;obtain⟨callee,args,types⟩:=c;subst a;have hz:=AP h3;refine⟨args,types,by simp only[hc],?_,hN,?_⟩
    ·exact⟨fn,b,by grind,h4.2⟩
    grind [List.map_snd_zip]
   cases h4
  cases h1
 cases h1
def mvA (P:Program) (E:St) (o:Oper) (m:Nat):Option (List (Option SV)×St):=NC P E<|bits m<|FR o
def clE (P:Program) (E:St) (o:Oper) (m:Nat):St:=((mvA P E o m).map Prod.snd).getD E
def shA (P:Program) (E:St) (o:Oper) (m:Nat):Option (List AV×Bool):=match mvA P E o m with
 |some (ss,E1)=>I3 P E1 (bits m<|FR o) ss
 |none=>none
def eE (P:Program) (E:St) (o:Oper) (m:Nat):Option (List AV):=(shA P E o m).map Prod.fst
def shB (P:Program) (E:St) (o:Oper) (m:Nat):Bool:=match shA P E o m with
 |some (_,b)=>b
 |none=>false
theorem zC {o:Oper} {m:Nat} {a:SV} (h:eE P E o m=some as) (hc:shB P E o m=true\/Bw a=false):Xp P E o.dst (bits m (FR o)) as a ((clE P E o m).put o.dst a):=by
 unfold eE shB shA at*;unfold clE
 cases hm:mvA P E o m with
 |none=>grind
 |some z=>
  obtain⟨ss,E1⟩:=z;rw[hm]at h hc;simp only at h hc
  cases hs:I3 P E1 (bits m<|FR o) ss with
  |none=>grind
  |some y=>
   obtain⟨as',c⟩:=y;rw[hs]at h hc
   injection h with h
   subst h;exact⟨ss,E1,c,hm,hs,hc,rfl⟩
theorem ca {γ:Type _} {l l':List γ} {a b:γ} (h:a=b) (k:l=l'):a::l=b::l':=by rw[h,k]
theorem cs {e sz:Nat} {a b:List TV} (h:AU a=b):TV.sl false e sz (AU a)= .sl false e sz b:=by rw[h]
theorem co {a b:TV} (h:a=b):AV.sv (.one a)= .sv (.one b):=by rw[h]
theorem ZC {a b:List TV} (h:a=b):AV.sv (.agg a)= .sv (.agg b):=by rw[h]
theorem RW.c {r:β} {x:Option α} {l:List AV} {n:Nat} (m:Nat) (h:x.bind kk=some r) {enc:α->SV} (a:∀v,x=some v->AC P (Rl (oA ops i)) l (enc v) (List.replicate n .gone)) (hk:∀v,x=some v->kk v=some r->RW P N ops (i+1) ((clE P E (oA ops i) m).put (oA ops i).dst (enc v)) Q) (b:eE P E (oA ops i) m=some l:=by kernel_rfl) (hc:shB P E (oA ops i) m=true\/∀v,Bw (enc v)=false:=by exact .inl<|by kernel_rfl) (ho:(Sl P ops E i&&VF P N (oA ops i))=true:=by kernel_rfl):RW P N ops i E Q:=by
 obtain⟨v,hv,h⟩:=Af.1 h;rw[Ao]at ho;obtain⟨h1,h2⟩:=GM ho.1;obtain⟨args,tys,h3,h4,h5,h6⟩:=PI ho.2;unfold RW;rw[Fq h1];exact FB.call h3 h4 h2 h5 (bits m<|FR<|oA ops i) (by rw[Rq,h6]) (a v hv) (zC b<|hc.imp id λh=>h v)<|hk v hv h
section
variable {r:β} {ts:List Nat}
theorem KB.c {x:Option α} {l:List AV} {n:Nat} (m:Nat) (h:x.bind kk=some r) {enc:α->SV} (a:∀v,x=some v->AC P (Rl (oA ops i)) l (enc v) (List.replicate n .gone)) (hk:∀v,x=some v->kk v=some r->KW P N ops ts (i::dn) ((clE P E (oA ops i) m).put (oA ops i).dst (enc v)) Q) (b:eE P E (oA ops i) m=some l:=by kernel_rfl) (hc:shB P E (oA ops i) m=true\/∀v,Bw (enc v)=false:=by exact .inl<|by kernel_rfl) (ho:(Sl P ops E i&&VF P N (oA ops i)&&((bits m<|FR<|oA ops i).all (λx=>!x.1)||ts.contains i))=true:=by kernel_rfl):KB P N ops ts dn i E Q:=by
 obtain⟨v,hv,h⟩:=Af.1 h;simp only[Ao]at ho;obtain⟨h1,h2⟩:=GM ho.1.1;obtain⟨args,tys,h3,h4,h5,h6⟩:=PI ho.1.2;exact dY.call i (Iz h1) h3 h4 h2 h5 (bits m<|FR<|oA ops i) (by rw[Rq,h6]) ho.2 (a v hv) (zC b<|hc.imp id λh=>h v)<|hk v hv h
end
theorem gs {f:FuncId} {x:Option α} {l l':List AV} {n:Nat} {enc:α->SV} (e:l=l') (h:∀v,x=some v->AC P f l' (enc v) (List.replicate n .gone)):∀v,x=some v->AC P f l (enc v) (List.replicate n .gone):=e▸h
def zG (E:St) (o:Oper):Root:=match FR o with
 |(_,x)::_=>(HR E x).1
 |[]=> .hand
section
variable {r:β}
def ABh (E:St) (o:Oper):Bool:=match FR o with
 |(_,x)::_=>(match E.ptr? x with
  |some (r,[],0)=>r.mem
  |_=>false)
 |[]=>false
end
def cxA (P:Program) (E:St) (o:Oper):Option (List AV×Bool):=I3 P (E.without<|zG E o) (bits 0 (FR o).tail)<|List.replicate (bits 0 (FR o).tail).length none
def ABi (P:Program) (E:St) (o:Oper):Option (List AV):=(cxA P E o).map Prod.fst
def cxB (P:Program) (E:St) (o:Oper):Bool:=match cxA P E o with
 |some (_,b)=>b
 |none=>false
theorem ADC {o:Oper} (h:ABh E o=true):∃t x l,FR o=(t,x)::l/\E.ptr? x=some (zG E o,[],0)/\(zG E o).mem=true:=by grind [ABh,zG,HR]
theorem ACE {p:Prop} {o:Oper} (h:ABi P E o=some as) (hc:cxB P E o=true\/p):∃c,I3 P (E.without (zG E o)) (bits 0 (FR o).tail) (List.replicate (bits 0 (FR o).tail).length none)=some (as,c)/\(c=true\/p):=by grind [ABi,cxB,cxA]
theorem ADL {r:β} {x:Option α} {fin:α->List TV} {l:List AV} {n:Nat} (h:x.bind kk=some r) {enc:α->SV} {b:List TV} (e:∀v,x=some v->AC P (Rl (oA ops i)) (.ext b::l) (enc v) (.ext (fin v)::List.replicate n .gone)) (d:∀v,(fin v).length=b.length) (hk:∀v,x=some v->kk v=some r->RW P N ops (i+1) (((E.setRoot (zG E (oA ops i)) (fin v)).bump (zG E (oA ops i))).put (oA ops i).dst (enc v)) Q) (f:ABi P E (oA ops i)=some l:=by kernel_rfl) (hb:E.boxes (zG E<|oA ops i)=some b:=by kernel_rfl) (hc:cxB P E (oA ops i)=true\/∀v,Bw (enc v)=false/\A9 (fin v)=false:=by exact .inl<|by kernel_rfl) (ho:(Sl P ops E i&&VF P N (oA ops i)&&ABh E (oA ops i))=true:=by kernel_rfl):RW P N ops i E Q:=by
 obtain⟨v,hv,h⟩:=Af.1 h;simp only[Ao]at ho;obtain⟨h1,h2⟩:=GM ho.1.1;obtain⟨args,tys,h3,h4,h5,h6⟩:=PI ho.1.2;obtain⟨t,x0,l0,h7,h8,h9⟩:=ADC ho.2;obtain⟨c,h10,h11⟩:=ACE f hc;unfold RW;rw[Fq h1];intro w0 FA UA w a blk FS US hr hF hU;simp only[wpList,BB hr h2,Co];refine .inl<|zR hr hF hU h3 h4 h5 (x:=x0) (l:=bits 0 (FR<|oA ops i).tail) ?_ h9 h8 hb (d v) h10 (h11.imp id λh=>h v) (e v hv) λw' v' blk' FS' US' k1 k2 k3=>hk v hv h _ _ _ _ _ _ _ _ k1 k2 k3
 grind [Rq]
theorem wc {x:Code} {r:β} {c:Operand} {b:Bool} (h:(bif b then tx else ty)=some r) (ht:tx=some r->Wp P N x E Q) (hf:ty=some r->Wp P N y E Q) (hc:E.cell1 P 0 c=some (.bool b):=by kernel_rfl):Wp P N (.cond c x y) E Q:=Wp.c h ht hf hc
theorem wt {x:Code} {c:Operand} (ht:Wp P N x E Q) (hc:E.cell1 P 0 c=some (.bool true):=by kernel_rfl):Wp P N (.cond c x y) E Q:=ADG ht hc
theorem wf {x:Code} {c:Operand} (hf:Wp P N y E Q) (hc:E.cell1 P 0 c=some (.bool false):=by kernel_rfl):Wp P N (.cond c x y) E Q:=ADH hf hc
theorem rsz {rs:List ResultVar} {a:SV} (h:(Dm P E rs).map (λz=>D6 z.1)=some a):∃ss E',Dm P E rs=some (ss,E')/\D6 ss=a:=by simp_all
theorem rsx {rt:Root} {rs:List ResultVar} {b:SV} {a:List TV} (h:(Dm P E rs).map (λz=>(D6 z.1,z.2.boxes rt))=some (b,some a)):∃ss E',Dm P E rs=some (ss,E')/\D6 ss=b/\E'.boxes rt=some a:=by simp_all
theorem gkx {f:FuncId} {c:Code} {a cells':List TV} {b:SV} (hf:P.funcs[f]?=some fn) (hb:fn.body=some c) (hN:fn.ntmps=N) (h:Wp P N c (CQ (.ext a::as)) λe E=>(e= .normal\/e= .ret)/\∃ss E',Dm P E fn.results.toList=some (ss,E')/\D6 ss=b/\E'.boxes (.ext 0)=some cells') (d:cells'.isEmpty=false:=by rfl):AC P f (.ext a::as) b (.ext cells'::List.replicate as.length .gone):=tW hf hb (by rw[hN];exact h) d
theorem gk {f:FuncId} {c:Code} {a:SV} (hf:P.funcs[f]?=some fn) (hb:fn.body=some c) (hN:fn.ntmps=N) (h:Wp P N c (CQ as) λe E=>(e= .normal\/e= .ret)/\∃ss E',Dm P E fn.results.toList=some (ss,E')/\D6 ss=a):AC P f as a (List.replicate as.length .gone):=yU hf hb (by rw[hN];exact h)
theorem mY:∀t:TV,(L8 t).isSl=t.isSl:=by intro t;cases t<;>rfl
theorem Mx:∀(cs:List TV) (j:Nat),(AU cs)[j]?=cs[j]?.map L8
 |[],j=>by simp[AU]
 |t::ts,0=>by simp[AU]
 |t::ts,j+1=>by simpa[AU]using Mx ts j
theorem W1:∀(q:List Nat) (cs:List TV),Bq (AU cs) q=(Bq cs q).map AU
 |[],cs=>rfl
 |c::q,cs=>by
  simp only[Bq,Mx]
  cases cs[c]? with
  |none=>rfl
  |some t=>
   cases t with
   |sl o e sz cells=>exact W1 q cells
   |_=>rfl
def oH:TV->List TV->TV
 | .sl _ e s _,row=> .sl false e s row
 |t,_=>t
def YR (cs:List TV) (j:Nat) (a:List TV):List TV:=match cs[j]? with
 |some t=>cs.set j<|oH t a
 |none=>cs
theorem gF {cs:List TV} {j e s:Nat} {a:List TV} (h:cs[j]?=some (.sl true e s a)) (c:Nat):(YR cs j (AU a))[c]?=if c=j then some (.sl false e s (AU a))else cs[c]? :=by grind [YR,oH]
theorem yY {r1:List TV} {cs:List TV} {j e s:Nat} {a:List TV} (h:cs[j]?=some (.sl true e s a)) {q:List Nat} (hq:Bq cs q=some r1) (i:Nat):
  ∃r2,Bq (YR cs j (AU a)) q=some r2/\(r1[i]?.isSome=true->r2[i]?.isSome=true)/\(Kc r1[i]?=true->Kc r2[i]?=true):=by
 cases q with
 |nil=>
  injection hq with hq
  subst hq;refine⟨_,rfl,?_,?_⟩
  ·rw[gF h]
   grind
  rw[gF h];split
  ·intro _;rfl
  exact id
 |cons c q=>
  simp only[Bq,gF h]
  grind [W1,Mx,mY,Bq,Kc]
theorem Yc:∀{ts:List TV} {vs:List Value} {F U:List Nat} {j:Nat} {t:TV},Bk w ts vs F U->ts[j]?=some t->F.Nodup->(∀v F1 U1,CL w t v F1 U1->∃F2 U2,CL w t' v F2 U2/\HS F1 U1 F2 U2)->
  ∃F' U',Bk w (ts.set j t') vs F' U'/\HS F U F' U'
 |[],vs,F,U,j,t,h,hj,_,_=>by simp at hj
 |x::ts,vs,F,U,0,t,h,hj,hn,hk=>by
  simp at hj;subst hj;obtain⟨v,a,F1,F2,U1,U2,rfl,rfl,rfl,h1,h2⟩:=h;obtain⟨F1',U1',a1,a2⟩:=hk v F1 U1 h1;exact⟨F1'++F2,U1'++U2,by grind [Bk],RC hn a2 HS.refl⟩
 |x::ts,vs,F,U,j+1,t,h,hj,hn,hk=>by
  obtain⟨v,a,F1,F2,U1,U2,rfl,rfl,rfl,h1,h2⟩:=h;obtain⟨F2',U2',a1,a2⟩:=Yc h2 (by simpa using hj) (CF.1 hn).2.1 hk;exact⟨F1++F2',U1++U2',by grind [Bk],RC hn HS.refl a2⟩
theorem Zg {a:Act} {blk:Root->Nat}:∀{ts:List TV} {vs:List Value} {F U:List Nat} {j:Nat} {t:TV},Ch w a E blk ts vs F U->ts[j]?=some t->F.Nodup->(∀v F1 U1,Do w a E blk t v F1 U1->∃F2 U2,Do w a E blk t' v F2 U2/\HS F1 U1 F2 U2)->
  ∃F' U',Ch w a E blk (ts.set j t') vs F' U'/\HS F U F' U'
 |[],vs,F,U,j,t,h,hj,_,_=>by simp at hj
 |x::ts,vs,F,U,0,t,h,hj,hn,hk=>by
  simp at hj;subst hj;obtain⟨v,b,F1,F2,U1,U2,rfl,rfl,rfl,h1,h2⟩:=h;obtain⟨F1',U1',a1,a2⟩:=hk v F1 U1 h1;exact⟨F1'++F2,U1'++U2,by exact⟨v,b,F1',F2,U1',U2,rfl,rfl,rfl,a1,h2⟩,RC hn a2 HS.refl⟩
 |x::ts,vs,F,U,j+1,t,h,hj,hn,hk=>by
  obtain⟨v,b,F1,F2,U1,U2,rfl,rfl,rfl,h1,h2⟩:=h;obtain⟨F2',U2',a1,a2⟩:=Zg h2 (by simpa using hj) (CF.1 hn).2.1 hk;exact⟨F1++F2',U1++U2',by exact⟨v,b,F1,F2',U1,U2',rfl,rfl,rfl,h1,a1⟩,RC hn HS.refl a2⟩
def frE (E:St) (r:Root) (j:Nat) (a:List TV):St:=match E.root r with
 |some cs=>E.setRoot r<|YR cs j a
 |none=>E
theorem oG {a:Act} {r:Root} {cs:List TV} {j e s:Nat} {b:List TV} (hr:E.root r=some cs) (hj:cs[j]?=some (.sl true e s b)) (hh:r≠ .hand) (R:Root):BH w w a a E (E.setRoot r (YR cs j (AU b))) blk blk R:=by
 have d:(E.setRoot r<|YR cs j<|AU b).ver=E.ver:=by cases r<;>rfl
 have f:(E.setRoot r<|YR cs j<|AU b).gen=E.gen:=by cases r<;>rfl
 have g:(YR cs j<|AU b).length=cs.length:=by simp[YR,hj]
 have c:∀cs0,E.root R=some cs0->∃cs1,(E.setRoot r<|YR cs j<|AU b).root R=some cs1/\∀q r1,Bq cs0 q=some r1->∀i:Nat,∃r2,Bq cs1 q=some r2/\(r1[i]?.isSome=true->r2[i]?.isSome=true)/\(Kc r1[i]?=true->Kc r2[i]?=true):=by
  intro cs0 h0;by_cases hR:R=r
  ·subst hR;rw[hr]at h0
   injection h0 with h0
   subst h0;refine⟨YR cs j<|AU b,?_,λq r1 hq i=>yY hj hq i⟩
   cases R with
   |slot n=>
    simp only[St.root,St.setRoot,B9,Co]at hr⊢
    injection hr with hr
    congr 1
    cases hs:E.slots n with
    |one t=>
     rw[hs]at hr;subst hr;have:(YR [t] j<|AU b).length=1:=g
     match hf:YR [t] j (AU b),this with
     |[x],_=>rfl
    |agg ts=>rfl
    |tup ss=>grind [SV.cells]
   |box n=>simp[St.root,St.setRoot,B9]
   |ext n=>simp[St.root,St.setRoot,B9]
   |hand=>exact absurd rfl hh
  refine⟨cs0,?_,λq r1 hq i=>⟨r1,hq,id,id⟩⟩;rw[<-h0];cases r<;>cases R<;>simp only[St.root,St.setRoot,B9]<;>first
   |exact absurd rfl hh
   |rfl
   |grind
   |(rw[AT];intro e;injection e with e;exact hR<|by rw[e])
   |(rw[AT];intro e;cases e)
 constructor
 ·refine .inr ⟨by rw[d],λq i v h1 h2=>⟨h1,?_⟩,λq i ad hq h1 h2=>⟨h1,?_⟩⟩
  ·unfold St.place at h2⊢
   cases h0:E.root R with
   |none=>rw[h0]at h2;cases h2
   |some cs0=>
    rw[h0]at h2;obtain⟨cs1,k1,k2⟩:=c cs0 h0;simp only[Aa]at h2
    cases hc:Bq cs0 q with
    |none=>rw[hc]at h2;cases h2
    |some r1=>
     obtain⟨r2,k3,_,k4⟩:=k2 q r1 hc i
     grind
  unfold St.place at h2⊢
  cases h0:E.root R with
  |none=>grind
  |some cs0=>
   rw[h0]at h2;obtain⟨cs1,k1,k2⟩:=c cs0 h0;simp only[Aa]at h2
   cases hc:Bq cs0 q with
   |none=>grind
   |some r1=>
    obtain⟨r2,k3,k4,_⟩:=k2 q r1 hc i
    grind
 refine .inr ⟨by rw[f],λi ad h1 h2=>⟨h1,?_⟩⟩;unfold St.place at h2⊢
 cases h0:E.root R with
 |none=>grind
 |some cs0=>
  rw[h0]at h2;obtain⟨cs1,k1,k2⟩:=c cs0 h0;obtain⟨r2,k3,k4,_⟩:=k2 [] cs0 rfl i;rw[k1];simp only[Aa,k3];exact k4 h2
section
variable {w0:Base} {a:Act}
theorem Ce.freeze (h:Ce w0 FA UA N w a E blk FS US) {r:Root} {cs:List TV} {j e s:Nat} {c:List TV} (hr:E.root r=some cs) (hj:cs[j]?=some (.sl true e s c)) (hh:r≠ .hand):
  ∃FS' US',Ce w0 FA UA N w a (E.setRoot r (YR cs j (AU c))) blk FS' US'/\FS' .hand=FS .hand/\US' .hand=US .hand:=by
 have o:=oG (w:=w) (a:=a) (blk:=blk) hr hj hh;have p:YR cs j (AU c)=cs.set j (.sl false e s<|AU c):=by grind [YR,oH]
 have g:∀v F1 U1,CL w (.sl true e s c) v F1 U1->∃F2 U2,CL w (.sl false e s<|AU c) v F2 U2/\HS F1 U1 F2 U2:=λv F1 U1 h1=>ACn h1<|uO.s rfl
 have u:∃F' U',HS (FS r) (US r) F' U'/\(∀n,r= .slot n->H8 w a (E.setRoot r<|YR cs j<|AU c) blk ((E.slots n).withCells<|YR cs j<|AU c) (a.eval<|.tmp n) F' U')/\
   (r.mem=true->∃d T F,w.heap[blk r]?=some (.cells d T (0,0))/\Bk w (YR cs j<|AU c) d.toList F U'/\F'=blk r::F):=by
  cases r with
  |slot n=>
   injection hr with hr
   have hs:=GV o (h.slot n) (λ_ _=>rfl) λ_ _=>rfl
   cases i:E.slots n with
   |one t=>
    rw[i]at hr hs;simp only[SV.cells]at hr;subst hr;have x:j=0:=by grind
    subst x;simp at hj;subst hj;obtain⟨F2,U2,k1,k2⟩:=g _ _ _ hs.1;refine⟨F2,U2,k2,λm hm=>?_,λhm=>by cases hm⟩
    injection hm with hm
    subst hm;rw[i,p];exact⟨k1,λ_=>hs.2 rfl⟩
   |agg ts=>
    rw[i]at hr hs;simp only[SV.cells]at hr;subst hr;obtain⟨vs,k0,k1⟩:=hs;obtain⟨F2,U2,k2,k3⟩:=Zg (t':= .sl false e s (AU c)) k1 hj (h.nodup _) g;refine⟨F2,U2,k3,λm hm=>?_,λhm=>by cases hm⟩
    grind [SV.withCells,H8]
   |tup ss=>grind [SV.cells]
  |hand=>exact absurd rfl hh
  |box n=>
   rcases h.box (.box n) rfl with⟨k,_⟩|⟨cs0,d,T,F,k1,k2,k3,k4⟩
   ·grind [St.root]
   simp only[St.root]at hr;rw[k1]at hr
   injection hr with hr
   subst hr;have f:=h.nodup<|.box n;rw[k4]at f;obtain⟨y,l⟩:=C4.1 f;obtain⟨F2,U2,k5,k6⟩:=Yc (t':= .sl false e s (AU c)) k3 hj l g;refine⟨blk (.box n)::F2,U2,?_,λm hm=>(by cases hm),λ_=>⟨d,T,F2,k2,by grind,rfl⟩⟩;rw[k4];refine⟨k6.1.cons_cons _,λb hb=>?_⟩
   rcases k6.2 b hb with q|⟨q1,q2⟩
   ·exact .inl q
   grind
  |ext n=>
   rcases h.box (.ext n) rfl with⟨k,_⟩|⟨cs0,d,T,F,k1,k2,k3,k4⟩
   ·grind [St.root]
   simp only[St.root]at hr;rw[k1]at hr
   injection hr with hr
   subst hr;have f:=h.nodup<|.ext n;rw[k4]at f;obtain⟨y,l⟩:=C4.1 f;obtain⟨F2,U2,k5,k6⟩:=Yc (t':= .sl false e s (AU c)) k3 hj l g;refine⟨blk (.ext n)::F2,U2,?_,λm hm=>(by cases hm),λ_=>⟨d,T,F2,k2,by grind,rfl⟩⟩;rw[k4];refine⟨k6.1.cons_cons _,λb hb=>?_⟩
   rcases k6.2 b hb with q|⟨q1,q2⟩
   ·exact .inl q
   grind
 obtain⟨F',U',hl,h3,z⟩:=u
 have h0:∀b∈F',b∈FS r:=λb hb=>hl.1.subset hb
 refine⟨B9 FS r F',B9 US r U',?_,by grind [AQ],by grind [AQ]⟩;have hF:∀R b,b∈B9 FS r F' R->b∈FS R:=by
  intro R b hb;by_cases hR:R=r
  ·grind [BF]
  grind [AQ]
 have hU:∀R b,b∈B9 US r U' R->b∈US R\/(R=r/\b∈FS r/\b∉F'):=by
  intro R b hb;by_cases hR:R=r
  ·subst hR;rw[BF]at hb
   rcases hl.2 b hb with q|⟨q1,q2⟩
   ·exact .inl q
   grind
  grind [AQ]
 constructor
 ·intro n;by_cases hn:r= .slot n
  ·simp_all [St.setRoot,B9]
  rw[AQ λe=>hn e.symm,AQ λe=>hn e.symm];have h1:(E.setRoot r<|YR cs j<|AU c).slots n=E.slots n:=by
   cases r with
   |slot m=>simp_all [St.setRoot,B9];grind
   |_=>rfl
  rw[h1];exact GV o (h.slot n) (λ_ _=>rfl) λ_ _=>rfl
 ·intro R hm;by_cases hR:R=r
  ·subst hR;right;obtain⟨d,T,F,k1,k2,k3⟩:=z hm;refine⟨_,d,T,F,?_,k1,by rw[BF];exact k2,by rw[BF,k3]⟩
   cases R with
   |slot n=>cases hm
   |hand=>cases hm
   |box n=>simp[St.setRoot,B9]
   |ext n=>simp[St.setRoot,B9]
  rw[AQ hR,AQ hR];have h1:(E.setRoot r<|YR cs j<|AU c).boxes R=E.boxes R:=by
   cases r<;>simp only[St.setRoot,B9]<;>first
    |rfl
    |(rw[AT hR])
  rw[h1];exact h.box R hm
 ·have:(E.setRoot r<|YR cs j<|AU c).boxes .hand=E.boxes .hand:=by
   cases r<;>simp only[St.setRoot,B9]<;>first
    |exact absurd rfl hh
    |rfl
    |(rw[AT<|by simp])
  rw[this];exact h.nohand
 ·intro R;by_cases hR:R=r
  ·subst hR;rw[BF];exact hl.1.nodup<|h.nodup R
  rw[AQ hR];exact h.nodup R
 ·exact λR S h2 b hb hb'=>h.dis R S h2 b (hF R b hb)<|hF S b hb'
 ·intro R S b hb hb'
  rcases hU S b hb' with q|⟨rfl,q1,q2⟩
  ·exact h.disU R S b (hF R b hb) q
  by_cases hR:R=S
  ·grind [BF]
  exact h.dis R S hR b (hF R b hb) q1
 ·exact λR b hb=>h.inF R b<|hF R b hb
 ·intro R b hb
  rcases hU R b hb with q|⟨rfl,q1,_⟩
  ·exact h.inU R b q
  obtain⟨q2,q3⟩:=h.inF R b q1
  grind
 ·exact h.disA
 ·exact h.os
 ·exact h.tape
 ·exact h.output
 ·exact h.size
 ·exact h.keep
 ·exact h.len
 ·exact h.nodef
 ·exact h.xblk
 ·rw[D9];exact h.ambB
 ·rw[D9];exact h.ambI
 ·rw[GX];exact h.frz
 ·exact h.ambF
 rw[D9];exact h.pin
end
theorem y9 {r:Root} (h:QJ E r j=some row):∃cs e s,E.root r=some cs/\cs[j]?=some (.sl true e s row)/\frE E r j (AU row)=E.setRoot r (YR cs j (AU row)):=by grind [QI,frE]
def Xh:Root->Bool
 | .hand=>false
 |_=>true
theorem SS {r:Root} (h:Xh r=true):r≠ .hand:=by rintro rfl;cases h
theorem RW.fz (r:Root) (j:Nat) (hs:AU row=row') (h:RW P N ops i (frE E r j row') Q) (ho:QJ E r j=some row:=by kernel_rfl) (hh:Xh r=true:=by rfl):RW P N ops i E Q:=by
 intro w0 FA UA w a blk FS US hr hF hU;obtain⟨cs,e,s,h1,h2,h3⟩:=y9 ho;obtain⟨FS',US',k1,k2,k3⟩:=hr.freeze h1 h2<|SS hh;rw[<-hs,h3]at h;exact h _ _ _ _ _ _ _ _ k1 (by rw[k2,hF])<|by rw[k3,hU]
theorem KW.fz {ts:List Nat} (r:Root) (j:Nat) (hs:AU row=row') (h:KW P N ops ts dn (frE E r j row') Q) (ho:QJ E r j=some row:=by kernel_rfl) (hh:Xh r=true:=by rfl):KW P N ops ts dn E Q:=by
 intro hq hc w0 FA UA w a blk FS US hr hF hU;obtain⟨cs,e,s,h1,h2,h3⟩:=y9 ho;obtain⟨FS',US',k1,k2,k3⟩:=hr.freeze h1 h2<|SS hh;rw[<-hs,h3]at h;exact h hq hc _ _ _ _ _ _ _ _ k1 (by rw[k2,hF])<|by rw[k3,hU]
theorem Wp.fz {c:Code} (r:Root) (j:Nat) (hs:AU row=row') (h:Wp P N c (frE E r j row') Q) (ho:QJ E r j=some row:=by kernel_rfl) (hh:Xh r=true:=by rfl):Wp P N c E Q:=by
 intro w0 FA UA w a blk FS US hr hF hU;obtain⟨cs,e,s,h1,h2,h3⟩:=y9 ho;obtain⟨FS',US',k1,k2,k3⟩:=hr.freeze h1 h2<|SS hh;rw[<-hs,h3]at h;exact h _ _ _ _ _ _ _ _ k1 (by rw[k2,hF])<|by rw[k3,hU]
end Go.TI
