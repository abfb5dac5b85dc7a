/- What walks of Go code need. No condition. -/
import Derived.Test.YtacibgiakaoomaaGreatRAT1
import Derived.OrdersHeld
import Derived.Deep.Slices
import Derived.ChangeOld
import Derived.DataReads
import Derived.Lib.ReflectliteSwap
import Derived.Deep.Upon
import Derived.KernelRfl
set_option linter.unusedSimpArgs false
set_option linter.unusedVariables false
namespace Go.TI
open Go Go.RowKit
def SV.comps:SV->List SV
 | .tup ss=>ss
 |_=>[]
def St.ex (E:St) (n ix:Nat):St:={E with slots:=BM E.slots n (.tup<|(E.slots n).comps.set ix<|.one .junk)}
variable {P:Program} {E E':St} {N i sz j fuel sz' by_ d e':Nat} {ops:Array Oper} {Q:Exit->St->Prop} {α γ β α':Type} {w w':World} {dn FA UA F U:List Nat} {n n':Int} {K:St->Prop} {rest:List Oper} {as:List AV} {listed:Array Bool} {v:Value} {FS US:Root->List Nat} {fn:Func} {oo:Oper} {k k2 k1:IntKind} {blk:Root->Nat} {md:Region.Mode} {o1 o2:Operand} {A' A:QD} {y:Code} {sf:FuncId} {T:Nat->Bool} {lo:Option Operand} {G:Prop} {ss:List SV} {x:α} {f:α->List TV} {l:List α} {tx:Option β} {ty:Option β} {Am:List γ->QD} {l':List α'} {f':α'->List TV} {x':α'} {kk:α->Option β} {lt:γ->γ->Bool} {u:List α} {fin:α->List TV}
theorem AEK (n ix d:Nat) (s:SV) (h:G4 P N ops rest ((E.ex n ix).put (some d) s) Q) (hs:Ci P N false E oo=some ((E.ex n ix).put (some d) s):=by rfl) (hg:Be P ops E oo=some true:=by rfl):G4 P N ops (oo::rest) E Q:=G4.op false hg hs h
theorem EY.o (d:Nat) (s:SV) (h:EY P N ops rest (E.put (some d) s) K) (hs:Hu P E oo=some s:=by rfl) (hg:Be P ops E oo=some true:=by rfl) (hd:oo.dst=some d:=by rfl) (hN:Nat.blt d N=true:=by rfl):EY P N ops (oo::rest) E K:=
 EY.op s hg hd (by simp_all) hs h
theorem ACY {l:List Oper} {r:β} {b:Bool} (h:(bif b then tx else ty)=some r) (t:Nat) (ht:tx=some r->EY P N ops l (E.rs t true) K) (hf:ty=some r->EY P N ops l (E.rs t false) K) (hc:E.slots t=B b:=by rfl):EY P N ops l E K:=by grind [xE]
theorem Dz {f g:α->List TV} (h:∀x,Bm (f x)=g x):∀l:List α,Bm (A8 f l)=A8 g l
 |[]=>rfl
 |x::l=>by
  have c:∀a b:List TV,Bm (a++b)=Bm a++Bm b:=by
   intro a b
   induction a with
   |nil=>rfl
   |cons t ts ih=>grind [Bm]
  rw[Hp,Hp,c,h,Dz h l]
theorem Lw (h:∀x,A0 (f x)=false):∀l:List α,A0 (A8 f l)=false
 |[]=>rfl
 |x::l=>by
  have c:∀a b:List TV,A0 (a++b)=(A0 a||A0 b):=by
   intro a b
   induction a with
   |nil=>rfl
   |cons t ts ih=>grind [A0]
  rw[Hp,c,h,Lw h l];rfl
def ad (a b:Int):Int:=IntKind.i64.wrap<|a+b
def sb (a b:Int):Int:=IntKind.i64.wrap<|a-b
def ml (a b:Int):Int:=IntKind.i64.wrap<|a*b
def qu (a b:Int):Int:=IntKind.i64.wrap<|a.tdiv b
def xr (a b:Int):Int:=IntKind.u32.wrap (BitVec.ofInt 32 a^^^BitVec.ofInt 32 b).toNat
def an (a b:Int):Int:=IntKind.u32.wrap (BitVec.ofInt 32 a&&&BitVec.ofInt 32 b).toNat
def bs (l:List UInt8):ByteArray:=⟨l.toArray⟩
section
variable (P:Program) (md:Region.Mode) (ops:Array Oper) (Q:Exit->Act->World->Prop) (T:Nat->Bool)
def Tc:Nat->Array Bool->Act->World->Prop
 |0,listed,a,w=>Region.ready md ops listed=[]/\Q .normal a w
 |fuel+1,listed,a,w=>(Region.ready md ops listed=[]->Q .normal a w)/\
  ∀i∈Region.ready md ops listed,wpOp P ops Q i (λa' w'=>(T i=false->DK w w')/\Tc fuel (listed.setIfInBounds i true) a' w') a w
end
theorem XL {Q:Exit->Act->World->Prop}:∀(b:Nat) (listed:Array Bool) (a:Act) (w:World),Tc P md ops Q T b listed a w->wpAny P md ops Q b listed a w
 |0,_,_,_,h=>h
 |b+1,_,_,_,h=>⟨h.1,λi hi=>wpOp_mono (λa' w' h'=>XL b _ a' w' h'.2) (h.2 i hi)⟩
section
variable (md:Region.Mode) (ops:Array Oper)
def XN (i:Nat):Nat->Nat->Bool
 |0,_=>false
 |n+1,j=>match ops[j]? with
  |some o=>o.after.any λe=>Region.binds md e&&(e.on==i||XN i n e.on)
  |none=>false
end
def ZR (md:Region.Mode) (ops:Array Oper) (listed:Array Bool):Prop:=∀k o,ops[k]?=some o->listed.getD k false=true->∀e∈o.after,Region.binds md e=true->listed.getD e.on false=true
theorem TO (hc:ZR md ops listed):∀{n j:Nat} {o:Oper},ops[j]?=some o->(∀e∈o.after,Region.binds md e=true->listed.getD e.on false=true)->XN md ops i n j=true->listed.getD i false=true
 |0,j,o,_,_,h=>by cases h
 |n+1,j,o,ho,ha,h=>by
  simp only[XN,ho]at h;obtain⟨e,he,hb⟩:=Array.any_eq_true'.1 h;simp only[Aj,Hr,G5]at hb;have h1:=ha e he hb.1
  rcases hb.2 with h2|h2
  ·grind
  cases hk:ops[e.on]? with
  |none=>
   cases n with
   |zero=>cases h2
   |succ n=>grind [XN]
  |some ok=>exact TO hc hk (hc e.on ok hk h1) h2
theorem Jn (hc:ZR md ops listed) (hr:j∈Region.ready md ops listed):ZR md ops (listed.setIfInBounds j true):=by
 intro k o hk hl e he hb
 have a:∀m,listed.getD m false=true->(listed.setIfInBounds j true).getD m false=true:=λm hm=>getD_set_true hm
 by_cases b:k=j
 ·grind [mem_ready]
 rw[getD_set_ne false<|JO b]at hl;exact a _<|hc k o hk hl e he hb
theorem Mt {Q:Exit->Act->World->Prop} {oi:Oper} {n:Nat} (hi:ops[i]?=some oi) (l:∀(j:Nat) (o:Oper) cs b,ops[j]?=some o->o.op≠ .select cs b) (hQ:∀c a w,Q (.panic c) (a.put oi.dst v) w->Q (.panic c) a w) (h5:T i=false) (hT:∀j,T j=true->XN md ops i n j=true):
  ∀(d:Nat) (listed:Array Bool) (a:Act) (w:World),ZR md ops listed->
   (∀j oj,ops[j]?=some oj->j≠i->listed.getD j true=false->(∀e∈oj.after,Region.binds md e=true->e.on≠i)->oi.apart ops oj=true)->
   i∈Region.ready md ops listed->YieldsIf P ops (DK w) oi v a->
   Tc P md ops Q T d (listed.setIfInBounds i true) (a.put oi.dst v) w->Tc P md ops Q T (d+1) listed a w:=by
 intro d
 induction d with
 |zero=>
  intro listed a w _ _ hr hy H;refine⟨λh=>(by grind),λj hj=>?_⟩;by_cases f:j=i
  ·subst f;exact hy.wpOp hi DK.refl ⟨λ_=>DK.refl,H⟩
  have:=ready_mono hj f;rw[H.1]at this;cases this
 |succ d ih=>
  intro listed a w s g hr hy H;refine⟨λh=>(by grind),λj hj=>?_⟩;by_cases f:j=i
  ·subst f;exact hy.wpOp hi DK.refl ⟨λ_=>DK.refl,H⟩
  have h1:=H.2 j<|ready_mono hj f;obtain⟨p,oj,m,h0⟩:=mem_ready.1 hj;have h4:listed.getD i false=false:=by grind [mem_ready]
  have t:T j=false:=by grind [TO]
  have q:∀e∈oj.after,Region.binds md e=true->e.on≠i:=λe he hb h6=>by grind
  have h2:=wpOp_putIf m (g j oj m f p q) (λcs b=>l i oi cs b hi) (λcs b=>l j oj cs b m) hQ hy h1;have hfree':∀k ok,ops[k]?=some ok->k≠i->(listed.setIfInBounds j true).getD k true=false->
    (∀e∈ok.after,Region.binds md e=true->e.on≠i)->oi.apart ops ok=true:=λk ok hk u r x=>by
   refine g k ok hk u ?_ x;by_cases y:j=k
   ·grind
   rw[getD_set_ne true y]at r;exact r
  refine wpOp_mono (λa' w' h3=>⟨h3.2.1,ih (listed.setIfInBounds j true) a' w' (Jn s hj) hfree' (ready_mono hr<|JO f) ?_ ?_⟩) h2
  ·exact h3.1.imp (λ⟨p1,p2⟩=>⟨p1,λw2 z=>p2 w2<|(h3.2.1 t).trans z⟩) id
  grind [Array.setIfInBounds_comm]
def WX (P:Program) (N:Nat) (ops:Array Oper) (ts:List Nat) (b:Nat) (listed:Array Bool) (E:St) (Q:Exit->St->Prop):Prop:=(∀c E,Q (.panic c) E->False)->ZR .any ops listed->∀(w0:Base) (FA UA:List Nat) (w:World) (a:Act) (blk:Root->Nat) (FS US:Root->List Nat),Cw w0 FA UA N w a E blk FS US->FS .hand=[]->US .hand=[]->Tc P .any ops (nD w0 FA UA N Q) (λi=>ts.contains i) b listed a w
def eS (P:Program) (N:Nat) (ops:Array Oper) (ts:List Nat) (i:Nat) (E:St) (K:St->Prop) (Q:Exit->St->Prop):Prop:=∀(w0:Base) (FA UA:List Nat) (w:World) (a:Act) (blk:Root->Nat) (FS US:Root->List Nat),Cw w0 FA UA N w a E blk FS US->FS .hand=[]->US .hand=[]->
  wpOp P ops (nD w0 FA UA N Q) i (λa' w'=>(ts.contains i=false->DK w w')/\∃E' blk' FS' US',K E'/\Cw w0 FA UA N w' a' E' blk' FS' US'/\FS' .hand=[]/\US' .hand=[]) a w
theorem eS.op {ts:List Nat} (i:Nat) {o:Oper} (mv:Bool) (h:K E') (hs:Ci P N mv E o=some E') (ho:ops[i]?=some o) (hg:Be P ops E o=some true) (hk:(kp o||ts.contains i)=true):eS P N ops ts i E K Q:=by
 intro w0 FA UA w a blk FS US hr hF hU;unfold wpOp;simp only[ho,BF hr hg,CC];refine .inl<|(QN hr hF hU hs).wp λw' v blk' FS' US' k1 k2 k3 k4=>⟨λht=>k4 (by grind),_,_,_,_,h,k1,k2,k3⟩
theorem eS.call {ts:List Nat} {f:FuncId} {n:Nat} (i:Nat) {o:Oper} {args:Array Operand} {tys:Array TypeId} (hi:ops[i]?=some o) (ho:o.op= .call {callee:= .value (.func f),args:=args,argTypes:=tys}) (hf:bG P f) (hg:Be P ops E o=some true) (hN:∀d,o.dst=some d->d<N) (l:List (Bool×TypeId×Operand)) (hl:l.map (λx=>x.2.2)=args.toList) (e:(l.all (λx=>!x.1)||ts.contains i)=true) {b:SV} (c:Aw P f as b (List.replicate n .gone)) (he:XC P E o.dst l as b E') (h:K E'):eS P N ops ts i E K Q:=by
 intro w0 FA UA w a blk FS US hr hF hU;unfold wpOp;simp only[hi,BF hr hg,CC];exact .inl<|eJ hr hF hU ho hf hN hl c he λw' v blk' FS' US' k1 k2 k3 k4=>⟨λht=>k4 (by grind),_,_,_,_,h,k1,k2,k3⟩
theorem WX.done {ts:List Nat} (h:Q .normal E) (hr:Region.ready .any ops listed=[]:=by decide+kernel):WX P N ops ts fuel listed E Q:=
 λ_ _ w0 FA UA w a blk FS US k1 k2 k3=>by
  have hq:nD w0 FA UA N Q .normal a w:=⟨E,blk,FS,US,h,k1,k2,k3⟩
  cases fuel with
  |zero=>exact⟨hr,hq⟩
  |succ n=>exact⟨λ_=>hq,by rw[hr];simp⟩
section
variable {ts:List Nat}
theorem WX.all (rs:List Nat) (h:∀i∈rs,eS P N ops ts i E (λE'=>WX P N ops ts fuel (listed.setIfInBounds i true) E' Q) Q) (hr:Region.ready .any ops listed=rs) (b:rs≠ []):WX P N ops ts (fuel+1) listed E Q:=
 λhQ hc w0 FA UA w a blk FS US k1 k2 k3=>⟨λh0=>absurd (hr▸h0) b,λi hi=>by
  have hi':i∈rs:=hr▸hi
  exact wpOp_mono (λa' w' ⟨m0,E',blk',FS',US',m1,m2,m3,m4⟩=>⟨m0,m1 hQ (Jn hc hi) _ _ _ _ _ _ _ _ m2 m3 m4⟩)<|h i hi' _ _ _ _ _ _ _ _ k1 k2 k3⟩
end
def Sv (ops:Array Oper) (ts:List Nat) (n i:Nat) (listed:Array Bool):Bool:=Region.noSelect ops&&Region.free .any ops listed i&&(Region.ready .any ops listed).contains i&&!ts.contains i&&ts.all λj=>XN .any ops i n j
theorem UX {ts:List Nat} {n:Nat} (h:Sv ops ts n i listed=true):Region.noSelect ops=true/\Region.free .any ops listed i=true/\i∈Region.ready .any ops listed/\ts.contains i=false/\∀j,ts.contains j=true->XN .any ops i n j=true:=by grind [Sv]
theorem WX.take {ts:List Nat} (n i:Nat) {o:Oper} (d:Nat) (s:SV) (h:WX P N ops ts fuel (listed.setIfInBounds i true) (E.put (some d) s) Q) (hs:Hu P E o=some s) (ho:ops[i]?=some o) (f:Sv ops ts n i listed=true) (hg:Be P ops E o=some true) (hd:o.dst=some d) (hN:Nat.blt d N=true):WX P N ops ts (fuel+1) listed E Q:=by
 intro hQ hc w0 FA UA w a blk FS US k1 k2 k3;obtain⟨e1,e2,e3,e4,e5⟩:=UX f;obtain⟨v,U,h1,h2,h3⟩:=Tg k1 hs;refine Mt (v:=v) (n:=n) ho (Region.noSelect_spec e1) (λc a w hx=>?_) e4 e5 fuel listed a w hc (Region.free_spec ho e2) e3 (.inl ⟨BF k1 hg,λw2 e=>?_⟩) ?_
 ·obtain⟨E',blk',FS',US',m1,_⟩:=hx
  grind
 ·exact h1 w2 λr hr=>⟨λb hb=>e.2 b (k1.inF r b hb).2,λb hb=>e.2 b (k1.inU r b hb).2⟩
 rw[hd];refine h hQ (Jn hc e3) _ _ _ _ _ _ _ _ (k1.put (by simp_all) h2<|MO k1 h3 _) ?_ ?_
 ·grind [Bb]
 grind [Bb]
theorem iW {ts:List Nat} (n i:Nat) {o:Oper} (d:Nat) (h:WX P N ops ts fuel (listed.setIfInBounds i true) (E.put (some d) (.tup [])) Q) (ho:ops[i]?=some o) (b:Sv ops ts n i listed=true) (hg:Be P ops E o=some false) (hd:o.dst=some d) (hN:Nat.blt d N=true):WX P N ops ts (fuel+1) listed E Q:=by
 intro hQ hc w0 FA UA w a blk FS US k1 k2 k3;obtain⟨e1,e2,e3,e4,e5⟩:=UX b;refine Mt (v:=undef) (n:=n) ho (Region.noSelect_spec e1) (λc a w hx=>?_) e4 e5 fuel listed a w hc (Region.free_spec ho e2) e3 (.inr ⟨BF k1 hg,rfl⟩) ?_
 ·obtain⟨E',blk',FS',US',m1,_⟩:=hx
  grind
 rw[hd];refine h hQ (Jn hc e3) _ _ _ _ _ _ _ _ (k1.put (F:=[]) (U:=[]) (by simp_all) (by simp only[Im];exact⟨[],rfl,by simp[QH]⟩) ZQ.none) ?_ ?_
 ·grind [Bb]
 grind [Bb]
theorem qH {id:Nat} (n:Nat) (ts:List Nat) (hm:P.follows .mixedOrders=true) (hQ:∀c E,Q (.panic c) E->False) (h:WX P N ops ts n (Array.replicate n false) E Q) (hn:ops.size=n:=by rfl):Wp P N (.region id ops true) E Q:=by
 subst hn;intro w0 FA UA w a blk FS US k1 k2 k3;refine wp_region_any hm<|XL (T:=λi=>ts.contains i) _ _ _ _ ?_;obtain⟨FS',US',m1,m2,m3⟩:=k1.drop (w':={w with drawn:=w.drawn+1}) (A3 _) rfl rfl rfl λ_ _ _=>rfl;refine h hQ (λk o hk hl=>?_) _ _ _ _ _ _ _ _ m1 m2 m3;simp_all;grind
theorem WX.o {ts:List Nat} (n i d:Nat) (s:SV) {o:Oper} (h:WX P N ops ts fuel (listed.setIfInBounds i true) (E.put (some d) s) Q) (ho:ops[i]?=some o:=by rfl) (hs:Hu P E o=some s:=by rfl) (a:Sv ops ts n i listed=true:=by decide+kernel) (hg:Be P ops E o=some true:=by rfl) (hd:o.dst=some d:=by rfl) (hN:Nat.blt d N=true:=by rfl):WX P N ops ts (fuel+1) listed E Q:=WX.take n i d s h hs ho a hg hd hN
theorem ADa {ts:List Nat} {r:β} {b:Bool} (h:(bif b then tx else ty)=some r) (t:Nat) (ht:tx=some r->WX P N ops ts fuel listed (E.rs t true) Q) (hf:ty=some r->WX P N ops ts fuel listed (E.rs t false) Q) (hc:E.slots t=B b:=by rfl):WX P N ops ts fuel listed E Q:=by grind [xE]
theorem eS.o {ts:List Nat} (i d:Nat) (s:SV) {o:Oper} (h:K (E.put (some d) s)) (ho:ops[i]?=some o:=by rfl) (hs:Ci P N false E o=some (E.put (some d) s):=by rfl) (hg:Be P ops E o=some true:=by rfl) (hk:(kp o||ts.contains i)=true:=by rfl):eS P N ops ts i E K Q:=eS.op i false h hs ho hg hk
theorem eS.b {ts:List Nat} (i:Nat) (m:List (Root×List TV)) (d:Nat) (xs:List TV) {o:Oper} (h:K ((mvs E m).newBox d xs)) (ho:ops[i]?=some o:=by rfl) (hs:Ci P N false E o=some ((mvs E m).newBox d xs):=by rfl) (hg:Be P ops E o=some true:=by rfl) (hk:(kp o||ts.contains i)=true:=by rfl):eS P N ops ts i E K Q:=eS.op i false h hs ho hg hk
theorem AEL {ts:List Nat} (i:Nat) (mv:Bool) (m:List (Root×List TV)) (d:Nat) (s:SV) {o:Oper} (h:K ((mvs E m).put (some d) s)) (ho:ops[i]?=some o:=by rfl) (hs:Ci P N mv E o=some ((mvs E m).put (some d) s):=by rfl) (hg:Be P ops E o=some true:=by rfl) (hk:(kp o||ts.contains i)=true:=by rfl):eS P N ops ts i E K Q:=eS.op i mv h hs ho hg hk
theorem AEM {ts:List Nat} (i n ix d:Nat) (s:SV) {o:Oper} (h:K ((E.ex n ix).put (some d) s)) (ho:ops[i]?=some o:=by rfl) (hs:Ci P N false E o=some ((E.ex n ix).put (some d) s):=by rfl) (hg:Be P ops E o=some true:=by rfl) (hk:(kp o||ts.contains i)=true:=by rfl):eS P N ops ts i E K Q:=eS.op i false h hs ho hg hk
def oI (n:Int):Prop:= -9223372036854775808<=n/\n<=9223372036854775807
def oK (k:IntKind) (n:Int):Prop:=k.min<=n/\n<=k.max
def ol (o:α->Prop) (l:List α):Prop:=l.length<=9223372036854775807/\∀x∈l,o x
def eP (P:Program) (t:TypeId) (c:α->List TV) (o:α->Prop):Prop:=∀{H:Type} (enc:TypeId×Value->H) (w:World) (d:Nat) (e:Nat) (cs:List Value) (x:DataW H×List MemPlace),DataW.trod enc P w d (λ_=>true) true e t cs=some x->
  ∃a U,o a/\Bv w (c a) cs [] U/\∀b∈U,b<w.heap.size
theorem NR {t:TV} (h:Dl w t v F U):Bv w [t] [v] F U:=by simp_all [Bv];grind
theorem uI {t:TypeId} (ht:P.underlying t=some (.int k)):eP P t (λn:Int=>[.int k n]) (λn=>k.min<=n/\n<=k.max):=by
 intro H enc w b a cs x h
 cases a with
 |zero=>simp[DataW.trod]at h
 |succ a=>
  simp only[DataW.trod,ht]at h;split at h<;>rename_i h1<;>try grind
  all_goals first|(cases h;done)|skip
  rename_i k' n;split at h
  ·rename_i hk;simp only[Ay,TypeDesc.int.injEq]at h1;subst h1;obtain⟨rfl,hw⟩:=hk;simp only[Lit.wf,Aj,AZ]at hw;exact⟨n,[],hw,NR (by simp[Dl]),by simp⟩
  cases h
theorem kW {t e:TypeId} {c:α->List TV} {o:α->Prop} (ht:P.underlying t=some (.slice e)) (p:P.cellsOf e=sz) (h0:0<sz) (hc:∀a,(c a).length=sz) (h:eP P e c o):
  eP P t (λl:List α=>[.sl false e sz (A8 c l)]) (λl=>l.length<=9223372036854775807/\∀a∈l,o a):=by
 intro H enc w d s cs x hx
 rcases Go.Deep.open_slice ht hx with⟨rfl,_⟩|⟨a,len,cap,m,n,D,Pl,rfl,hb,f,z,hm,_,g⟩
 ·refine⟨[],[],⟨by simp,by simp⟩,NR ?_,by simp⟩;simp only[Dl];exact⟨none,0,0,[],[],[],rfl,A3 _,by simp,λi u hi=>by simp at hi,by simp[A8,Bv],by simp,by simp,by simp⟩
 simp only[CC]at hm;have q:∀k,k<=len->∃(l:List α) (vs:List Value) (U:List Nat),l.length=k/\(∀a∈l,o a)/\vs.length=k*sz/\Bv w (A8 c l) vs [] U/\(∀i u,vs[i]?=some u->w.cell? (a.add i)=some u)/\∀b∈U,b<w.heap.size:=by
  intro k
  induction k with
  |zero=>simp[A8,Bv]
  |succ k ih=>
   intro hk;obtain⟨l,vs,U,h1,h2,h3,h4,h5,h6⟩:=ih (by omega);obtain⟨cs',k1,k2⟩:=g k (by omega);obtain⟨y,V,g1,g2,g3⟩:=h enc w d n cs' _ k2;obtain⟨_,k3,k4⟩:=World.cells?_some k1;rw[p]at k1 k3 k4;refine⟨l++ [y],vs++cs',U++V,by simp[h1],?_,?_,?_,?_,?_⟩
   ·grind
   ·grind
   ·grind [J8,A8]
   ·intro i u hi;by_cases h7:i<vs.length
    ·grind
    rw[Dt<|by omega]at hi;have j:i-vs.length<sz:=by grind
    have:=k4 (i-vs.length) j
    grind [iP]
   grind
 obtain⟨l,vs,U,h1,h2,h3,h4,h5,h6⟩:=q len<|A3 _;have h8:len<=9223372036854775807:=by grind [maxLen]
 by_cases r:len=0
 ·subst r;have:vs=[]:=Bf (by omega);subst this;refine⟨l,U,⟨by omega,h2⟩,NR ?_,h6⟩;exact⟨some a,0,cap,[],U,[],rfl,f,by simp,λi u hi=>by simp at hi,h4,by simp,by simp,by simp⟩
 have v:a.block<w.heap.size:=by
  obtain⟨cs',k1,_⟩:=g 0 (by omega);have:=World.cells?_block k1<|by omega
  grind [MQ]
 refine⟨l,a.block::U,⟨by omega,h2⟩,NR ?_,?_⟩
 ·exact⟨some a,len,cap,vs,U,[a.block],rfl,f,h3,λi u hi=>⟨a,len,cap,rfl,h5 i u hi⟩,h4,by simp,.inl (by simp[B5,Value.ownBlock]),by simp⟩
 grind
theorem ABG {u:α->TV} {H:Type} {d:DataW H} {ps:List MemPlace} {t:TypeId} {o:α->Prop} {enc:TypeId×Value->H} (h:eP P t (λa=>[u a]) o) (hv:v.cells= #[v]) (k:DataW.Trod enc P w 0 (λ_=>true) true t v d ps):
  ∃a U,o a/\i8 w (.one (u a)) v [] U/\∀b∈U,b<w.heap.size:=by
 obtain⟨n,hn⟩:=k;obtain⟨a,U,h1,h2,h3⟩:=h enc w 0 n _ _ hn;rw[hv]at h2;obtain⟨v',c,F1,F2,U1,U2,e,hF,hU,h4,rfl,rfl,rfl⟩:=h2
 injection e with e _
 subst e;obtain⟨rfl,_⟩:=IZ.1 hF.symm;refine⟨a,U1,h1,?_,by simpa[hU]using h3⟩
 grind [i8]
theorem yK {r:Reach} {a:Nat} {t:TypeId} (h:Value.okWide P w r a t v) (h1:∀fs,P.underlying t≠some (.struct fs)) (h2:∀n e,P.underlying t≠some (.array n e)):v.cells= #[v]:=by
 unfold Value.okWide at h;split at h
 ·grind
 ·grind
 unfold Cell.okWide at h;cases v<;>first|rfl|skip
 simp_all [Cell.ok]
def St.without (E:St) (r:Root):St:={E with boxes:=BM E.boxes r none,ver:=BM E.ver r<|E.ver r+1,gen:=BM E.gen r (E.gen r+1)}
theorem eT {r s:Root} (h:s≠r):(E.without r).root s=E.root s:=by simp_all [St.without,St.root,BM];grind
theorem Cw.without {w0:Base} {a:Act} (h:Cw w0 FA UA N w a E blk FS US) (hF:FS .hand=[]) (hU:US .hand=[]) {r:Root} (hm:r.mem=true):
  Cw w0 FA UA N w a (E.without r) blk (BM (BM FS r []) .hand (FS r)) (BM (BM US r []) .hand (US r)):=by
 have c:r≠ .hand:=by rintro rfl;cases hm
 have d:∀s,BR w w a a E (E.without r) blk blk s:=by
  intro s;by_cases hs:s=r
  ·subst hs;exact⟨.inl (by simp[St.without,BM]),.inl<|by simp[St.without,BM]⟩
  by_cases hh:s= .hand
  ·subst hh;exact FB (by simp_all [St.without,BM]) (by simp_all [St.without,BM])<|by simp[St.root,h.nohand]
  exact D7 h (by simp_all [St.without,BM]) (by simp_all [St.without,BM]) (eT hs) (λ_ _=>rfl) (λ_=>rfl) (λ_ _=>rfl) λ_ _=>rfl
 refine h.two (r1:=r) (r2:= .hand) (L1:=[]) (L2:=FS r) (V1:=[]) (V2:=US r) c (by simpa using h.nodup r) (λb hb=>⟨.inl (by simpa using hb),(h.inF r b<|by simpa using hb).2⟩)
  (λb hb=> .inl ⟨r,by simpa using hb⟩) (A3 _) rfl rfl rfl (λ_ _ _ _=>rfl) d (λn _ _=>⟨rfl,rfl⟩) (λs _ hs _=>⟨by simp_all [St.without,BM],rfl⟩) ?_ trivial ?_ h.len h.nodef
 ·cases r with
  |slot n=>cases hm
  |hand=>cases hm
  |box n=>exact .inl ⟨by simp[St.without,BM],rfl,rfl⟩
  |ext n=>exact .inl ⟨by simp[St.without,BM],rfl,rfl⟩
 simp[St.without,BM,JO c,h.nohand]
theorem YC {a:Act}:∀{l:List (Bool×TypeId×Operand)},yX w a l (List.replicate l.length none) [] []
 |[]=>⟨rfl,rfl⟩
 |_::l=>YC (l:=l)
section
variable {w0:Base} {a:Act}
theorem mQ {f:FuncId} {x:Operand} {l:List (Bool×TypeId×Operand)} {n:Nat} {K:Act->World->Prop} {Q:Exit->Act->World->Prop} (h:Cw w0 FA UA N w a E blk FS US) (hF:FS .hand=[]) (hU:US .hand=[]) {o:Oper} {args:Array Operand} {tys:Array TypeId} (ho:o.op= .call {callee:= .value (.func f),args:=args,argTypes:=tys}) (hf:bG P f) (hN:∀d,o.dst=some d->d<N) (hl:x::l.map (λx=>x.2.2)=args.toList) {r:Root} (hm:r.mem=true) (hx:E.ptr? x=some (r,[],0)) {cells cells':List TV} (hc:E.boxes r=some cells) (b5:cells'.length=cells.length) {res:SV} {c:Bool} (a8:Jf P (E.without r) l (List.replicate l.length none)=some (as,c)) (h0:c=true\/AI res=false/\A0 cells'=false) (hg:Aw P f (.ext cells::as) res (.ext cells'::List.replicate n .gone)) (hK:∀w' v blk' FS' US',Cw w0 FA UA N w' (a.put o.dst v) (((E.setRoot r cells').bump r).put o.dst res) blk' FS' US'->FS' .hand=[]->US' .hand=[]->K (a.put o.dst v) w'):o.wp P a w K Q:=by
 have h9:r≠ .hand:=by rintro rfl;cases hm
 have k2:=h.without hF hU hm;obtain⟨U',k5,k6⟩:=KI k2 YC a8;have a0:∃i T F,w.heap[blk r]?=some (.cells i T (0,0))/\Bv w cells i.toList F (US r)/\FS r=blk r::F:=by
  rcases h.box r hm with⟨h1,_⟩|⟨cs,i,T,F,h1,h2,h3,h4⟩
  ·grind
  grind
 obtain⟨i,T,F,b2,b3,b4⟩:=a0;obtain⟨b6,ad,b7,a1⟩:=Kd h hx;have a9:ad=⟨blk r,0,none⟩:=by simp_all [pa,Addr.add];grind
 subst a9;have a2:cells≠ []:=by
  rintro rfl
  cases r with
  |slot n=>cases hm
  |hand=>cases hm
  |box n=>grind [St.place,St.root,B7]
  |ext n=>grind [St.place,St.root,B7]
 have a3:a.eval x::l.map (λx=>a.eval x.2.2)=(args.map a.eval).toList:=by
  rw[OZ,<-hl,CJ,IY];rfl
 have k:KA w (.ext cells::as) (args.map a.eval).toList (FS r++ []) (US r++U'):=by
  rw[<-a3];exact⟨_,_,FS r,[],US r,U',rfl,rfl,rfl,⟨blk r,i,T,F,a1,b2,b3,b4,a2⟩,k5⟩
 rw[AO]at k;have b8:∀s b,b∈BM (BM US r []) .hand (US r) s->∃s',b∈US s':=by
  intro s b hb;by_cases hs:s= .hand
  ·grind [BQ]
  rw[Bb hs]at hb;by_cases b0:s=r
  ·grind [BQ]
  grind [Bb]
 have c0:∀s b,s≠ .hand->b∈BM (BM FS r []) .hand (FS r) s->s≠r/\b∈FS s:=by
  intro s b hs hb;rw[Bb hs]at hb;by_cases b0:s=r
  ·grind [BQ]
  grind [Bb]
 have k6':∀b∈U',(∃s,b∈US s)\/(c=false/\∃s,s≠r/\b∈FS s):=by grind
 have y:∀b∈FS r,b∉US r++U':=by
  intro b hb hb'
  rcases Az.1 hb' with hb'|hb'
  ·exact h.disU r r b hb hb'
  rcases k6' b hb' with⟨s,h4⟩|⟨_,s,h5,h4⟩
  ·exact h.disU r s b hb h4
  exact h.dis r s (JO h5) b hb h4
 have m:=hg w _ (FS r) (US r++U') k (h.nodup r) y (by
  intro b hb
  rcases Az.1 hb with hb|hb
  ·exact(h.inF r b hb).2
  rcases Az.1 hb with hb|hb
  ·exact(h.inU r b hb).2
  rcases k6' b hb with⟨s,h4⟩|⟨_,s,h5,h4⟩
  ·exact(h.inU s b h4).2
  exact(h.inF s b h4).2)
 unfold Oper.wp;rw[HM ho hf];simp only[Oper.upon];rw[Array.toArray_toList]at m;refine Calls.mono m ?_;rintro e w' ⟨v,Fr,Ur,G,V,rfl,g⟩;have p:=g.fin;rw[<-a3]at p;simp only[KA]at p;obtain⟨v1,vs1,G1,G2,V1,V2,e1,rfl,rfl,⟨b,cur',T',F0,g1,g2,g3,rfl,g5⟩,z⟩:=p;obtain⟨rfl,rfl⟩:=T9 z
 injection e1 with e1 e2
 rw[<-e1,a1]at g1
 injection g1 with g1
 injection g1 with g1
 injection g1 with g1
 subst g1;have a4:=g.nodup;have a5:=g.dis;have t:=g.inF;have u:=g.inU;simp only[AO]at a4 a5 t u;have hV:∀b∈Ur++V1,(∃s,b∈US s)\/((b∈FS r\/w.heap.size<=b)/\b<w'.heap.size):=by
  intro b hb;obtain⟨h4,h5⟩:=u b hb
  rcases h4 with h4|h4|h4
  ·rcases Az.1 h4 with h4|h4
   ·grind
   rcases k6' b h4 with h6|⟨h6,s,h7,h8⟩
   ·exact .inl h6
   rcases h0 with h0|⟨c1,c2⟩
   ·grind
   have n1:=QK g.res c1
   grind [Kc]
  ·grind
  omega
 have a7:∀j,((E.setRoot r cells').bump r).place r [] j=cells'[j]? :=by
  intro j
  cases r with
  |slot n=>cases hm
  |hand=>cases hm
  |box n=>simp[St.place,St.bump,St.setRoot,St.root,BM,B7]
  |ext n=>simp[St.place,St.bump,St.setRoot,St.root,BM,B7]
 have a6:∀j,E.place r [] j=cells[j]? :=by
  intro j
  cases r with
  |slot n=>cases hm
  |hand=>cases hm
  |box n=>grind [St.place,St.root,B7]
  |ext n=>grind [St.place,St.root,B7]
 let E1:St:=(E.setRoot r cells').bump r
 have ev:∀s,s≠r->E1.ver s=E.ver s:=by
  intro s hs;cases r<;>simp[E1,St.bump,St.setRoot,BM,hs]
 have evr:E1.ver r=E.ver r+1:=by cases r<;>simp[E1,St.bump,St.setRoot,BM]
 have eg:∀s,E1.gen s=E.gen s:=by intro s;cases r<;>rfl
 have er:∀s,s≠r->E1.root s=E.root s:=by
  intro s hs
  cases r with
  |slot n=>cases hm
  |hand=>cases hm
  |box n=>cases s<;>simp[E1,St.bump,St.setRoot,St.root,BM,hs]
  |ext n=>cases s<;>simp[E1,St.bump,St.setRoot,St.root,BM,hs]
 have es:∀n,E1.slots n=E.slots n:=by
  intro n
  cases r with
  |slot n=>cases hm
  |hand=>cases hm
  |box n=>rfl
  |ext n=>rfl
 have eb:∀s,E1.boxes s=if s=r then some cells' else E.boxes s:=by
  intro s
  cases r with
  |slot n=>cases hm
  |hand=>cases hm
  |box n=>rfl
  |ext n=>rfl
 have b1:∀s,BR w w' a a E E1 blk blk s:=by
  intro s;by_cases hs:s=r
  ·subst hs;refine⟨.inl (by rw[evr];omega),.inr ⟨eg s,λj ad hv hp=>?_⟩⟩;refine⟨(by cases s<;>first|exact hv|(cases hm)),?_⟩
   grind
  by_cases hh:s= .hand
  ·subst hh;exact FB (ev _ hs) (eg _)<|by simp[St.root,h.nohand]
  exact D7 h (ev s hs) (eg s) (er s hs) (λ_ _=>rfl) (λ_=>rfl)
   (λb hb=>g.keep b (h.inF s b hb).2<|h.dis s r hs b hb) (λb hb=>g.keep b (h.inU s b hb).2 λe=>h.disU r s b e hb)
 have k7:=h.two (w':=w') (a':=a) (E':=E1) (blk':=blk) (r1:=r) (r2:= .hand) (L1:=blk r::F0) (L2:=Fr) (V1:=V1) (V2:=Ur) h9
  (by grind)
  (λb hb=>by
   grind)
  (λb hb=>by grind)
  g.size g.os g.tape g.output (λb hb q _=>g.keep b hb q) b1 (λn _ _=>⟨es n,rfl⟩) (λs _ hs _=>⟨by grind,rfl⟩)
  (by
   have:Gu w' a E1 blk r (blk r::F0) V1:=by
    have:=eb r;rw[BE rfl]at this
    cases r with
    |slot n=>cases hm
    |hand=>cases hm
    |box n=>exact .inr ⟨cells',cur',T',F0,this,g2,g3,rfl⟩
    |ext n=>exact .inr ⟨cells',cur',T',F0,this,g2,g3,rfl⟩
   exact this)
  trivial (by rw[eb,Bi<|JO h9];exact h.nohand) h.len h.nodef (hfz:=by
   intro n hn;have e:((E.setRoot r cells').bump r).fz=E.fz:=by rw[Qm,H6]
   exact h.frz n<|e▸hn) (hamb:=by rw[Me,Ek])
 have kh:(BM (BM FS r (blk r::F0)) .hand Fr) .hand=Fr:=BQ _ _ _;have kh2:(BM (BM US r V1) .hand Ur) .hand=Ur:=BQ _ _ _
 cases hd:o.dst with
 |some d=>
  obtain⟨FS',US',q1,q2,q3⟩:=k7.land (w':=w') (d:=d) (s:=res) (v:=v) (F:=Fr) (U:=Ur) (hN d hd) (MV g.res) (Dg.1 a4).1
   (λb hb=>⟨.inl (by rw[kh];exact hb),(t b<|BT _ hb).2⟩) (λb hb=> .inl ⟨.hand,by grind⟩) (A3 _) rfl rfl rfl (λ_ _ _=>rfl)
  grind
 |none=>
  obtain⟨FS',US',q1,q2,q3⟩:=k7.drop (w':=w') (A3 _) rfl rfl rfl λ_ _ _=>rfl;have:=hK w' v blk FS' US' (by rw[hd];exact q1) q2 q3
  grind
end
theorem Zf {f:FuncId} (A:Nat->QD) (hA:∀b,(A b).B=[]/\(∀w,(A b).I w)/\∀c,(A b).pin=some c->c=b) {c:Code} {cells cells':List TV} {res:SV} (hf:P.funcs[f]?=some fn) (hb:fn.body=some c) (h:∀b,Wp P fn.ntmps c (Dr (.ext cells::as) (A b)) λe E=>(e= .normal\/e= .ret)/\∃ss E',DC P E fn.results.toList=some (ss,E')/\Eh ss=res/\E'.boxes (.ext 0)=some cells') (r:cells'.isEmpty=false):
  Aw P f (.ext cells::as) res (.ext cells'::List.replicate as.length .gone):=by
 intro w vs FA UA ha k j l;have ha':=ha;obtain⟨v0,vs0,F1,F2,U1,U2,rfl,rfl,rfl,⟨b0,cur0,T0,F0,rfl,_,_,rfl,_⟩,s⟩:=ha;obtain⟨blk,FS,US,hr,hF,hU⟩:=RH (N:=fn.ntmps) ha' k j l (A:=A b0) ((hA b0).2.1 w) (λb hb=>by grind) (hpin:=λc hc=>((hA b0).2.2 c hc).symm);refine calls_of_wp hf hb<|wp_mono (h b0 _ _ _ _ _ _ _ _ hr hF hU) ?_;rintro e a w' ⟨E,blk',FS',US',⟨he,ss,E',h1,rfl,o⟩,h2,h3,h4⟩;obtain⟨us,FS2,US2,F,U,k1,k2,k3,k4,k5⟩:=LP h2 h1;rw[h3,A5]at k4;rw[h4,A5]at k5;have i:∀(n:Nat) (vs:List Value),vs.length=n->KA w' (List.replicate n .gone) vs [] []:=by
  intro n
  induction n with
  |zero=>intro vs hv;simp at hv;subst hv;exact⟨rfl,rfl,rfl⟩
  |succ n ih=>
   intro vs hv
   cases vs with
   |nil=>simp at hv
   |cons v vs=>exact⟨v,vs,[],[],[],[],rfl,rfl,rfl,⟨rfl,rfl⟩,ih vs<|by simpa using hv⟩
 have m:vs0.length=as.length:=by grind [S1]
 have p:blk' (.ext 0)=b0:=by
  rw[k3.xblk];rfl
 obtain⟨d,T,F3,b2,b3,b4⟩:∃d T F3,w'.heap[b0]?=some (.cells d T (0,0))/\Bv w' cells' d.toList F3 (US2<|.ext 0)/\FS2 (.ext 0)=b0::F3:=by
  rcases k3.box (.ext 0) rfl with⟨q,_⟩|⟨cs,d,T,F3,q1,q2,q3,q4⟩
  ·grind
  grind
 have hne':cells'≠ []:=by grind
 have g:a.defers=[]/\∃v,(results fn a.tmps).run P w'= .ok v w'/\∃v' F U G V,Ending.returned v= .returned v'/\AAx w w' ((b0::F0)++F2) (U1++U2) (Eh ss) (.ext cells'::List.replicate as.length .gone) (.pointer (some ⟨b0,0,none⟩)::vs0) v' F U G V:=by
  refine⟨h2.nodef,_,NQ k1,_,F,U,FS2<|.ext 0,US2<|.ext 0,rfl,?_⟩
  exact{
   res:=Ri k2
   fin:=⟨_,vs0,FS2<|.ext 0,[],US2<|.ext 0,[],rfl,by simp,by simp,⟨b0,d,T,F3,rfl,b2,b3,b4,hne'⟩,i _ _ m⟩
   nodup:=by
    rw[<-k4,Dg];exact⟨k3.nodup _,k3.nodup _,λx hx y hy e=>k3.dis .hand (.ext 0) (by simp) x hx<|e▸hy⟩
   dis:=by
    intro b hb hb';rw[<-k4]at hb;rw[<-k5]at hb'
    rcases Az.1 hb with hb|hb<;>rcases Az.1 hb' with hb'|hb'
    ·exact k3.disU .hand .hand b hb hb'
    ·exact k3.disU .hand (.ext 0) b hb hb'
    ·exact k3.disU (.ext 0) .hand b hb hb'
    exact k3.disU (.ext 0) (.ext 0) b hb hb'
   inF:=by
    intro b hb;rw[<-k4]at hb
    rcases Az.1 hb with hb|hb
    ·exact k3.inF .hand b hb
    exact k3.inF (.ext 0) b hb
   inU:=by
    intro b hb;rw[<-k5]at hb
    rcases Az.1 hb with hb|hb
    ·exact k3.inU .hand b hb
    exact k3.inU (.ext 0) b hb
   os:=k3.os
   tape:=k3.tape
   output:=k3.output
   size:=k3.size
   keep:=λb hb hF=>k3.keep b hb hF (λe=>by grind)}
 rcases he with rfl|rfl
 ·exact g
 exact g
theorem u0 {f:FuncId} {c:Code} {a cells':List TV} {b:SV} (hf:P.funcs[f]?=some fn) (hb:fn.body=some c) (h:Wp P fn.ntmps c (Dr (.ext a::as)) λe E=>(e= .normal\/e= .ret)/\∃ss E',DC P E fn.results.toList=some (ss,E')/\Eh ss=b/\E'.boxes (.ext 0)=some cells') (d:cells'.isEmpty=false):
 Aw P f (.ext a::as) b (.ext cells'::List.replicate as.length .gone):=Zf (λ_=>QD.none) (λ_=>⟨rfl,λ_=>trivial,λ_ h=>by cases h⟩) hf hb (λ_=>h) d
def kR (b:Nat):QD:={QD.none with pin:=some b}
theorem AA2 (b:Nat):(kR b).B=[]/\(∀w,(kR b).I w)/\∀c,(kR b).pin=some c->c=b:=⟨rfl,λ_=>trivial,λc h=>by injection h with h;exact h.symm⟩
theorem AEi {len:Nat} {o:Oper} {m:Nat} (r:Root) (q:List Nat) (j:Nat) (hn:n=(m:Int)) {t e:TypeId} {a i:Operand} (ho:o.op= .indexAddr t a i:=by rfl) (ht:P.underlying t=some (.array len e):=by rfl) (hi:E.cell1 P 0 i=some (.int k n):=by rfl) (hp:E.ptr? a=some (r,q,j):=by rfl) (hc:P.cellsOf e=1:=by rfl) (hl:Nat.blt m len=true:=by rfl) (hs:(E.place r q<|j+m).isSome=true:=by rfl):AK P E o=some (.one<|.ptr r (E.stamp r q) q<|j+m):=by simp_all [AK]
def EZ (l:List Int):ByteArray:=strOfNums l
theorem Ve {f:Int->List TV} (hf:∀n,f n=[.int .u8 n]):∀l,Og (A8 f l)=some l
 |[]=>rfl
 |n::l=>by
  have:A8 f (n::l)=f n++A8 f l:=by simp[A8]
  rw[this,hf];simp only[JM,Og,Ve hf l,Hq]
theorem AEo {f:Int->List TV} {x:Operand} {o:Oper} (hf:∀n,f n=[.int .u8 n]) (l:List Int) {s d e e':TypeId} {a:Bool} {r:Root} {q:List Nat} (ho:o.op= .convert s d x:=by rfl) (hs:P.underlying s=some (.slice e):=by rfl) (hd:P.underlying d=some .string:=by rfl) (he:P.underlying e=some (.int .u8):=by rfl) (hr:E.ref x=some (r,q,j):=by rfl) (hp:E.place r q j=some (.sl a e' 1<|A8 f l):=by rfl):AK P E o=some (.one<|.str<|EZ l):=by
 simp only[AK,ho,hs,hd,he,hr,hp,CC,Ve hf,Hq];rfl
def shl (k:IntKind) (a b:Int):Option Int:=if b<0 then none else some<|k.wrap<|a*2^(min b.toNat k.bits)
theorem ADv {x y:Operand} {o:Oper} {a b v:Int} (h:shl k a b=some v) {t t2:TypeId} (ho:o.op= .binOp .shl t x y t2:=by rfl) (hx:E.cell1 P t x=some (.int k a):=by rfl) (hy:E.cell1 P t y=some (.int k2 b):=by rfl):AK P E o=some (.one<|.int k v):=by grind [shl,AK,Wa,WN]
def dr (l:List α) (lo hi:Int):Option (List α):=if 0<=lo/\lo<=hi/\hi<=l.length then some ((l.drop lo.toNat).take<|hi.toNat-lo.toNat)else none
theorem VT (hf:∀x,(f x).length=sz):∀(l:List α) (n:Nat),(A8 f l).take (n*sz)=A8 f (l.take n)
 |l,0=>by simp[A8]
 |[],n+1=>by simp[A8]
 |x::l,n+1=>by
  have h1:A8 f (x::l)=f x++A8 f l:=by simp[A8]
  have h2:A8 f (x::l.take n)=f x++A8 f (l.take n):=by simp[A8]
  rw[h1,Lo,Nat.add_comm,List.take_append,hf x,Nat.add_sub_cancel_left,VT hf l n,List.take_succ_cons,h2,AQ (by rw[hf x];omega)]
theorem AEn {v:List α} {x oh:Operand} {o:Oper} (hf:∀x,(f x).length=sz) {a b:Int} (h:dr l a b=some v) {t e e':TypeId} {r:Root} {q:List Nat} (ho:o.op= .slice t x lo (some oh) none:=by rfl) (ht:P.underlying t=some (.slice e):=by rfl) (hr:E.ref x=some (r,q,j):=by rfl) (hp:E.place r q j=some (.sl false e' sz<|A8 f l):=by rfl) (hl:(match lo with|some o=>E.cell1 P 0 o|none=>some<|.int .i64 0)=some (.int k1 a):=by rfl) (hh:E.cell1 P 0 oh=some (.int k2 b):=by rfl) (c:P.cellsOf e=sz:=by rfl) (h0:Nat.blt 0 sz=true:=by rfl):AK P E o=some (.one<|.sl false e' sz<|A8 f v):=by
 have h0':0<sz:=by simp_all
 unfold dr at h;split at h
 ·rename_i hc
  injection h with h
  subst h;have hl':∀lo':Option TV,lo'=some (.int k1 a)->(match lo',E.cell1 P 0 oh with|some (.int _ l0),some (.int _ h0)=>if sz=P.cellsOf e/\0<sz/\0<=l0/\l0<=h0/\h0.toNat*sz<=(A8 f l).length then some (SV.one<|.sl false e' sz<|((A8 f l).drop<|l0.toNat*sz).take<|(h0.toNat-l0.toNat)*sz)else none|_,_=>none)=some (SV.one<|.sl false e' sz<|A8 f<|(l.drop a.toNat).take<|b.toNat-a.toNat):=by simp_all [Ep,JI,VT]
  simp only[AK,ho,ht,hr,hp];exact hl' _ hl
 cases h
theorem ADy {v:List α} {x:Operand} {o:Oper} (hf:∀x,(f x).length=sz) {a:Int} (h:dr l a (ln l)=some v) {t e e':TypeId} {r:Root} {q:List Nat} (ho:o.op= .slice t x lo none none:=by rfl) (ht:P.underlying t=some (.slice e):=by rfl) (hr:E.ref x=some (r,q,j):=by rfl) (hp:E.place r q j=some (.sl false e' sz<|A8 f l):=by rfl) (hl:(match lo with|some o=>E.cell1 P 0 o|none=>some<|.int .i64 0)=some (.int k1 a):=by rfl) (c:P.cellsOf e=sz:=by rfl) (h0:Nat.blt 0 sz=true:=by rfl):AK P E o=some (.one<|.sl false e' sz<|A8 f v):=by
 have h0':0<sz:=by simp_all
 have b:(A8 f l).length/sz=l.length:=by simp_all [Ep]
 unfold dr at h;split at h
 ·rename_i hc
  injection h with h
  subst h;have hl':∀lo':Option TV,lo'=some (.int k1 a)->(match lo',some (TV.int .i64 (((A8 f l).length/sz:Nat):Int))with|some (.int _ l0),some (.int _ h0)=>if sz=P.cellsOf e/\0<sz/\0<=l0/\l0<=h0/\h0.toNat*sz<=(A8 f l).length then some (SV.one<|.sl false e' sz<|((A8 f l).drop<|l0.toNat*sz).take<|(h0.toNat-l0.toNat)*sz)else none|_,_=>none)=some (SV.one<|.sl false e' sz<|A8 f<|(l.drop a.toNat).take<|((l.length:Nat):Int).toNat-a.toNat):=by simp_all [Ep,JI,VT];grind
  simp only[AK,ho,ht,hr,hp];exact hl' _ hl
 cases h
theorem iI {x y:Option β} {b:Bool} {r:β} (h:(bif b then x else y)=some r) (h1:b=true->x=some r->G) (h2:y=some r->G):G:=by grind
def tW (b:ByteArray):List Int:=b.data.toList.map λc=>(c.toNat:Int)
def aps (l:List Int) (b:ByteArray):Option (List Int):=if l.length+b.size<=140737488355328 then some (l++tW b)else none
theorem Wm {f:Int->List TV} (hf:∀n,f n=[.int .u8 n]) (b:ByteArray):Vw b=A8 f (tW b):=by
 unfold Vw tW
 induction b.data.toList with
 |nil=>rfl
 |cons c l ih=>grind [A8]
theorem AEd {o:Oper} {f:Int->List TV} {x:Operand} (hf:∀n,f n=[.int .u8 n]) {b:ByteArray} {src dst e:TypeId} (ho:o.op= .convert src dst x:=by rfl) (hd:o.dst=some d:=by rfl) (hN:Nat.blt d N=true:=by rfl) (hs:P.underlying src=some .string:=by rfl) (a:P.underlying dst=some (.slice e):=by rfl) (hx:E.cell1 P src x=some (.str b):=by rfl) (c:lI P e=true:=by rfl):Ci P N false E o=some (E.put (some d)<|.one<|.sl false e 1<|A8 f<|tW b):=by
 have hN':d<N:=by simp_all
 unfold Ci
 grind [Wm,Sw]
structure Gb (w w':World) (B:List Nat):Prop where
 os:w'.os=w.os
 tape:w'.tape=w.tape
 output:w'.output=w.output
 size:w.heap.size<=w'.heap.size
 keep:∀b,b<w.heap.size->b∉B->w'.heap[b]?=w.heap[b]?
theorem Cw.beside {w0:Base} {a:Act} (h:Cw w0 FA UA N w a E blk FS US) (hb:Gb w w' w0.B) (hB:A'.B=E.amb.B) (hI:A'.I w') (hP:∀b,A'.pin=some b->E.amb.pin=some b):Cw w0 FA UA N w' a {E with amb:=A'} blk FS US:=by
 have hF:∀r,∀b∈FS r,w'.heap[b]?=w.heap[b]? :=λr b hx=>hb.keep b (h.inF r b hx).2 (λe=>by
  obtain⟨h1,h2,h3⟩:=h.ambF b e
  rcases(h.inF r b hx).1 with h4|h4
  ·exact h2 h4
  omega)
 have hU:∀r,∀b∈US r,w'.heap[b]?=w.heap[b]? :=λr b hx=>hb.keep b (h.inU r b hx).2 (λe=>by
  obtain⟨h1,h2,h3⟩:=h.ambF b e
  rcases(h.inU r b hx).1 with h4|h4|h4
  ·exact h3 h4
  ·exact h2 h4
  omega)
 have c:∀s,BR w w' a a E {E with amb:=A'} blk blk s:=λs=>
  D7 h rfl rfl (by cases s<;>rfl) (λ_ _=>rfl) (λ_=>rfl) (hF s) (hU s)
 have hr:∀r,Gu w' a {E with amb:=A'} blk r (FS r) (US r):=λr=>
  QZ c (h.root r) (λn _=>⟨rfl,rfl⟩) (λ_=>⟨rfl,rfl⟩) (hF r) (hU r)
 constructor
 ·exact λn=>hr<|.slot n
 ·intro r hm
  cases r with
  |slot n=>cases hm
  |hand=>cases hm
  |box n=>exact hr<|.box n
  |ext n=>exact hr<|.ext n
 ·exact h.nohand
 ·exact h.nodup
 ·exact h.dis
 ·exact h.disU
 ·exact λr b hx=>⟨(h.inF r b hx).1,AM (h.inF r b hx).2 hb.size⟩
 ·exact λr b hx=>⟨(h.inU r b hx).1,AM (h.inU r b hx).2 hb.size⟩
 ·exact h.disA
 ·exact hb.os.trans h.os
 ·exact hb.tape.trans h.tape
 ·exact hb.output.trans h.output
 ·exact IX h.size hb.size
 ·exact λb h1 h2 h3=>(hb.keep b (AM h1 h.size) h3).trans<|h.keep b h1 h2 h3
 ·exact h.len
 ·exact h.nodef
 ·exact h.xblk
 ·rw[hB];exact h.ambB
 ·exact hI
 ·exact h.frz
 ·exact h.ambF
 exact λb hp=>h.pin b<|hP b hp
def Mq (P:Program) (f:FuncId) (A:QD) (as:List AV) (A':QD):Prop:=∀(w:World) (vs:List Value),KA w as vs [] []->(∀b∈A.B,b<w.heap.size)->A.I w->Calls P f vs.toArray w λe w'=>e= .returned (.tuple #[])/\Gb w w' A.B/\A'.I w'
theorem u7 {f:FuncId} {c:Code} (hf:P.funcs[f]?=some fn) (hb:fn.body=some c) (hr:fn.results= #[]) (hp:A.pin=none) (h:Wp P fn.ntmps c (Dr as A) λe E=>(e= .normal\/e= .ret)/\E.amb=A'):Mq P f A as A':=by
 intro w vs ha hB hA;obtain⟨blk,FS,US,g,hF,hU⟩:=RH (N:=fn.ntmps) ha Ds (by simp) (by simp) (A:=A) hA (λb hb=>⟨hB b hb,by simp,by simp⟩) (hpin:=λb h=>by grind);refine calls_of_wp hf hb<|wp_mono (h _ _ _ _ _ _ _ _ g hF hU) ?_;rintro e a w' ⟨E,blk',FS',US',⟨he,rfl⟩,h2,h3,h4⟩;have i:(results fn a.tmps).run P w'= .ok (.tuple #[]) w':=by
  rw[Yw (P:=P),hr];simp
 have d:a.defers=[]/\∃v,(results fn a.tmps).run P w'= .ok v w'/\Ending.returned v= .returned (.tuple #[])/\Gb w w' A.B/\E.amb.I w':=
  ⟨h2.nodef,_,i,rfl,⟨h2.os,h2.tape,h2.output,h2.size,λb h5 h6=>h2.keep b h5 (by simp) h6⟩,h2.ambI⟩
 rcases he with rfl|rfl
 ·exact d
 exact d
theorem QM {w0:Base} {a:Act} {blk:Root->Nat} (h:Cw w0 FA UA N w a E blk FS US) (hF:FS .hand=[]) (hU:US .hand=[]) (hd:d<N) {s:SV} (hb:Gb w w' w0.B) (hB:A'.B=E.amb.B) (hI:A'.I w') (hs:i8 w' s v [] []) (hP:∀b,A'.pin=some b->E.amb.pin=some b):
  ∃FS' US',Cw w0 FA UA N w' (a.put (some d) v) (({E with amb:=A'}:St).put (some d) s) blk FS' US'/\FS' .hand=[]/\US' .hand=[]:=by
 have k:=h.beside hb hB hI hP;exact k.land (w':=w') (F:=[]) (U:=[]) hd (MV hs) Ds (by simp) (by simp) (A3 _) rfl rfl rfl λ_ _ _=>rfl
theorem AC9 {rr : β} {x : Option α} {k : α → Option β} {f : FuncId} {l : List AV} (h : x.bind k = some rr) (d : Nat) (Am : α → QD) {args : Array Operand} {tys : Array TypeId} (ho : oo.op = .call { callee := .value (.func f), args := args, argTypes := tys }) (hA : E.amb = A) (hB : ∀ v, (Am v).B = A.B ∧ (Am v).pin = none) (i : Jf P E ((tys.toList.zip args.toList).map fun (t, x) => (false, t, x)) (List.replicate args.size none) = some (l, true)) (j : ∀ w vs F U, KA w l vs F U → F = [] ∧ U = []) (m : ∀ v, x = some v → Mq P f A l (Am v)) (hk : ∀ v, x = some v → k v = some rr → G4 P N ops rest (({ E with amb := Am v } : St).put (some d)<|.tup []) Q) (hf : P.funcs[f]? = some fn := by rfl) (hn : (fn.name == "runtime.NumGoroutine") = false := by rfl) (hb : fn.body.isNone = false := by rfl) (hd : oo.dst = some d := by rfl) (hN : Nat.blt d N = true := by rfl) (hz : tys.size = args.size := by rfl) (hg : Be P ops E oo = some true := by rfl) : G4 P N ops (oo :: rest) E Q := by
 obtain⟨v,hv,h⟩:=Ag.1 h;have hN':d<N:=by simp_all
 intro w0 FA UA w a blk FS US hr hF hU;simp only[wpList,BF hr hg,CC];refine .inl ?_;have g:((tys.toList.zip args.toList).map λ(t,x)=>(false,t,x)).length=args.size:=by simp[hz]
 obtain⟨U',k5,k6⟩:=KI hr (YC (l:=(tys.toList.zip args.toList).map λ(t,x)=>(false,t,x))) (by rw[g];exact i);have n:((tys.toList.zip args.toList).map λ(t,x)=>(false,t,x)).map (λx=>a.eval x.2.2)=(args.map a.eval).toList:=by
  rw[OZ,IY];have:((λx:Bool×TypeId×Operand=>a.eval x.2.2)∘λ(x:TypeId×Operand)=>(false,x.1,x.2))=a.eval∘Prod.snd:=rfl
  grind [List.map_snd_zip]
 rw[n]at k5;obtain⟨_,rfl⟩:=j _ _ _ _ k5;have o:w0.B=A.B:=hr.ambB.trans<|by rw[hA]
 have c:=m v hv w _ k5 (λb hb=>by
  rw[<-o]at hb
  exact AM (hr.ambF b hb).1 hr.size) (by rw[<-hA];exact hr.ambI)
 unfold Oper.wp;rw[HM ho ⟨fn,hf,by grind,hb⟩];refine Calls.mono c ?_;rintro e w' ⟨rfl,p,hI⟩;obtain⟨FS',US',q1,q2,q3⟩:=QM (s:= .tup []) (v:= .tuple #[]) hr hF hU hN' (by grind) (by grind) hI ⟨[],rfl,rfl,rfl,rfl⟩ (λb hb=>by grind);rw[hd];exact hk v hv h _ _ _ _ _ _ _ _ q1 q2 q3
def Ik (P:Program) (Am:List γ->QD) (lt:γ->γ->Bool) (g:FuncId) (cap:Array Value):Prop:=(∀(args:Array Value) (w:World),(callFunc g args).run P w= .ok (.enter g args) w)/\∀(l:List γ) (i j:Int) (x y:γ),gi l i=some x->gi l j=some y->∀w,(Am l).I w->(∀b∈(Am l).B,b<w.heap.size)->Calls P g (#[.int .i64 i,.int .i64 j]++cap) w λe w'=>e= .returned (.bool<|lt x y)/\Gb w w' (Am l).B/\(Am l).I w'
def Mn (P:Program) (Am:List γ->QD) (sf:FuncId) (cap:Array Value):Prop:=∀(l:List γ) (i j:Int) (x y:γ),gi l i=some x->gi l j=some y->∀w,(Am l).I w->(∀b∈(Am l).B,b<w.heap.size)->∃w',(callFunc sf<|#[.int .i64 i,.int .i64 j]++cap).run P w= .ok (.value<|.tuple #[]) w'/\Gb w w' (Am l).B/\(Am<|si (si l i y) j x).I w'
theorem Uz {a:Act} {o:Oper} {t:Nat} {args:Array Operand} {tys:Array TypeId} {g:FuncId} {cap:Array Value} (ho:o.op= .call {callee:= .value (.tmp t),args:=args,argTypes:=tys}) (hv:a.eval (.tmp t)= .func (.func g) #[] cap):
 (execOp a.eval o).run P w=(callFunc g<|args.map a.eval++cap).run P w:=by grind [execOp,resolve,Deferred.ofValue,invoke]
theorem zY {f:Fn} {w0:Base} {a:Act} {blk:Root->Nat} (h:Cw w0 FA UA N w a E blk FS US) {t:Nat} {ta cap:Array Value} (hs:E.slots t= .one (.fn f ta cap)):a.eval (.tmp t)= .func f ta cap:=by
 have:=h.slot t;rw[hs]at this;exact this.1.1
theorem AC8 {l:List γ} {x y:γ} {i j:Int} {g:FuncId} {cap:Array Value} (c:Ik P Am lt g cap) (hx:gi l i=some x) (hy:gi l j=some y) (d:Nat) {t:Nat} {tys:Array TypeId} (hk:G4 P N ops rest (E.put (some d) (.one (.bool (lt x y)))) Q) (hA:E.amb=Am l:=by rfl) (ho:oo.op= .call {callee:= .value (.tmp t),args:= #[o1,o2],argTypes:=tys}:=by rfl) (hs:E.slots t= .one (.fn (.func g) #[] cap):=by rfl) (h1:E.cell1 P 0 o1=some (.int .i64 i):=by rfl) (h2:E.cell1 P 0 o2=some (.int .i64 j):=by rfl) (hd:oo.dst=some d:=by rfl) (hN:Nat.blt d N=true:=by rfl) (hg:Be P ops E oo=some true:=by rfl):G4 P N ops (oo::rest) E Q:=by
 have hN':d<N:=by simp_all
 intro w0 FA UA w a blk FS US hr hF hU;simp only[wpList,BF hr hg,CC];refine .inl ?_;have h:w0.B=(Am l).B:=hr.ambB.trans<|by rw[hA]
 have m:∀b∈(Am l).B,b<w.heap.size:=λb hb=>by
  rw[<-h]at hb;exact AM (hr.ambF b hb).1 hr.size
 have hI:(Am l).I w:=by rw[<-hA];exact hr.ambI
 have f:=c.2 l i j x y hx hy w hI m;unfold Oper.wp;have e1:=CM hr h1;have e2:=CM hr h2;have k:(execOp a.eval oo).run P w= .ok (.enter g<|#[.int .i64 i,.int .i64 j]++cap) w:=by
  rw[Uz ho<|zY hr hs];rw[c.1];simp[e1,e2]
 rw[k];refine Calls.mono f ?_;rintro e w' ⟨rfl,n,hI'⟩;obtain⟨FS',US',q1,q2,q3⟩:=QM (A':=E.amb) (s:= .one (.bool<|lt x y)) (v:= .bool (lt x y)) hr hF hU hN' (by rw[h];exact n) rfl (by grind) ⟨⟨rfl,rfl,rfl⟩,rfl⟩ λ_ hb=>hb;rw[hd];exact hk _ _ _ _ _ _ _ _ q1 q2 q3
theorem AC5 {l:List γ} {x y:γ} {i j:Int} {cap:Array Value} (c:Mn P Am sf cap) (hB:∀l l',(Am l).B=(Am l').B/\(Am l).pin=none) (hx:gi l i=some x) (hy:gi l j=some y) (d:Nat) {t:Nat} {tys:Array TypeId} (hk:G4 P N ops rest (({E with amb:=Am (si (si l i y) j x)}:St).put (some d)<|.tup []) Q) (hA:E.amb=Am l:=by rfl) (ho:oo.op= .call {callee:= .value (.tmp t),args:= #[o1,o2],argTypes:=tys}:=by rfl) (hs:E.slots t= .one (.fn (.func sf) #[] cap):=by rfl) (h1:E.cell1 P 0 o1=some (.int .i64 i):=by rfl) (h2:E.cell1 P 0 o2=some (.int .i64 j):=by rfl) (hd:oo.dst=some d:=by rfl) (hN:Nat.blt d N=true:=by rfl) (hg:Be P ops E oo=some true:=by rfl):G4 P N ops (oo::rest) E Q:=by
 have hN':d<N:=by simp_all
 intro w0 FA UA w a blk FS US hr hF hU;simp only[wpList,BF hr hg,CC];refine .inl ?_;have f:w0.B=(Am l).B:=hr.ambB.trans<|by rw[hA]
 have g:∀b∈(Am l).B,b<w.heap.size:=λb hb=>by
  rw[<-f]at hb;exact AM (hr.ambF b hb).1 hr.size
 have hI:(Am l).I w:=by rw[<-hA];exact hr.ambI
 obtain⟨w',h,k,hI'⟩:=c l i j x y hx hy w hI g;unfold Oper.wp;have e1:=CM hr h1;have e2:=CM hr h2;have e:(execOp a.eval oo).run P w= .ok (.value<|.tuple #[]) w':=by
  rw[Uz ho<|zY hr hs]
  grind
 rw[e];rw[Oper.upon_value];obtain⟨FS',US',q1,q2,q3⟩:=QM (s:= .tup []) (v:= .tuple #[]) hr hF hU hN' (by grind) (by grind) hI' ⟨[],rfl,rfl,rfl,rfl⟩ (λb hb=>by rw[(hB _ []).2]at hb;cases hb);rw[hd];exact hk _ _ _ _ _ _ _ _ q1 q2 q3
def vR (l:List γ) (i j:Int):Option (γ×γ):=(gi l i).bind λx=>(gi l j).bind λy=>some (x,y)
theorem ABQ {rr:β} {l:List γ} {i j:Int} {k:γ×γ->Option β} {g:FuncId} {cap:Array Value} (a:Ik P Am lt g cap) (h:(vR l i j).bind k=some rr) (d:Nat) {t:Nat} {tys:Array TypeId} (hk:∀v,k v=some rr->G4 P N ops rest (E.put (some d) (.one (.bool (lt v.1 v.2)))) Q) (hA:E.amb=Am l:=by rfl) (ho:oo.op= .call {callee:= .value (.tmp t),args:= #[o1,o2],argTypes:=tys}:=by rfl) (hs:E.slots t= .one (.fn (.func g) #[] cap):=by rfl) (h1:E.cell1 P 0 o1=some (.int .i64 i):=by rfl) (h2:E.cell1 P 0 o2=some (.int .i64 j):=by rfl) (hd:oo.dst=some d:=by rfl) (hN:Nat.blt d N=true:=by rfl) (hg:Be P ops E oo=some true:=by rfl):G4 P N ops (oo::rest) E Q:=by
 obtain⟨v,hv,h⟩:=Ag.1 h;obtain⟨x,hx,hv⟩:=Ag.1 hv
 grind [Ag,AC8]
def nY (l:List γ) (i j:Int):Option (List γ):=(gi l i).bind λx=>(gi l j).bind λy=>some<|si (si l i y) j x
theorem ABO {rr:β} {l:List γ} {i j:Int} {k:List γ->Option β} {cap:Array Value} (a:Mn P Am sf cap) (hB:∀l l',(Am l).B=(Am l').B/\(Am l).pin=none) (h:((nY l i j).bind k)=some rr) (d:Nat) {t:Nat} {tys:Array TypeId} (hk:∀l',k l'=some rr->G4 P N ops rest (({E with amb:=Am l'}:St).put (some d)<|.tup []) Q) (hA:E.amb=Am l:=by rfl) (ho:oo.op= .call {callee:= .value (.tmp t),args:= #[o1,o2],argTypes:=tys}:=by rfl) (hs:E.slots t= .one (.fn (.func sf) #[] cap):=by rfl) (h1:E.cell1 P 0 o1=some (.int .i64 i):=by rfl) (h2:E.cell1 P 0 o2=some (.int .i64 j):=by rfl) (hd:oo.dst=some d:=by rfl) (hN:Nat.blt d N=true:=by rfl) (hg:Be P ops E oo=some true:=by rfl):G4 P N ops (oo::rest) E Q:=by
 obtain⟨l',hl',h⟩:=Ag.1 h;obtain⟨x,hx,hl'⟩:=Ag.1 hl'
 grind [Ag,AC5]
def ADD (ls:List (Nat×SV)) (bs:List (Root×List TV)) (A:QD):St:={ACJ ls bs with amb:=A}
def TV.flat:TV->Bool
 | .int .. | .bool _| .str _| .fn .. =>true
 |_=>false
def qB:AV->Bool
 | .sv (.one t)=>t.flat
 | .sv (.agg cs)=>cs.all TV.flat
 |_=>false
theorem kO {t:TV} (h:Dl w t v F U) (ht:t.flat=true):F=[]/\U=[]:=by
 cases t<;>first|(cases ht;done)|(exact h.2)
theorem KY:∀{ts:List TV} {vs:List Value} {F U:List Nat},Bv w ts vs F U->ts.all TV.flat=true->F=[]/\U=[]
 |[],vs,F,U,h,_=>by exact h.2
 |t::ts,vs,F,U,h,ht=>by
  simp only[Mp,Aj]at ht;obtain⟨v,a,F1,F2,U1,U2,rfl,rfl,rfl,h1,h2⟩:=h;obtain⟨rfl,rfl⟩:=kO h1 ht.1;obtain⟨rfl,rfl⟩:=KY h2 ht.2;exact⟨rfl,rfl⟩
theorem ZD:∀{l:List AV},l.all qB=true->∀(w:World) (vs:List Value) (F U:List Nat),KA w l vs F U->F=[]/\U=[]
 |[],_,w,vs,F,U,h=>h.2
 |s::l,hl,w,vs,F,U,h=>by
  simp only[Mp,Aj]at hl;obtain⟨v,a,F1,F2,U1,U2,rfl,rfl,rfl,h1,h2⟩:=h;obtain⟨rfl,rfl⟩:=ZD hl.2 w a F2 U2 h2;have:F1=[]/\U1=[]:=by
   match s,hl.1,h1 with
   | .sv (.one t),ht,h1=>exact kO h1.1 ht
   | .sv (.agg cs),ht,h1=>obtain⟨_,_,h1⟩:=h1;exact KY h1 ht
  grind
def TV.val:TV->Value
 | .int k n=> .int k n
 | .bool b=> .bool b
 | .str s=> .string s
 | .fn f ta c=> .func f ta c
 |_=> .bool false
theorem AAZ {t:TV} (h:Dl w t v F U) (ht:t.flat=true):v=t.val:=by
 cases t<;>first|(cases ht;done)|(exact h.1)
theorem U6:∀{ts:List TV} {vs:List Value} {F U:List Nat},Bv w ts vs F U->ts.all TV.flat=true->vs=ts.map TV.val
 |[],vs,F,U,h,_=>by exact h.1
 |t::ts,vs,F,U,h,ht=>by
  simp only[Mp,Aj]at ht;obtain⟨v,a,F1,F2,U1,U2,rfl,_,_,h1,h2⟩:=h;rw[AAZ h1 ht.1,U6 h2 ht.2];rfl
theorem AAL {t:TV} (ht:t.flat=true):Dl w t t.val [] []:=by
 cases t<;>first|(cases ht;done)|(simp[Dl,TV.val])
theorem TQ:∀{ts:List TV},ts.all TV.flat=true->Bv w ts (ts.map TV.val) [] []
 |[],_=>by simp[Bv]
 |t::ts,ht=>by
  simp only[Mp,Aj]at ht;exact⟨_,_,[],[],[],[],rfl,rfl,rfl,AAL ht.1,TQ ht.2⟩
theorem Xm {t:TV}:t.val.oneCell'=true:=by cases t<;>rfl
theorem IV (e:TypeId) (fz:Nat×Nat) (g:Nat):∀(vs:List Value) (o:Nat) (a:Array Value) (w:World),w.heap[g]?=some (.cells a e fz)->o+vs.length<=a.size->(w.setCells g o vs).heap[g]?=some (.cells (setRow a.toList o vs).toArray e fz)
 |[],o,a,w,h,_=>by simp_all [World.setCells,setRow]
 |v::vs,o,a,w,h,hl=>by
  simp only[AD]at hl;simp only[World.setCells];have h1:(w.setCell ⟨g,o,none⟩ v).heap[g]?=some (.cells (a.setIfInBounds o v) e fz):=by grind [World.setCell]
  rw[IV e fz g vs (o+1) (a.setIfInBounds o v) _ h1 (by simp;omega)];congr 2;apply Array.ext';simp only[Array.toList_setIfInBounds];apply Cm;intro k;have l1:(a.toList.take o).length=o:=by simp;omega
  have l2:((a.toList.set o v).take<|o+1).length=o+1:=by simp;omega
  simp only[setRow,BA]
  rcases N7 k o with hk|hk|hk
  ·grind
  ·simp_all [L8]
  have eL:(List.take (o+1) (a.toList.set o v)++(vs++List.drop (o+1+vs.length) (a.toList.set o v)))[k]?=(vs++List.drop (o+1+vs.length) (a.toList.set o v))[k-(o+1)]? :=by grind
  have eR:(List.take o a.toList++(v::vs++List.drop (o+(v::vs).length) a.toList))[k]?=(vs++List.drop (o+(v::vs).length) a.toList)[k-(o+1)]? :=by
   rw[Dt (by omega),l1,show k-o=(k-(o+1))+1 by omega,Cl,List.getElem?_cons_succ]
  rw[eL,eR];by_cases hv:k-(o+1)<vs.length
  ·grind
  rw[Dt (by omega),Dt (by omega),SC,SC,List.getElem?_set_ne (by omega),AD]
  grind
structure nA (n b g cap:Nat) (e T:TypeId) (sz:Nat) (enc:γ->List TV) (w:World) (l:List γ):Prop where
 ne:b≠g
 len:l.length=n
 box:w.heap[b]?=some (.cells #[.slice (some ⟨g,0,none⟩) l.length cap] T (0,0))
 row:∃cur,w.heap[g]?=some (.cells cur e (0,0))/\cur.size=cap*sz/\cur.toList.take (l.length*sz)=(A8 enc l).map TV.val
 le:l.length<=cap/\cap<=maxLen
def Mk (n b g cap:Nat) (e T:TypeId) (sz:Nat) (enc:γ->List TV) (l:List γ):QD where
 B:=[b,g]
 I:=λw=>nA n b g cap e T sz enc w l
 st:=λw w' h hk=>⟨h.ne,h.len,by rw[hk b<|by simp];exact h.box,by rw[hk g<|by simp];exact h.row,h.le⟩
 rd:=λad=>if ad.spot.isSome=true then none else if ad.block=b then(if ad.off=0 then some (.slice (some ⟨g,0,none⟩) n cap)else none)else if ad.block=g then(if ad.off<l.length*sz then((A8 enc l).map TV.val)[ad.off]? else none)else none
 rdI:=λw ad v h hr=>by
  obtain⟨bl,off,spot⟩:=ad
  cases spot with
  |some s=>simp at hr
  |none=>
   simp only[Option.isSome_none,ME,pD]at hr;split at hr
   ·rename_i hb;subst hb;split at hr
    ·rename_i ho;subst ho
     injection hr with hr
     subst hr;simp[World.cell?,h.box,h.len]
    cases hr
   split at hr
   ·rename_i hg;subst hg;split at hr
    ·rename_i ho;obtain⟨a,h1,h2,h3⟩:=h.row
     grind [World.cell?]
    cases hr
   cases hr
theorem T5 (f:γ->List TV) (x:γ) (l:List γ):A8 f (x::l)=f x++A8 f l:=by simp[A8]
theorem ID (g:Nat):∀(vs:List Value) (o:Nat) (w:World),(w.setCells g o vs).tape=w.tape
 |[],_,_=>rfl
 |v::vs,o,w=>by
  simp only[World.setCells];rw[ID g vs,World.tape_setCell]
theorem P3 (f:α->β) (A B:List α) (j:Nat):(setRow A j B).map f=setRow (A.map f) j (B.map f):=by
 simp[setRow,List.map_take,List.map_drop]
theorem e7 {enc:γ->List TV} (a:∀x,(enc x).length=sz) (x z:γ):setRow (enc x) 0 (enc z)=enc z:=by grind [setRow]
theorem RQ {l:List γ} {i:Int} {x z:γ} {enc:γ->List TV} (a:∀x,(enc x).length=sz) (h:gi l i=some x):setRow (A8 enc l) (i.toNat*sz) (enc z)=A8 enc (si l i z):=
 Vy a h (k:=0) (by rw[a];simp) (e7 a x z)
theorem If {i:Int} (h:gi l i=some x):0<=i/\l[i.toNat]?=some x:=by grind [gi]
theorem XW {ie:TypeInfo} {b g cap:Nat} {e T:TypeId} {enc:γ->List TV} (f:∀x,(enc x).length=sz) (n:Nat) (gS:Bool) (hx:∀args W,(callFunc sf args).run P W=((Extern.ReflectliteSwapper.swap gS args).run P W).andThen λv w'=> .ok (.value v) w') (r:P.info? e=some ie) (h:ie.size=sz) (p:∀w,(isAgg e).run P w= .ok true w):
  Mn P (Mk n b g cap e T sz enc) sf #[.slice (some ⟨g,0,none⟩) n cap,typeHandle P e]:=by
 intro l i j x y hi hj w hI hB;obtain⟨s,hn,h4,⟨d,hg,h7,t⟩,h8⟩:=hI;obtain⟨i0,i1⟩:=If hi;obtain⟨j0,j1⟩:=If hj;obtain⟨a,rfl⟩:=BW i0;obtain⟨c,rfl⟩:=BW j0;simp only[C1]at i1 j1;have la:=(Ae.1 i1).1;have lc:=(Ae.1 j1).1;have hX:((enc x).map TV.val).length=sz:=by grind
 have hY:((enc y).map TV.val).length=sz:=by grind
 have h5:(A8 enc l).length=l.length*sz:=Ep f l;have h6:l.length*sz<=d.size:=by simp_all [BS]
 have u:(a+1)*sz<=l.length*sz:=BS _ la;have h0:(c+1)*sz<=l.length*sz:=BS _ lc;rw[Lo]at u h0;have cell:∀(m:Nat) (z:γ),l[m]?=some z->∀k v,((enc z).map TV.val)[k]?=some v->w.cell? ⟨g,0+m*ie.size+k,none⟩=some v:=by
  intro m z hm k v hk;have h9:=(Ae.1 hk).1;have lm:=(Ae.1 hm).1;have a0:(m+1)*sz<=l.length*sz:=BS _ lm;rw[h,Ln];have e1:(A8 enc l)[m*sz+k]?=(enc z)[k]? :=by
   have:=JI f l m;have h2:(A8 enc l)[m*sz+k]?=((A8 enc l).drop<|m*sz)[k]? :=by grind
   grind [AE,A8]
  have e2:d.toList[m*sz+k]?=some v:=by
   have:(d.toList.take<|l.length*sz)[m*sz+k]?=d.toList[m*sz+k]? :=by grind
   grind
  grind [World.cell?]
 have frz:∀(m k:Nat),w.frozen? ⟨g,0+m*ie.size+k,none⟩=false:=by grind [World.frozen?]
 have o:=Go.Lib.run_swap_cells (P:=P) gS e ie r p g 0 n cap a c (by omega) (by omega) ((enc x).map TV.val) ((enc y).map TV.val) (by rw[hX,h]) (by rw[hY,h]) (λv hv=>by grind [Xm]) (λv hv=>by grind [Xm]) w (cell a x i1) (cell c y j1) (λk _=>frz a k) λk _=>frz c k;simp only[Ln,h]at o;have h1:=IV e (0,0) g ((enc y).map TV.val) (a*sz) d w hg (by rw[hY];omega);have a1:(setRow d.toList (a*sz)<|(enc y).map TV.val).toArray.size=d.size:=by grind [ED]
 have h2:=IV e (0,0) g ((enc x).map TV.val) (c*sz) _ _ h1 (by grind);have kB:∀k,k<w.heap.size->k≠g->((w.setCells g (a*sz)<|(enc y).map TV.val).setCells g (c*sz)<|(enc x).map TV.val).heap[k]?=w.heap[k]? :=by grind [World.heap_setCells_other]
 refine⟨(w.setCells g (a*sz)<|(enc y).map TV.val).setCells g (c*sz)<|(enc x).map TV.val,?_,⟨?_,?_,?_,?_,?_⟩,?_⟩
 ·rw[hx];have ea:(#[Value.int .i64 (a:Int),Value.int .i64 (c:Int)]++ #[Value.slice (some ⟨g,0,none⟩) n cap,typeHandle P e])= #[.int .i64 (a:Int),.int .i64 (c:Int),.slice (some ⟨g,0,none⟩) n cap,typeHandle P e]:=rfl;rw[ea,o];rfl
 ·rw[World.os_setCells,World.os_setCells]
 ·rw[ID,ID]
 ·rw[World.output_setCells,World.output_setCells]
 ·grind
 ·grind [Mk]
 have q:(si (si l (a:Int) y) (c:Int) x).length=l.length:=by simp[si]
 have lcur:d.toList.length=d.size:=by simp
 have a2:(setRow d.toList (a*sz)<|(enc y).map TV.val).length=d.size:=by omega
 have a3:(setRow (setRow d.toList (a*sz)<|(enc y).map TV.val) (c*sz)<|(enc x).map TV.val).length=d.size:=by grind [ED]
 refine⟨s,q.trans hn,?_,⟨_,h2,?_,?_⟩,by grind⟩
 ·grind
 ·grind
 rw[q];rw[L9 (by rw[hX];omega) (by grind),L9 (by rw[hY];omega) (by grind),t,<-P3,<-P3];have e1:setRow (A8 enc l) (a*sz) (enc y)=A8 enc (si l (a:Int) y):=by grind [RQ,C1]
 obtain⟨z0,h3⟩:∃z0,gi (si l (a:Int) y) (c:Int)=some z0:=by grind [si,gi]
 have e2:=RQ f (z:=x) h3
 grind
theorem iO {w0:Base} {a:Act} {blk:Root->Nat} (h:Cw w0 FA UA N w a E blk FS US) {t:Nat} {ad:Addr} (hs:E.slots t= .one (.adr ad)):a.eval (.tmp t)= .pointer (some ad):=by
 have:=h.slot t;rw[hs]at this;exact this.1.1
theorem ABv {w0:Base} {a:Act} {blk:Root->Nat} (h:Cw w0 FA UA N w a E blk FS US) {t:Nat} {ad:Addr} {n c:Nat} (hs:E.slots t= .one (.hdr ad n c)):a.eval (.tmp t)= .slice (some ad) n c:=by
 have:=h.slot t;rw[hs]at this;exact this.1.1
theorem EY.any {o:Oper} (d:Nat) (t:TV) (hk:EY P N ops rest (E.put (some d) (.one t)) K) (b:∀(w0:Base) (FA UA:List Nat) (w:World) (a:Act) (blk:Root->Nat) (FS US:Root->List Nat),Cw w0 FA UA N w a E blk FS US->∃v,(execOp a.eval o).run P w= .ok (.value v) w/\Dl w t v [] []/\v.cells= #[v]) (hd:o.dst=some d:=by rfl) (hN:Nat.blt d N=true:=by rfl) (hg:Be P ops E o=some true:=by rfl):EY P N ops (o::rest) E K:=by
 have hN':d<N:=by simp_all
 intro w0 FA UA w a blk FS US k1 k2 k3;obtain⟨v,h1,h2,h3⟩:=b w0 FA UA w a blk FS US k1;simp only[wpStill,BF k1 hg,CC,Oper.still,h1,Oper.stillUpon_value];rw[hd];refine hk _ _ _ _ _ _ _ _ (k1.put (F:=[]) (U:=[]) hN' (by grind [FQ,Im]) ZQ.none) ?_ ?_
 ·grind [Bb]
 grind [Bb]
theorem K0 {o:Oper} {ty:TypeId} {x:Nat} (d:Nat) (t:TV) (v:Value) {ad:Addr} (hk:EY P N ops rest (E.put (some d) (.one t)) K) (hs:E.slots x= .one (.adr ad)) (b:E.amb.rd ad=some v) (hv:∀w,Dl w t v [] []) (hc:v.cells= #[v]) (ha:bJ P ty=false) (hu:(P.underlying ty).isSome=true) (ho:o.op= .load ty (.tmp x):=by rfl) (hd:o.dst=some d:=by rfl) (hN:Nat.blt d N=true:=by rfl) (hg:Be P ops E o=some true:=by rfl):EY P N ops (o::rest) E K:=
 EY.any d t hk (λw0 FA UA w a blk FS US h=>by
  have h1:=iO h hs;have h2:=E.amb.rdI w ad v h.ambI b;have c:P.underlying ty≠none:=by grind
  simp_all [V5,execOp,Instr.loadAt,Instr.sureAddr,loadVar]) hd hN hg
theorem Ox {o:Oper} {x f:Nat} {fs:Array Field} {fd:Field} (d:Nat) {ad:Addr} {st:TypeId} (hk:EY P N ops rest (E.put (some d) (.one (.adr (ad.add fd.offset)))) K) (hs:E.slots x= .one (.adr ad)) (c:P.underlying st=some (.struct fs)) (hf:fs[f]?=some fd) (b:P.cellsOf fd.type≠0) (ho:o.op= .fieldAddr st (.tmp x) f:=by rfl) (hd:o.dst=some d:=by rfl) (hN:Nat.blt d N=true:=by rfl) (hg:Be P ops E o=some true:=by rfl):EY P N ops (o::rest) E K:=
 EY.any d (.adr<|ad.add fd.offset) hk (λw0 FA UA w a blk FS US h=>by
  have h1:=iO h hs;obtain⟨i,hi,_⟩:=FW b;refine⟨.pointer<|some<|ad.add fd.offset,?_,by simp[Dl],rfl⟩
  simp[execOp,ho,h1,Instr.fieldAt,run_underlying c,hf,Instr.sureAddr,fieldPlace,run_sizeOf w hi,b]) hd hN hg
theorem Wg {o:Oper} {x:Nat} {i:Operand} (d:Nat) {ad:Addr} {n c:Nat} {t e:TypeId} {m:Int} (hk:EY P N ops rest (E.put (some d) (.one (.adr (ad.add (m.toNat*P.cellsOf e))))) K) (hs:E.slots x= .one (.hdr ad n c)) (ht:P.underlying t=some (.slice e)) (hi:E.cell1 P 0 i=some (.int k m)) (h0:0<=m) (hm:m<n) (f:P.cellsOf e≠0) (ho:o.op= .indexAddr t (.tmp x) i:=by rfl) (hd:o.dst=some d:=by rfl) (hN:Nat.blt d N=true:=by rfl) (hg:Be P ops E o=some true:=by rfl):EY P N ops (o::rest) E K:=
 EY.any d (.adr<|ad.add<|m.toNat*P.cellsOf e) hk (λw0 FA UA w a blk FS US h=>by
  have h1:=ABv h hs;have h2:=CM h hi;obtain⟨inf,b,_⟩:=FW f;refine⟨.pointer<|some<|ad.add<|m.toNat*P.cellsOf e,?_,by simp[Dl],rfl⟩
  simp[execOp,ho,h1,h2,Instr.indexAt,run_underlying ht,asIntOf,h0,hm,run_sizeOf w b]) hd hN hg
def Vk (P:Program) (f:FuncId) (A:QD) (as:List AV) (t:TV):Prop:=∀(w:World) (vs:List Value),KA w as vs [] []->(∀b∈A.B,b<w.heap.size)->A.I w->Calls P f vs.toArray w λe w'=>e= .returned (Vk.val t)/\Gb w w' A.B/\A.I w'
where
 val:TV->Value
 | .int k n=> .int k n
 | .bool b=> .bool b
 | .str s=> .string s
 | .fn f ta c=> .func f ta c
 |_=> .bool false
theorem xO {t:TV} (h:Dl w t v F U) (ht:t.flat=true):v=Vk.val t:=by
 cases t<;>first|(cases ht;done)|(exact h.1)
theorem Ze {f:FuncId} {c:Code} {t:TV} (hf:P.funcs[f]?=some fn) (hb:fn.body=some c) (ht:t.flat=true) (h:Wp P fn.ntmps c (Dr as A) λe E=>(e= .normal\/e= .ret)/\E.amb=A/\∃E',DC P E fn.results.toList=some ([.one t],E')) (hp:A.pin=none:=by rfl):Vk P f A as t:=by
 intro w vs ha hB hA;obtain⟨blk,FS,US,g,hF,hU⟩:=RH (N:=fn.ntmps) ha Ds (by simp) (by simp) (A:=A) hA (λb hb=>⟨hB b hb,by simp,by simp⟩) (hpin:=λb h=>by grind);refine calls_of_wp hf hb<|wp_mono (h _ _ _ _ _ _ _ _ g hF hU) ?_;rintro e a w' ⟨E,blk',FS',US',⟨he,i,E',h1⟩,h2,h3,h4⟩;obtain⟨us,FS2,US2,F,U,k1,k2,k3,k4,k5⟩:=LP h2 h1;have k6:=Ri k2;have hv:=xO k6.1 ht;have hI:A.I w':=by rw[<-i];exact h2.ambI
 have d:a.defers=[]/\∃v,(results fn a.tmps).run P w'= .ok v w'/\Ending.returned v= .returned (Vk.val t)/\Gb w w' A.B/\A.I w':=
  ⟨h2.nodef,_,NQ k1,by rw[hv],⟨h2.os,h2.tape,h2.output,h2.size,λb h5 h6=>h2.keep b h5 (by simp) h6⟩,hI⟩
 rcases he with rfl|rfl
 ·exact d
 exact d
theorem VJ {g : FuncId} {ad : Addr} (hf : P.funcs[g]? = some fn) (hn : (fn.name == "runtime.NumGoroutine") = false) (hb : fn.body.isNone = false) (h : ∀ (l : List γ) (i j : Int) (x y : γ), gi l i = some x → gi l j = some y → (∃ w, (Am l).I w) → Vk P g (Am l) [.sv (.one (.int .i64 i)), .sv (.one (.int .i64 j)), .sv (.one (.adr ad))] (.bool (lt x y))) : Ik P Am lt g #[.pointer (some ad)] := by
 refine⟨λargs w=>?_,λl i j x y hx hy w hI hB=>?_⟩
 ·have a:fn.body≠none:=by grind
  have b : fn.name ≠ "runtime.NumGoroutine" := by grind
  simp[callFunc,hf,b,a]
 exact h l i j x y hx hy ⟨w,hI⟩ w [.int .i64 i,.int .i64 j,.pointer<|some ad]
  ⟨_,_,[],[],[],[],rfl,rfl,rfl,⟨by simp[Dl],rfl⟩,⟨_,_,[],[],[],[],rfl,rfl,rfl,⟨by simp[Dl],rfl⟩,⟨_,_,[],[],[],[],rfl,rfl,rfl,⟨by simp[Dl],rfl⟩,⟨rfl,rfl,rfl⟩⟩⟩⟩ hB hI
def S2 (P:Program) (f:FuncId) (t e sz:Nat) (enc:γ->List TV) (g:FuncId) (l l':List γ):Prop:=∀(w:World) (b:Nat) (v:Value) (T:TypeId),w.heap[b]?=some (.cells #[v] T (0,0))->w.ownsRow 0 e sz v l.length ((A8 enc l).map TV.val)->b∉B5 v->
  Calls P f #[.iface t v,.func (.func g) #[] #[.pointer<|some ⟨b,0,none⟩]] w λr w'=>r= .returned (.tuple #[])/\Gb w w' (b::B5 v)/\w'.heap[b]?=some (.cells #[v] T (0,0))/\w'.ownsRow 0 e sz v l'.length ((A8 enc l').map TV.val)
section
variable {w0:Base} {a:Act}
theorem Cw.turn (h:Cw w0 FA UA N w a E blk FS US) (hF:FS .hand=[]) (hU:US .hand=[]) {r:Root} (hm:r.mem=true) {cells cells':List TV} (hc:E.boxes r=some cells) (l:cells'.length=cells.length) (hb:Gb w w' (FS r)) (d:∃c T F,w'.heap[blk r]?=some (.cells c T (0,0))/\Bv w' cells' c.toList F (US r)/\FS r=blk r::F):
  ∃FS' US',Cw w0 FA UA N w' a ((E.setRoot r cells').bump r) blk FS' US'/\FS' .hand=[]/\US' .hand=[]:=by
 have f:r≠ .hand:=by rintro rfl;cases hm
 have i:∀j,((E.setRoot r cells').bump r).place r [] j=cells'[j]? :=by
  intro j
  cases r with
  |slot n=>cases hm
  |hand=>cases hm
  |box n=>simp[St.place,St.bump,St.setRoot,St.root,BM,B7]
  |ext n=>simp[St.place,St.bump,St.setRoot,St.root,BM,B7]
 have g:∀j,E.place r [] j=cells[j]? :=by
  intro j
  cases r with
  |slot n=>cases hm
  |hand=>cases hm
  |box n=>grind [St.place,St.root,B7]
  |ext n=>grind [St.place,St.root,B7]
 let E1:St:=(E.setRoot r cells').bump r
 have ev:∀s,s≠r->E1.ver s=E.ver s:=by
  intro s hs;cases r<;>simp[E1,St.bump,St.setRoot,BM,hs]
 have evr:E1.ver r=E.ver r+1:=by cases r<;>simp[E1,St.bump,St.setRoot,BM]
 have eg:∀s,E1.gen s=E.gen s:=by intro s;cases r<;>rfl
 have er:∀s,s≠r->E1.root s=E.root s:=by
  intro s hs
  cases r with
  |slot n=>cases hm
  |hand=>cases hm
  |box n=>cases s<;>simp[E1,St.bump,St.setRoot,St.root,BM,hs]
  |ext n=>cases s<;>simp[E1,St.bump,St.setRoot,St.root,BM,hs]
 have es:∀n,E1.slots n=E.slots n:=by
  intro n
  cases r with
  |slot n=>cases hm
  |hand=>cases hm
  |box n=>rfl
  |ext n=>rfl
 have eb:∀s,E1.boxes s=if s=r then some cells' else E.boxes s:=by
  intro s
  cases r with
  |slot n=>cases hm
  |hand=>cases hm
  |box n=>rfl
  |ext n=>rfl
 have k:∀s,BR w w' a a E E1 blk blk s:=by
  intro s;by_cases hs:s=r
  ·subst hs;refine⟨.inl (by rw[evr];omega),.inr ⟨eg s,λj ad hv hp=>?_⟩⟩;refine⟨(by cases s<;>first|exact hv|(cases hm)),?_⟩
   grind
  by_cases hh:s= .hand
  ·subst hh;exact FB (ev _ hs) (eg _)<|by simp[St.root,h.nohand]
  exact D7 h (ev s hs) (eg s) (er s hs) (λ_ _=>rfl) (λ_=>rfl)
   (λb hx=>hb.keep b (h.inF s b hx).2<|h.dis s r hs b hx) (λb hx=>hb.keep b (h.inU s b hx).2 λe=>h.disU r s b e hx)
 have k7:=h.two (w':=w') (a':=a) (E':=E1) (blk':=blk) (r1:=r) (r2:= .hand) (L1:=FS r) (L2:=[]) (V1:=US r) (V2:=[]) f
  (by simpa using h.nodup r)
  (λb hx=>⟨.inl (by simpa using hx),AM (h.inF r b<|by simpa using hx).2 hb.size⟩)
  (λb hx=> .inl ⟨r,by simpa using hx⟩)
  hb.size hb.os hb.tape hb.output (λb hx q _=>hb.keep b hx q) k (λn _ _=>⟨es n,rfl⟩) (λs _ hs _=>⟨by rw[eb,Bi hs],rfl⟩)
  (by
   obtain⟨c,T,F,g1,g2,g3⟩:=d;have:Gu w' a E1 blk r (FS r) (US r):=by
    have e1:=eb r;rw[BE rfl]at e1
    cases r with
    |slot n=>cases hm
    |hand=>cases hm
    |box n=>exact .inr ⟨cells',c,T,F,e1,g1,g2,g3⟩
    |ext n=>exact .inr ⟨cells',c,T,F,e1,g1,g2,g3⟩
   exact this)
  trivial (by rw[eb,Bi<|JO f];exact h.nohand) h.len h.nodef (hfz:=by
   intro n hn;have e:((E.setRoot r cells').bump r).fz=E.fz:=by rw[Qm,H6]
   exact h.frz n<|e▸hn) (hamb:=by rw[Me,Ek])
 grind [BQ]
end
theorem UJ {w0:Base} {a:Act} (h:Cw w0 FA UA N w a E blk FS US) (hF:FS .hand=[]) (hU:US .hand=[]) (hd:d<N) (v:Value):∃FS' US',Cw w0 FA UA N w (a.put (some d) v) (E.put (some d) (.one .junk)) blk FS' US'/\FS' .hand=[]/\US' .hand=[]:=
 h.land (w':=w) (F:=[]) (U:=[]) hd (by simp[Im,DI,TV.isJunk]) Ds (by simp) (by simp) (A3 _) rfl rfl rfl (λ_ _ _=>rfl)
theorem Gz {enc:γ->List TV} (a:∀x,(enc x).all TV.flat=true):∀l:List γ,(A8 enc l).all TV.flat=true
 |[]=>rfl
 |x::l=>by grind [A8]
theorem Jm {o:Oper} (h:o.guard=none):Be P ops E o=some true:=by unfold Be;rw[h]
theorem G4.srt {l l':List γ} {o1 o2 o3:Oper} {d1 d2 d3 x p ver:Nat} {enc:γ->List TV} {sz e t:Nat} {f b:FuncId} {r:Root} {tys:Array TypeId} (hs:S2 P f t e sz enc b l l') (hk:G4 P N ops rest (((((E.put (some d1) (.one .junk)).put (some d2) (.one .junk)).setRoot r [.sl true e sz (A8 enc l')]).bump r).put (some d3) (.tup [])) Q) (h:∀x,(enc x).length=sz) (c:∀x,(enc x).all TV.flat=true) (hx:E.slots x= .one (.view r ver [] 0):=by rfl) (i:E.ver r=ver:=by rfl) (hp:E.ptr? (.tmp p)=some (r,[],0):=by rfl) (hc:E.boxes r=some [.sl true e sz<|A8 enc l]:=by rfl) (hm:r.mem=true:=by rfl) (h1:o1.op= .makeInterface t (.tmp x):=by rfl) (h2:o2.op= .makeFunc (.func b) #[] #[.tmp p]:=by rfl) (h3:o3.op= .call {callee:= .value (.func f),args:= #[.tmp d1,.tmp d2],argTypes:=tys}:=by rfl) (k1:o1.dst=some d1:=by rfl) (k2:o2.dst=some d2:=by rfl) (k3:o3.dst=some d3:=by rfl) (g1:o1.guard=none:=by rfl) (g2:o2.guard=none:=by rfl) (g3:o3.guard=none:=by rfl) (h6:Nat.blt d1 N=true:=by rfl) (h7:Nat.blt d2 N=true:=by rfl) (h8:Nat.blt d3 N=true:=by rfl) (h9:Nat.beq d1 d2=false:=by rfl) (h5:Nat.beq p d1=false:=by rfl) (a0:Nat.blt 0 sz=true:=by rfl) (ht:P.underlying t=some (.slice e):=by rfl) (hf:bG P f):G4 P N ops (o1::o2::o3::rest) E Q:=by
 have hN1':d1<N:=by simp_all
 have hN2':d2<N:=by simp_all
 have hN3':d3<N:=by simp_all
 have hne':d1≠d2:=by intro e;simp_all
 have hne2':p≠d1:=by intro e;simp_all
 have hsz':0<sz:=by simp_all
 intro w0 FA UA w a blk FS US hr hF hU;have j:∃v T F,w.heap[blk r]?=some (.cells #[v] T (0,0))/\Dl w (.sl true e sz<|A8 enc l) v F (US r)/\FS r=blk r::F:=by
  rcases hr.box r hm with⟨q1,_⟩|⟨cs,k,T,F,q1,q2,q3,q4⟩
  ·grind
  rw[hc]at q1
  injection q1 with q1
  subst q1;obtain⟨v,o,F1,F2,U1,U2,e1,rfl,e3,q5,rfl,rfl,rfl⟩:=q3;have:k= #[v]:=by grind
  grind
 obtain⟨v,T,F,b1,b2,b3⟩:=j;obtain⟨n,vs,F',b4,b5,rfl⟩:=b2;have u:=U6 b5<|Gz c l;obtain⟨rfl,a1⟩:=KY b5<|Gz c l;subst u;have y:n=l.length:=by
  have q:=b4.1;rw[By,Ep h l]at q
  grind [Nat.eq_of_mul_eq_mul_right]
 subst y;have z:blk r∉B5 v:=by
  have:=hr.nodup r
  grind
 have evx:a.eval (.tmp x)=v:=by
  have q:=hr.slot x;rw[hx]at q;obtain⟨⟨_,_,_,q4⟩,_⟩:=q;obtain⟨q5,_⟩:=q4 i
  cases r with
  |slot n=>cases hm
  |hand=>cases hm
  |box n=>grind [pv,Bu,Addr.add,World.cell?]
  |ext n=>grind [pv,Bu,Addr.add,World.cell?]
 have evp:a.eval (.tmp p)= .pointer (some ⟨blk r,0,none⟩):=by
  obtain⟨_,ad,q1,q2⟩:=Kd hr hp;simp_all [pa,Addr.add];grind
 obtain⟨FS1,US1,r1,r2,r3⟩:=UJ hr hF hU hN1'<|.iface t v;have e1:(execOp a.eval o1).run P w= .ok (.value<|.iface t v) w:=by simp_all [run_underlying,execOp,Instr.makeInterface]
 simp only[wpList,BF hr<|Jm (P:=P) (ops:=ops) g1,CC];refine .inl ?_
 try unfold Oper.wp
 rw[e1,Oper.upon_value,k1];have evp1:(a.put (some d1)<|.iface t v).eval (.tmp p)= .pointer (some ⟨blk r,0,none⟩):=by grind [CP]
 obtain⟨FS2,US2,s1,s2,s3⟩:=UJ r1 r2 r3 hN2'<|.func (.func b) #[] #[.pointer<|some ⟨blk r,0,none⟩];have e2:(execOp (a.put (some d1)<|.iface t v).eval o2).run P w= .ok (.value<|.func (.func b) #[] #[.pointer<|some ⟨blk r,0,none⟩]) w:=by simp_all [execOp,Instr.makeFunc]
 simp only[wpList,BF r1<|Jm (P:=P) (ops:=ops) g2,CC];refine .inl ?_
 try unfold Oper.wp
 rw[e2,Oper.upon_value,k2];simp only[wpList,BF s1<|Jm (P:=P) (ops:=ops) g3,CC];refine .inl ?_;have a2:d1<a.tmps.size:=AM hN1' hr.len;have a3:d2<(a.put (some d1)<|.iface t v).tmps.size:=AM hN2' r1.len
 try unfold Oper.wp
 rw[HM h3 hf];have ea: #[Operand.tmp d1,.tmp d2].map ((a.put (some d1)<|.iface t v).put (some d2)<|.func (.func b) #[] #[.pointer<|some ⟨blk r,0,none⟩]).eval= #[.iface t v,.func (.func b) #[] #[.pointer<|some ⟨blk r,0,none⟩]]:=by grind [Ig,CP]
 rw[ea];refine Calls.mono (hs w (blk r) v T b1 b4 z) ?_;rintro ee w' ⟨rfl,a4,h0,h4⟩;have m:((E.put (some d1)<|.one .junk).put (some d2)<|.one .junk).boxes r=some [.sl true e sz<|A8 enc l]:=hc;have g:∃F2,FS2 r=blk r::F2/\F2=B5 v/\US2 r=[]:=by
  rcases s1.box r hm with⟨q1,_⟩|⟨cs,k,T2,F2,q1,q2,q3,q4⟩
  ·grind
  rw[m]at q1
  injection q1 with q1
  subst q1;rw[b1]at q2
  injection q2 with q2
  injection q2 with q2
  subst q2;obtain⟨v2,o,F3,F4,U1,U2,e1,rfl,e3,q5,rfl,rfl,rfl⟩:=q3;simp at e1;subst e1;obtain⟨n,vs,F',c4,c5,rfl⟩:=q5
  grind [KY,Gz]
 obtain⟨F2,f1,rfl,f3⟩:=g;obtain⟨FS3,US3,t1,t2,t3⟩:=s1.turn s2 s3 hm m (cells':=[.sl true e sz<|A8 enc l']) rfl (w':=w') (by grind)
  ⟨#[v],T,B5 v,h0,by
   rw[f3];refine⟨v,[],B5 v,[],[],[],rfl,by simp,rfl,?_,rfl,rfl,rfl⟩
   exact⟨l'.length,_,[],h4,TQ<|Gz c l',by simp⟩,f1⟩
 obtain⟨FS4,US4,u1,u2,u3⟩:=t1.land (w':=w') (d:=d3) (s:= .tup []) (v:= .tuple #[]) (F:=[]) (U:=[]) hN3' (by simp[Im,QH]) Ds (by simp) (by simp) (A3 _) rfl rfl rfl λ_ _ _=>rfl;rw[k3];exact hk _ _ _ _ _ _ _ _ u1 u2 u3
def sQ (b:Nat) (v:Value) (T:TypeId) (e sz n:Nat) (xs:List Value):QD where
 B:=b::B5 v
 I:=λw=>w.heap[b]?=some (.cells #[v] T (0,0))/\w.ownsRow 0 e sz v n xs
 st:=λw w' h hk=>⟨by grind,h.2.1,by
  rcases h.2.2 with q|⟨g,cap,a,rfl,q1,q2,q3⟩
  ·exact .inl q
  grind [B5,Value.ownBlock]⟩
theorem fX {l:List γ} {i:Int} {x:γ} {k:Nat} {n b g cap:Nat} {e T:TypeId} {enc:γ->List TV} (a:∀x,(enc x).length=sz) {t:TV} {ad:Addr} (hi:gi l i=some x) (hk:(enc x)[k]?=some t) (hb:b≠g) (c:ad=⟨g,i.toNat*sz+k,none⟩):(Mk n b g cap e T sz enc l).rd ad=some t.val:=by
 subst c;obtain⟨i0,i1⟩:=If hi;have lm:=(Ae.1 i1).1;have d:=(Ae.1 hk).1;rw[a]at d;have f:(i.toNat+1)*sz<=l.length*sz:=BS _ lm;have e1:(A8 enc l)[i.toNat*sz+k]?=(enc x)[k]? :=by
  have h2:(A8 enc l)[i.toNat*sz+k]?=((A8 enc l).drop<|i.toNat*sz)[k]? :=by grind
  grind [JI,AE,T5]
 grind [Mk]
theorem fY {l:List γ} {n b g cap:Nat} {e T:TypeId} {enc:γ->List TV}:(Mk n b g cap e T sz enc l).rd ⟨b,0,none⟩=some (.slice (some ⟨g,0,none⟩) n cap):=by
 simp[Mk]
theorem WO {g m:Nat}:((⟨g,0,none⟩:Addr).add m)=⟨g,m,none⟩:=by
 unfold Addr.add
 grind
theorem d8 {i:Int} (h:gi l i=some x):0<=i/\i<l.length:=by
 obtain⟨i0,i1⟩:=If h
 grind
def vQ (t t':TV):Prop:=t=t'\/∃e sz a cells',t= .sl true e sz a/\Bm a=cells'/\t'= .sl false e sz cells'
def les:List TV->List TV->Prop
 |[],ts'=>ts'=[]
 |t::ts,ts'=>∃x xs,ts'=x::xs/\vQ t x/\les ts xs
mutual
def ZG:SV->SV->Prop
 | .one t,s'=>∃t',s'= .one t'/\vQ t t'
 | .agg cs,s'=>∃cs',s'= .agg cs'/\les cs cs'
 | .tup ss,s'=>∃ss',s'= .tup ss'/\SZ ss ss'
def SZ:List SV->List SV->Prop
 |[],ss'=>ss'=[]
 |s::ss,ss'=>∃x xs,ss'=x::xs/\ZG s x/\SZ ss xs
end
theorem AB9 {t:TV}:vQ t t:= .inl rfl
theorem AB8:∀{ts:List TV},les ts ts
 |[]=>rfl
 |t::ts=>⟨t,ts,rfl,AB9,AB8⟩
theorem les.c {t x:TV} {ts xs:List TV} (h:vQ t x) (k:les ts xs):les (t::ts) (x::xs):=⟨x,xs,rfl,h,k⟩
theorem vQ.s {e sz:Nat} {a cells':List TV} (h:Bm a=cells'):vQ (.sl true e sz a) (.sl false e sz cells'):= .inr ⟨e,sz,a,cells',rfl,h,rfl⟩
mutual
theorem ACZ:∀{s:SV},ZG s s
 | .one t=>⟨t,rfl,AB9⟩
 | .agg cs=>⟨cs,rfl,AB8⟩
 | .tup ss=>⟨ss,rfl,tJ⟩
theorem tJ:∀{ss:List SV},SZ ss ss
 |[]=>rfl
 |s::ss=>⟨s,ss,rfl,ACZ,tJ⟩
end
theorem ZG.a {cs cs':List TV} (h:les cs cs'):ZG (.agg cs) (.agg cs'):=⟨cs',rfl,h⟩
theorem ZG.o {t t':TV} (h:vQ t t'):ZG (.one t) (.one t'):=⟨t',rfl,h⟩
theorem AEu {ss':List SV} (h:SZ ss ss'):ZG (.tup ss) (.tup ss'):=⟨ss',rfl,h⟩
theorem SZ.c {xs:List SV} {s x:SV} (h:ZG s x) (k:SZ ss xs):SZ (s::ss) (x::xs):=⟨x,xs,rfl,h,k⟩
def I5 (F U F' U':List Nat):Prop:=F'.Sublist F/\∀b∈U',b∈U\/(b∈F/\b∉F')
theorem Sf {F1 F2 U1 U2 F1' F2' U1' U2':List Nat} (hd:(F1++F2).Nodup) (h:I5 F1 U1 F1' U1') (k:I5 F2 U2 F2' U2'):I5 (F1++F2) (U1++U2) (F1'++F2') (U1'++U2'):=by
 obtain⟨_,_,hd⟩:=Dg.1 hd;refine⟨h.1.append k.1,λb hb=>?_⟩
 rcases Az.1 hb with hb|hb
 ·rcases h.2 b hb with q|⟨q1,q2⟩
  ·grind
  refine .inr ⟨by simp[q1],λhc=>?_⟩
  rcases Az.1 hc with hc|hc
  ·exact q2 hc
  exact hd b q1 b (k.1.subset hc) rfl
 rcases k.2 b hb with q|⟨q1,q2⟩
 ·grind
 refine .inr ⟨by simp[q1],λhc=>?_⟩
 rcases Az.1 hc with hc|hc
 ·exact hd b (h.1.subset hc) b q1 rfl
 exact q2 hc
theorem I5.refl:I5 F U F U:=⟨List.Sublist.refl _,λb hb=> .inl hb⟩
theorem ACy {t t':TV} (h:Dl w t v F U) (k:vQ t t'):∃F' U',Dl w t' v F' U'/\I5 F U F' U':=by
 rcases k with rfl|⟨e,sz,a,cells',rfl,rfl,rfl⟩
 ·grind [I5.refl]
 obtain⟨U',h1,h2⟩:=Sa h;exact⟨[],U',h1,List.nil_sublist _,λb hb=>(h2 b hb).elim (λq=> .inr ⟨q,by simp⟩) .inl⟩
def oA (ops:Array Oper) (i:Nat):Oper:=match ops[i]? with
 |some o=>o
 | none => { dst := none, op := .load 0 (.tmp 0), type := 0, pos := "", after := #[], guard := none }
theorem Hx {ops:Array Oper} (h:Nat.blt i ops.size=true):ops[i]?=some (oA ops i):=by grind [FT,oA]
theorem Gh {ops:Array Oper} (h:Nat.blt i ops.size=true):ops.toList.drop i=oA ops i::ops.toList.drop (i+1):=by
 have hi:i<ops.toList.length:=by simpa[FT]using h
 have h1:=Hx h
 grind [AE]
def QF (P:Program) (ops:Array Oper) (E:St) (i:Nat):Bool:=Nat.blt i ops.size&&(match Be P ops E (oA ops i)with|some b=>b|none=>false)
theorem GU {ops:Array Oper} (h:QF P ops E i=true):Nat.blt i ops.size=true/\Be P ops E (oA ops i)=some true:=by grind [QF]
def Hg (N:Nat) (o:Oper):Bool:=match o.dst with
 |some d=>Nat.blt d N
 |none=>false
theorem DR {o:Oper} (h:Hg N o=true):∃d,o.dst=some d/\Nat.blt d N=true/\d<N:=by grind [FT,Hg]
def wH (P:Program) (N:Nat) (ops:Array Oper) (mv:Bool) (E:St) (i:Nat):Option St:=bif Nat.blt i ops.size then
  match Be P ops E (oA ops i)with
  |some true=>Ci P N mv E<|oA ops i
  |some false=>bif Hg N (oA ops i)then some (E.put (oA ops i).dst<|.tup [])else none
  |none=>none else none
def Q6 (P:Program) (N:Nat) (ops:Array Oper):Nat->Nat->Nat->St->Option St
 |0,_,_,E=>some E
 |k+1,m,i,E=>match wH P N ops (Nat.beq (m %2) 1) E i with
  |some E'=>Q6 P N ops k (m/2) (i+1) E'
  |none=>none
def OA (P:Program) (N:Nat) (ops:Array Oper) (k m i:Nat) (E:St):St:=(Q6 P N ops k m i E).getD E
theorem getD_some {α:Type _} {x:Option α} {a:α} (h:x.isSome=true):x=some (x.getD a):=by
 cases x with
 |none=>cases h
 |some y=>rfl
def RW (P:Program) (N:Nat) (ops:Array Oper) (i:Nat) (E:St) (Q:Exit->St->Prop):Prop:=G4 P N ops (ops.toList.drop i) E Q
def SW (P:Program) (N:Nat) (ops:Array Oper) (m i:Nat) (E:St) (K:St->Prop):Prop:=EY P N ops ((ops.toList.take m).drop i) E K
theorem bd {r:β} {x:Option α} {k:α->Option β} (h:x.bind k=some r) (hk:∀a,x=some a->k a=some r->G):G:=by grind [Ag]
theorem RW.nil (h:Q .normal E) (hi:Nat.ble ops.size i=true:=by kernel_rfl):RW P N ops i E Q:=by grind [ABM,Ge,G4.nil,RW]
theorem B3 {mv:Bool} (hs:Ci P N mv E (oA ops i)=some E') (h:RW P N ops (i+1) E' Q) (hk:QF P ops E i=true:=by kernel_rfl):RW P N ops i E Q:=by
 obtain⟨h1,h2⟩:=GU hk
 grind [Gh,G4.op,RW]
theorem RW.st {mv:Bool} (hs:wH P N ops mv E i=some E') (h:RW P N ops (i+1) E' Q):RW P N ops i E Q:=by grind [Gh,G4.op,DR,AAy,wH,RW]
section
variable {m:Nat}
theorem RW.run:∀{k m i:Nat} {E E':St},Q6 P N ops k m i E=some E'->RW P N ops (i+k) E' Q->RW P N ops i E Q
 |0,m,i,E,E',h,hw=>by grind [Q6]
 |k+1,m,i,E,E',h,hw=>by
  simp only[Q6]at h;split at h
  ·rename_i E1 h1;exact RW.st h1 (RW.run h (by grind))
  cases h
end
theorem vL (k m:Nat) (h:RW P N ops (i+k) (OA P N ops k m i E) Q) (hk:(Q6 P N ops k m i E).isSome=true:=by kernel_rfl):RW P N ops i E Q:=RW.run (getD_some hk) h
def xZ (P:Program) (N:Nat) (ops:Array Oper) (i:Nat) (E:St):Bool:=QF P ops E i&&pk (oA ops i)&&Hg N (oA ops i)
theorem oR (h:xZ P N ops i E=true):QF P ops E i=true/\pk (oA ops i)=true/\∃d,(oA ops i).dst=some d/\Nat.blt d N=true/\d<N:=by grind [DR,xZ]
theorem RW.q {s:SV} (hp:AK P E (oA ops i)=some s) (h:RW P N ops (i+1) (E.put (oA ops i).dst s) Q) (hk:xZ P N ops i E=true:=by kernel_rfl):RW P N ops i E Q:=by
 obtain⟨h1,h2,d,h3,h4,_⟩:=oR hk;rw[h3]at h;exact B3 (rM hp h3 h4 h2) h h1
theorem ADT {r:β} {b:Bool} (t:Nat) (h:(bif b then tx else ty)=some r) (ht:tx=some r->RW P N ops i (E.rs t true) Q) (hf:ty=some r->RW P N ops i (E.rs t false) Q) (hc:E.slots t=B b:=by kernel_rfl):RW P N ops i E Q:=AC6 h t ht hf hc
section
variable {m:Nat}
theorem Qh (h:Nat.blt i ops.size=true) (hm:Nat.blt i m=true):(ops.toList.take m).drop i=oA ops i::(ops.toList.take m).drop (i+1):=by
 have hi:i<ops.size:=by simpa[FT]using h
 have a:i<m:=by simp_all
 have hl:i<(ops.toList.take m).length:=by simp;omega
 have h1:=Hx h
 grind [AE]
end
theorem SW.nil {m:Nat} (h:K E) (hi:(Nat.ble ops.size i||Nat.ble m i)=true:=by kernel_rfl):SW P N ops m i E K:=by grind [Ge,ABM,EY.nil,SW]
def oB (P:Program) (N:Nat) (ops:Array Oper) (m:Nat) (E:St) (i:Nat):Option St:=bif Nat.blt i ops.size&&Nat.blt i m&&Hg N (oA ops i)then
  match Be P ops E (oA ops i)with
  |some true=>match Hu P E (oA ops i)with
   |some s=>some<|E.put (oA ops i).dst s
   |none=>none
  |some false=>some<|E.put (oA ops i).dst<|.tup []
  |none=>none else none
def cH (P:Program) (N:Nat) (ops:Array Oper) (m:Nat):Nat->Nat->St->Option St
 |0,_,E=>some E
 |k+1,i,E=>match oB P N ops m E i with
  |some E'=>cH P N ops m k (i+1) E'
  |none=>none
theorem SW.st {m:Nat} (hs:oB P N ops m E i=some E') (h:SW P N ops m (i+1) E' K):SW P N ops m i E K:=by grind [DR,Qh,EY.op,AAt,oB,SW]
theorem SW.run {m:Nat}:∀{k i:Nat} {E E':St},cH P N ops m k i E=some E'->SW P N ops m (i+k) E' K->SW P N ops m i E K
 |0,i,E,E',h,hw=>by grind [cH]
 |k+1,i,E,E',h,hw=>by
  simp only[cH]at h;split at h
  ·rename_i E1 h1;exact SW.st h1 (SW.run h (by grind))
  cases h
theorem CF {m:Nat} (k:Nat) (h:SW P N ops m (i+k) ((cH P N ops m k i E).getD E) K) (hk:(cH P N ops m k i E).isSome=true:=by kernel_rfl):SW P N ops m i E K:=SW.run (getD_some hk) h
theorem SW.q {m:Nat} {s:SV} (hp:AK P E (oA ops i)=some s) (h:SW P N ops m (i+1) (E.put (oA ops i).dst s) K) (hk:(xZ P N ops i E&&Nat.blt i m)=true:=by kernel_rfl):SW P N ops m i E K:=by
 rw[Aj]at hk;obtain⟨h1,h2,d,h3,h4,h5⟩:=oR hk.1;obtain⟨h6,h7⟩:=GU h1
 grind [Qh,EY.op,rO,SW]
theorem WP {m:Nat} {r:β} {b:Bool} (t:Nat) (h:(bif b then tx else ty)=some r) (ht:tx=some r->SW P N ops m i (E.rs t true) K) (hf:ty=some r->SW P N ops m i (E.rs t false) K) (hc:E.slots t=B b:=by kernel_rfl):SW P N ops m i E K:=ACY h t ht hf hc
def zB (n:Nat):List Nat->Array Bool
 |[]=>Array.replicate n false
 |i::l=>(zB n l).setIfInBounds i true
def KW (P:Program) (N:Nat) (ops:Array Oper) (ts:List Nat) (dn:List Nat) (E:St) (Q:Exit->St->Prop):Prop:=WX P N ops ts (ops.size-dn.length) (zB ops.size dn) E Q
def KB (P:Program) (N:Nat) (ops:Array Oper) (ts:List Nat) (dn:List Nat) (i:Nat) (E:St) (Q:Exit->St->Prop):Prop:=eS P N ops ts i E (λE'=>KW P N ops ts (i::dn) E' Q) Q
theorem KW.done {ts:List Nat} (h:Q .normal E) (hr:(Region.ready .any ops (zB ops.size dn)).isEmpty=true:=by kernel_rfl):KW P N ops ts dn E Q:=WX.done h<|by simpa using hr
def rdy (ops:Array Oper) (dn l:List Nat):Bool:=(Region.ready .any ops (zB ops.size dn)==l)&&Nat.blt dn.length ops.size
theorem Sg (h:Nat.blt dn.length ops.size=true):ops.size-dn.length=(ops.size-(i::dn).length)+1:=by grind [FT]
theorem KW.all {ts:List Nat} (l:List Nat) (h:∀i∈l,KB P N ops ts dn i E Q) (a:l≠ []) (hr:rdy ops dn l=true):KW P N ops ts dn E Q:=by
 simp only[rdy,Aj,G5]at hr;unfold KW;rw[Sg (i:=0) hr.2];exact WX.all l (λi hi=>h i hi) hr.1 a
theorem AC {ts:List Nat} (i:Nat) (h:KB P N ops ts dn i E Q) (hr:rdy ops dn [i]=true:=by kernel_rfl):KW P N ops ts dn E Q:=KW.all [i] (λj hj=>by grind) (by simp) hr
theorem BU {ts:List Nat} (i j:Nat) (h:KB P N ops ts dn i E Q) (h2:KB P N ops ts dn j E Q) (hr:rdy ops dn [i,j]=true:=by kernel_rfl):KW P N ops ts dn E Q:=KW.all [i,j] (λm hm=>by grind) (by simp) hr
theorem WY {ts:List Nat} (i j k:Nat) (h:KB P N ops ts dn i E Q) (h2:KB P N ops ts dn j E Q) (h3:KB P N ops ts dn k E Q) (hr:rdy ops dn [i,j,k]=true:=by kernel_rfl):KW P N ops ts dn E Q:=KW.all [i,j,k] (λm hm=>by grind) (by simp) hr
theorem ACn {ts:List Nat} (i j k l:Nat) (h:KB P N ops ts dn i E Q) (h2:KB P N ops ts dn j E Q) (h3:KB P N ops ts dn k E Q) (h4:KB P N ops ts dn l E Q) (hr:rdy ops dn [i,j,k,l]=true:=by kernel_rfl):KW P N ops ts dn E Q:=KW.all [i,j,k,l] (λm hm=>by grind) (by simp) hr
theorem EX {ts:List Nat} {mv:Bool} (hs:Ci P N mv E (oA ops i)=some E') (h:KW P N ops ts (i::dn) E' Q) (hk:(QF P ops E i&&(kp (oA ops i)||ts.contains i))=true:=by kernel_rfl):KB P N ops ts dn i E Q:=by
 rw[Aj]at hk;obtain⟨h1,h2⟩:=GU hk.1;exact eS.op i mv h hs (Hx h1) h2 hk.2
theorem KB.q {ts:List Nat} {s:SV} (hp:AK P E (oA ops i)=some s) (h:KW P N ops ts (i::dn) (E.put (oA ops i).dst s) Q) (hk:(xZ P N ops i E&&(kp (oA ops i)||ts.contains i))=true:=by kernel_rfl):KB P N ops ts dn i E Q:=by
 rw[Aj]at hk;obtain⟨h1,h2,d,h3,h4,h5⟩:=oR hk.1;rw[h3]at h;exact EX (rM hp h3 h4 h2) h<|by grind
def tQ (ops:Array Oper) (ts dn:List Nat) (i:Nat):Bool:=Nat.blt dn.length ops.size&&Sv ops ts ops.size i (zB ops.size dn)
theorem ADb {ts:List Nat} {s:SV} (i:Nat) (hp:Hu P E (oA ops i)=some s) (h:KW P N ops ts (i::dn) (E.put (oA ops i).dst s) Q) (hk:(QF P ops E i&&Hg N (oA ops i)&&tQ ops ts dn i)=true):KW P N ops ts dn E Q:=by
 simp only[Aj,tQ]at hk;obtain⟨⟨h1,h2⟩,h3,h4⟩:=hk;obtain⟨h5,h6⟩:=GU h1;obtain⟨d,h7,h8,_⟩:=DR h2;unfold KW at h⊢;rw[Sg (i:=i) h3];rw[h7]at h;exact WX.take ops.size i d s h hp (Hx h5) h4 h6 h7 h8
theorem KW.q {ts:List Nat} {s:SV} (i:Nat) (hp:AK P E (oA ops i)=some s) (h:KW P N ops ts (i::dn) (E.put (oA ops i).dst s) Q) (hk:(xZ P N ops i E&&tQ ops ts dn i)=true:=by kernel_rfl):KW P N ops ts dn E Q:=by grind [ADb,rO,xZ]
theorem ADY {ts:List Nat} (i:Nat) (h:KW P N ops ts (i::dn) (E.put (oA ops i).dst (.tup [])) Q) (hg:Be P ops E (oA ops i)=some false) (hk:(Nat.blt i ops.size&&Hg N (oA ops i)&&tQ ops ts dn i)=true):KW P N ops ts dn E Q:=by
 simp only[Aj,tQ]at hk;obtain⟨⟨h1,h2⟩,h3,h4⟩:=hk;obtain⟨d,h7,h8,_⟩:=DR h2;unfold KW at h⊢;rw[Sg (i:=i) h3];rw[h7]at h;exact iW ops.size i d h (Hx h1) h4 hg h7 h8
def zG (P:Program) (N:Nat) (ops:Array Oper) (ts:List Nat) (mv:Bool) (dn:List Nat) (E:St) (i:Nat):Option St:=match Be P ops E (oA ops i)with
 |some false=>bif Nat.blt i ops.size&&Hg N (oA ops i)&&tQ ops ts dn i then some (E.put (oA ops i).dst<|.tup [])else none
 |some true=>bif Nat.blt i ops.size&&Hg N (oA ops i)&&tQ ops ts dn i&&!mv then
   (match Hu P E (oA ops i)with
   |some s=>some<|E.put (oA ops i).dst s
   |none=>bif rdy ops dn [i]&&(kp (oA ops i)||ts.contains i)then Ci P N mv E (oA ops i)else none) else bif Nat.blt i ops.size&&rdy ops dn [i]&&(kp (oA ops i)||ts.contains i)then Ci P N mv E (oA ops i)else none
 |none=>none
section
variable {m:Nat}
def zH (P:Program) (N:Nat) (ops:Array Oper) (ts:List Nat):List Nat->Nat->List Nat->St->Option St
 |[],_,_,E=>some E
 |i::l,m,dn,E=>match zG P N ops ts (Nat.beq (m %2) 1) dn E i with
  |some E'=>zH P N ops ts l (m/2) (i::dn) E'
  |none=>none
end
def fZ:List Nat->List Nat->List Nat
 |[],dn=>dn
 |i::l,dn=>fZ l (i::dn)
section
variable {ts:List Nat}
theorem KW.st {mv:Bool} (hs:zG P N ops ts mv dn E i=some E') (h:KW P N ops ts (i::dn) E' Q):KW P N ops ts dn E Q:=by
 unfold zG at hs;split at hs
 ·grind [ADY]
 ·rename_i hg;have one:(Nat.blt i ops.size&&rdy ops dn [i]&&(kp (oA ops i)||ts.contains i))=true->Ci P N mv E (oA ops i)=some E'->KW P N ops ts dn E Q:=by
   intro hb hs;simp only[Aj]at hb;refine AC i (EX hs h ?_) hb.1.2
   grind [QF]
  grind [ADb,QF]
 cases hs
end
section
variable {m:Nat} {ts:List Nat}
theorem KW.run:∀{l:List Nat} {m:Nat} {dn:List Nat} {E E':St},zH P N ops ts l m dn E=some E'->KW P N ops ts (fZ l dn) E' Q->KW P N ops ts dn E Q
 |[],m,dn,E,E',h,hw=>by
  injection h with h
  subst h;exact hw
 |i::l,m,dn,E,E',h,hw=>by
  simp only[zH]at h;split at h
  ·rename_i E1 h1;exact KW.st h1 (KW.run h hw)
  cases h
end
theorem A4 {ts:List Nat} (l:List Nat) (m:Nat) (h:KW P N ops ts (fZ l dn) ((zH P N ops ts l m dn E).getD E) Q) (hk:(zH P N ops ts l m dn E).isSome=true:=by kernel_rfl):KW P N ops ts dn E Q:=KW.run (getD_some hk) h
theorem I6 {r:β} {ts:List Nat} {b:Bool} (t:Nat) (h:(bif b then tx else ty)=some r) (ht:tx=some r->KW P N ops ts dn (E.rs t true) Q) (hf:ty=some r->KW P N ops ts dn (E.rs t false) Q) (hc:E.slots t=B b:=by kernel_rfl):KW P N ops ts dn E Q:=ADa h t ht hf hc
theorem ACl {id:Nat} (h:RW P N ops 0 E Q):Wp P N (.region id ops false) E Q:=by
 have:=Wp.region (id:=id) (l:=ops.toList) (P:=P) (N:=N) (E:=E) (Q:=Q) (by simpa[RW]using h);simpa using this
theorem KC {id:Nat} (hm:P.follows .mixedOrders=true) (h:SW P N ops ops.size 0 E (λE'=>Q .normal E')) (hB:Region.lexB .any ops=true:=by kernel_rfl):Wp P N (.region id ops true) E Q:=by
 have:=Qn (id:=id) (l:=ops.toList) (P:=P) (N:=N) (E:=E) (Q:=Q) hm (by simpa using hB) (by simp_all [AQ,SW]);simpa using this
theorem Oj {id:Nat} (n:Nat) (hm:P.follows .mixedOrders=true) (h:SW P N ops n 0 E (λE'=>RW P N ops n E' Q)) (hB:Region.lexTailB .any ops n=true:=by kernel_rfl):Wp P N (.region id ops true) E Q:=by
 have:=qG (id:=id) (l:=ops.toList) (P:=P) (N:=N) (E:=E) (Q:=Q) n hm (by simpa using hB) (by simp_all [SW,RW]);simpa using this
theorem C4 {id:Nat} (ts:List Nat) (hm:P.follows .mixedOrders=true) (hQ:∀c E,Q (.panic c) E->False) (h:KW P N ops ts [] E Q):Wp P N (.region id ops true) E Q:=
 qH ops.size ts hm hQ (by grind [KW,zB]) rfl
def cV (E:St) (x:Operand) (sz:Nat):Option (List TV):=match E.ref x with
 |some (r,q,j)=>match E.place r q j with
  |some (.sl _ _ s cells)=>bif Nat.beq s sz then some cells else none
  |_=>none
 |none=>none
theorem Pu {x:Operand} {a:List TV} (h:cV E x sz=some a):∃r q j b e,E.ref x=some (r,q,j)/\E.place r q j=some (.sl b e sz a):=by grind [AP,cV]
def Xi (P:Program) (t:TypeId):TypeId:=match P.underlying t with
 |some (.slice e)=>e
 |_=>0
def Xa (P:Program) (t:TypeId) (sz:Nat):Bool:=match P.underlying t with
 |some (.slice e)=>Nat.beq (P.cellsOf e) sz&&Nat.blt 0 sz
 |_=>false
theorem Ls {t:TypeId} (h:Xa P t sz=true):∃e,P.underlying t=some (.slice e)/\P.cellsOf e=sz/\Nat.blt 0 sz=true:=by grind [AP,Xa]
def Hw (E:St) (x:Operand):Root×List Nat×Nat:=(E.ptr? x).getD (.hand,[],0)
def K7 (E:St) (x:Operand):Root×List Nat×Nat:=(E.ref x).getD (.hand,[],0)
def Rf (E:St) (x:Operand):Option (List TV×Nat):=match E.ptr? x with
 |some (r,q,j)=>match(E.root r).bind λcs=>B7 cs q with
  |some row=>some (row,j)
  |none=>none
 |none=>none
theorem Re {x:Operand} {a:List TV} (h:Rf E x=some (a,j)):E.ptr? x=some ((Hw E x).1,(Hw E x).2.1,j)/\(E.root (Hw E x).1).bind (λcs=>B7 cs (Hw E x).2.1)=some a:=by grind [Rf,Hw]
theorem uF {x:Operand} {r:Root} {q:List Nat} {a:List TV} (h1:E.ptr? x=some (r,q,j)) (h2:(E.root r).bind (λcs=>B7 cs q)=some a):Rf E x=some (a,j):=by
 unfold Rf
 grind
def Ff (o:Oper):TypeId×Operand×Operand:=match o.op with
 | .indexAddr t a i=>(t,a,i)
 |_=>(0,.tmp 0,.tmp 0)
def uS (o:Oper):Bool:=match o.op with
 | .indexAddr .. =>true
 |_=>false
theorem sV {o:Oper} (h:uS o=true):o.op= .indexAddr (Ff o).1 (Ff o).2.1 (Ff o).2.2:=by grind [uS,Ff]
def SL (P:Program) (E:St) (x:Operand):Option Int:=match E.cell1 P 0 x with
 |some (.int _ n)=>some n
 |_=>none
theorem HS {x:Operand} (h:SL P E x=some n):∃k,E.cell1 P 0 x=some (.int k n):=by grind [SL]
def zK (P:Program) (E:St) (o:Oper) (sz:Nat):Option (List TV×Int):=bif uS o&&Xa P (Ff o).1 sz then(match cV E (Ff o).2.1 sz,SL P E (Ff o).2.2 with
 |some c,some n=>some (c,n)
 |_,_=>none)else none
def lH (E:St) (o:Oper) (m:Nat):SV:= .one (.ptr (K7 E (Ff o).2.1).1 (E.ver (K7 E (Ff o).2.1).1) ((K7 E (Ff o).2.1).2.1++ [(K7 E (Ff o).2.1).2.2]) m)
theorem I9 {o:Oper} (hf:∀x,(f x).length=sz) (hx:gi l n=some x) (hc:zK P E o sz=some (A8 f l,n):=by kernel_rfl):AK P E o=some (lH E o<|n.toNat*sz+0):=by grind [Pu,HS,Ls,ADx,zK,uS,Ff,lH,K7]
section
variable {o:Oper}
theorem ACD (hf:∀x,(f x).length=sz) (hx:gi l n=some x) (hf':∀x,(f' x).length=sz') (hx':gi l' n'=some x') (k:Nat) (hi:(uS o&&Xa P (Ff o).1 sz&&Nat.blt k sz')=true:=by kernel_rfl) (hn:SL P E (Ff o).2.2=some n:=by kernel_rfl) (hr:E.ref (Ff o).2.1=some ((K7 E (Ff o).2.1).1,(K7 E (Ff o).2.1).2.1,n'.toNat*sz'+k):=by kernel_rfl) (hp:(E.root (K7 E (Ff o).2.1).1).bind (λcs=>B7 cs (K7 E (Ff o).2.1).2.1)=some (A8 f' l'):=by kernel_rfl) {a:Bool} (hc:(f' x')[k]?=some (.sl a e' sz<|A8 f l):=by rfl):AK P E o=some (lH E o<|n.toNat*sz+0):=by
 simp only[Aj]at hi;obtain⟨k',h5⟩:=HS hn;obtain⟨e,h6,h7,h8⟩:=Ls hi.1.2;have b:E.place (K7 E (Ff o).2.1).1 (K7 E (Ff o).2.1).2.1 (n'.toNat*sz'+k)=some (.sl a e' sz<|A8 f l):=by
  obtain⟨cs,h1,h2⟩:=Ag.1 hp
  grind [Qc,St.place]
 grind [ADx,sV,K7,Ff,lH]
end
theorem pr2 {a:Operand} {b:List TV} (q0:Nat) (hf':∀x,(f' x).length=sz') (hx':gi l' n'=some x') (k:Nat) (h1:E.ptr? a=some ((Hw E a).1,[q0,n'.toNat*sz'+k],j):=by kernel_rfl) (hc:(E.root (Hw E a).1).bind (λcs=>B7 cs [q0])=some (A8 f' l'):=by kernel_rfl) (c:B7 (f' x') [k]=some b:=by kernel_rfl) (hk:Nat.blt k sz'=true:=by kernel_rfl):Rf E a=some (b,j):=by
 refine uF h1 ?_;obtain⟨cs,h2,h3⟩:=Ag.1 hc
 grind [tD,B7]
def RD (o:Oper):TypeId×Operand×Nat:=match o.op with
 | .fieldAddr t a i=>(t,a,i)
 |_=>(0,.tmp 0,0)
def ACN (o:Oper):Bool:=match o.op with
 | .fieldAddr .. =>true
 |_=>false
theorem ABr {o:Oper} (h:ACN o=true):o.op= .fieldAddr (RD o).1 (RD o).2.1 (RD o).2.2:=by grind [ACN,RD]
def ACd (P:Program) (o:Oper):Option Nat:=match P.underlying (RD o).1 with
 |some (.struct fs)=>match fs[(RD o).2.2]? with
  |some fd=>bif Nat.beq (P.cellsOf fd.type) 0 then none else some fd.offset
  |none=>none
 |_=>none
def ADN (E:St) (o:Oper) (m:Nat):SV:= .one (.ptr (Hw E (RD o).2.1).1 (E.stamp (Hw E (RD o).2.1).1 (Hw E (RD o).2.1).2.1) (Hw E (RD o).2.1).2.1 m)
theorem CS {o:Oper} (hf:∀x,(f x).length=sz) (hx:gi l n=some x) (k m:Nat) (hr:Rf E (RD o).2.1=some (A8 f l,n.toNat*sz+k):=by kernel_rfl) (ho:(ACN o&&Nat.blt m sz)=true:=by kernel_rfl) (a:ACd P o=some (m-k):=by kernel_rfl) (c:Nat.ble k m=true:=by kernel_rfl):AK P E o=some (ADN E o<|n.toNat*sz+m):=by
 rw[Aj]at ho;obtain⟨h1,h2⟩:=Re hr;have d:k<=m:=by simp_all
 unfold ACd at a;split at a
 ·rename_i fs hs;split at a
  ·rename_i fd b
   cases hb:Nat.beq (P.cellsOf fd.type) 0 with
   |true=>grind
   |false=>
    rw[hb]at a
    injection a with a
    have hm:k+fd.offset=m:=by omega
    exact AEm hf _ _ k hx h2 (ABr ho.1) hs h1 b hb hm<|by grind
  cases a
 cases a
def NV (o:Oper):TypeId×Operand:=match o.op with
 | .load t a=>(t,a)
 |_=>(0,.tmp 0)
def ABq (o:Oper):Bool:=match o.op with
 | .load .. =>true
 |_=>false
theorem sU {o:Oper} (h:ABq o=true):o.op= .load (NV o).1 (NV o).2:=by grind [ABq,NV]
def ACa (P:Program) (o:Oper) (k sz:Nat):Bool:=ABq o&&!bJ P (NV o).1&&Nat.beq (P.cellsOf (NV o).1) 1&&(P.underlying (NV o).1).isSome&&Nat.blt k sz
def ACb (P:Program) (o:Oper) (k m sz:Nat):Bool:=ABq o&&bJ P (NV o).1&&Nat.beq (P.cellsOf (NV o).1) m&&Nat.ble (k+m) sz
def ldC (E:St) (o:Oper) (j:Nat) (u:TV):SV:= .one (see E (Hw E (NV o).2).1 (Hw E (NV o).2).2.1 j u)
def ldA (E:St) (o:Oper) (j:Nat) (us:List TV):SV:= .agg (Vz E (Hw E (NV o).2).1 (Hw E (NV o).2).2.1 j us)
theorem BY {o:Oper} (hf:∀x,(f x).length=sz) (hx:gi l n=some x) (k:Nat) (hr:Rf E (NV o).2=some (A8 f l,n.toNat*sz+k):=by kernel_rfl) (ho:ACa P o k sz=true:=by kernel_rfl):AK P E o=some (ldC E o (n.toNat*sz+k)<|((f x)[k]?).getD .junk):=by
 simp only[ACa,Aj,D6]at ho;obtain⟨⟨⟨⟨h3,h4⟩,h5⟩,h6⟩,h7⟩:=ho;obtain⟨h1,h2⟩:=Re hr;have hk:k<(f x).length:=by simp_all
 refine AEl hf _ _ k _ hx h2 (sU h3) h1 h4 (AP h5) h6 h7 ?_
 grind
theorem I8 {o:Oper} (hf:∀x,(f x).length=sz) (hx:gi l n=some x) (k m:Nat) (hr:Rf E (NV o).2=some (A8 f l,n.toNat*sz+k):=by kernel_rfl) (ho:ACb P o k m sz=true:=by kernel_rfl):AK P E o=some (ldA E o (n.toNat*sz+k)<|((f x).drop k).take m):=by
 simp only[ACb,Aj]at ho;obtain⟨⟨⟨h3,h4⟩,h5⟩,h6⟩:=ho;obtain⟨h1,h2⟩:=Re hr;exact AEk hf _ _ k m hx h2 (sU h3) h1 h4 (AP h5) h6
def OJ (o:Oper):TypeId×Operand:=match o.op with
 | .call c=>match c.callee,c.args.toList,c.argTypes.toList with
  | .builtin .len,[x],[t]=>(t,x)
  |_,_,_=>(0,.tmp 0)
 |_=>(0,.tmp 0)
def ABp (o:Oper):Bool:=match o.op with
 | .call c=>match c.callee,c.args.toList,c.argTypes.toList with
  | .builtin .len,[x],[t]=>true
  |_,_,_=>false
 |_=>false
theorem sT {o:Oper} (h:ABp o=true):o.op= .call {callee:= .builtin .len,args:= #[(OJ o).2],argTypes:= #[(OJ o).1]}:=by
 unfold ABp at h;unfold OJ;split at h
 ·rename_i c hc;split at h
  ·rename_i x t h1 h2 h3;obtain⟨callee,args,types⟩:=c;subst h1;obtain rfl:args= #[x]:=by cases args;simp_all
   obtain rfl:types= #[t]:=by cases types;simp_all
   rw[hc]
  cases h
 cases h
theorem BN {o:Oper} (hf:∀x,(f x).length=sz) (l:List α) (hr:cV E (OJ o).2 sz=some (A8 f l):=by kernel_rfl) (ho:(ABp o&&Xa P (OJ o).1 sz)=true:=by kernel_rfl):AK P E o=some (.one<|.int .i64<|ln l):=by
 rw[Aj]at ho;obtain⟨r,q,j,a,e',h3,h4⟩:=Pu hr;obtain⟨e,h6,h7,h8⟩:=Ls ho.2;exact ADw hf l (sT ho.1) h6 h3 h4 h8
section
variable {o:Oper}
theorem AEh (hf:∀x,(f x).length=sz) (l:List α) (hf':∀x,(f' x).length=sz') (hx':gi l' n'=some x') (k:Nat) (ho:(ABp o&&Xa P (OJ o).1 sz&&Nat.blt k sz')=true:=by kernel_rfl) (hr:E.ref (OJ o).2=some ((K7 E (OJ o).2).1,(K7 E (OJ o).2).2.1,n'.toNat*sz'+k):=by kernel_rfl) (hp:(E.root (K7 E (OJ o).2).1).bind (λcs=>B7 cs (K7 E (OJ o).2).2.1)=some (A8 f' l'):=by kernel_rfl) {a:Bool} (hc:(f' x')[k]?=some (.sl a e' sz<|A8 f l):=by rfl):AK P E o=some (.one<|.int .i64<|ln l):=by
 simp only[Aj]at ho;obtain⟨e,h6,h7,h8⟩:=Ls ho.1.2;have b:E.place (K7 E (OJ o).2).1 (K7 E (OJ o).2).2.1 (n'.toNat*sz'+k)=some (.sl a e' sz<|A8 f l):=by
  obtain⟨cs,h1,h2⟩:=Ag.1 hp
  grind [Qc,St.place]
 exact ADw hf l (sT ho.1.1) h6 hr b h8
end
def Wn (P:Program) (E:St) (t:TypeId) (x:Operand):Option ByteArray:=match E.cell1 P t x with
 |some (.str s)=>some s
 |_=>none
theorem MW {x:Operand} {t:TypeId} {s:ByteArray} (h:Wn P E t x=some s):E.cell1 P t x=some (.str s):=by grind [Wn]
def dV (P:Program) (t:TypeId):Bool:=match P.underlying t with
 |some .string=>true
 |_=>false
theorem UK {t:TypeId} (h:dV P t=true):P.underlying t=some .string:=by grind [dV]
def AB0 (P:Program) (E:St) (o:Oper):Option (ByteArray×Int):=match o.op with
 | .index t a i=>match dV P t,Wn P E t a,SL P E i with
  |true,some s,some n=>some (s,n)
  |_,_,_=>none
 |_=>none
theorem aO {o:Oper} {s:ByteArray} {n b:Int} (h:sx s n=some b) (hc:AB0 P E o=some (s,n):=by kernel_rfl):AK P E o=some (.one<|.int .u8 b):=by grind [HS,AEj,UK,MW,AB0]
def mG (P:Program) (E:St) (d:Int):Option Operand->Option Int
 |none=>some d
 |some x=>SL P E x
def wF (P:Program) (E:St) (o:Oper):Option (ByteArray×Int×Int):=match o.op with
 | .slice t a lo hi none=>match dV P t,Wn P E t a with
  |true,some s=>match mG P E 0 lo,mG P E (s.size:Nat) hi with
   |some l,some h=>some (s,l,h)
   |_,_=>none
  |_,_=>none
 |_=>none
section
variable {o:Oper}
theorem T4 {d:Int} {x:Option Operand} (h:mG P E d x=some n):∃k,(match x with|some o=>E.cell1 P 0 o|none=>some (.int .i64 d))=some (.int k n):=by
 cases x with
 |none=>
  injection h with h
  simp_all
 |some x=>exact HS h
end
theorem Rg {o:Oper} {s u:ByteArray} {l h:Int} (hx:sub s l h=some u) (hc:wF P E o=some (s,l,h):=by kernel_rfl):AK P E o=some (.one<|.str u):=by
 unfold wF at hc
 grind [T4,ADu,UK,MW]
def AAh (P:Program) (E:St) (o:Oper):Option (ByteArray×ByteArray):=match o.op with
 | .binOp .add t x y _=>match Wn P E t x,Wn P E t y with
  |some a,some b=>some (a,b)
  |_,_=>none
 |_=>none
theorem E0 {o:Oper} {a b u:ByteArray} (hx:H3 a b=some u) (hc:AAh P E o=some (a,b):=by kernel_rfl):AK P E o=some (.one<|.str u):=by grind [ADz,MW,AAh]
def Qz (o:Oper):TypeId×TypeId×Operand:=match o.op with
 | .convert s d x=>(s,d,x)
 |_=>(0,0,.tmp 0)
def ADO (P:Program) (o:Oper):Bool:=match o.op with
 | .convert s d x=>(match P.underlying s,P.underlying d with
  |some (.slice e),some .string=>(match P.underlying e with
   |some (.int .u8)=>true
   |_=>false)
  |_,_=>false)
 |_=>false
theorem jA {o:Oper} {f:Int->List TV} (hf:∀n,f n=[.int .u8 n]) (l:List Int) (hr:cV E (Qz o).2.2 1=some (A8 f l):=by kernel_rfl) (ho:ADO P o=true:=by kernel_rfl):AK P E o=some (.one<|.str<|EZ l):=by grind [Pu,AEo,ADO,Qz]
def wN (P:Program) (E:St) (o:Oper) (k:IntKind):Option (Int×Int):=match o.op with
 | .binOp .shl t x y _=>match E.cell1 P t x,E.cell1 P t y with
  |some (.int k' a),some (.int _ b)=>bif decide (k'=k)then some (a,b)else none
  |_,_=>none
 |_=>none
theorem AEg {o:Oper} {a b v:Int} (hx:shl k a b=some v) (hc:wN P E o k=some (a,b):=by kernel_rfl):AK P E o=some (.one<|.int k v):=by grind [ADv,wN]
def OS (o:Oper):TypeId×Operand×Option Operand×Option Operand:=match o.op with
 | .slice t x lo hi none=>(t,x,lo,hi)
 |_=>(0,.tmp 0,none,none)
def ABs (o:Oper):Bool:=match o.op with
 | .slice t x lo hi none=>true
 |_=>false
theorem sW {o:Oper} (h:ABs o=true):o.op= .slice (OS o).1 (OS o).2.1 (OS o).2.2.1 (OS o).2.2.2 none:=by grind [ABs,OS]
def rY (E:St) (x:Operand) (sz:Nat):Option (Nat×List TV):=match E.ref x with
 |some (r,q,j)=>match E.place r q j with
  |some (.sl false e s cells)=>bif Nat.beq s sz then some (e,cells)else none
  |_=>none
 |none=>none
theorem Yv {x:Operand} {a:List TV} {e:Nat} (h:rY E x sz=some (e,a)):∃r q j,E.ref x=some (r,q,j)/\E.place r q j=some (.sl false e sz a):=by grind [AP,rY]
theorem pdr {o:Oper} {v:List α} (hf:∀x,(f x).length=sz) {a b:Int} (e:Nat) (hx:dr l a b=some v) (hr:rY E (OS o).2.1 sz=some (e,A8 f l):=by kernel_rfl) (ha:mG P E 0 (OS o).2.2.1=some a:=by kernel_rfl) (hb:((OS o).2.2.2.bind<|SL P E)=some b:=by kernel_rfl) (ho:(ABs o&&Xa P (OS o).1 sz)=true:=by kernel_rfl):AK P E o=some (.one<|.sl false e sz<|A8 f v):=by
 rw[Aj]at ho;obtain⟨r,q,j,h1,h2⟩:=Yv hr;obtain⟨e1,h6,h7,h8⟩:=Ls ho.2;obtain⟨k1,h3⟩:=T4 ha;obtain⟨oh,h4,h5⟩:=Ag.1 hb;obtain⟨k2,h5⟩:=HS h5;have:=sW ho.1
 grind [AEn]
theorem ACF {o:Oper} {v:List α} (hf:∀x,(f x).length=sz) {a:Int} (e:Nat) (hx:dr l a (ln l)=some v) (hr:rY E (OS o).2.1 sz=some (e,A8 f l):=by kernel_rfl) (ha:mG P E 0 (OS o).2.2.1=some a:=by kernel_rfl) (ho:(ABs o&&Xa P (OS o).1 sz&&(OS o).2.2.2.isNone)=true:=by kernel_rfl):AK P E o=some (.one<|.sl false e sz<|A8 f v):=by
 simp only[Aj]at ho;obtain⟨r,q,j,h1,h2⟩:=Yv hr;obtain⟨e1,h6,h7,h8⟩:=Ls ho.1.2;obtain⟨k1,h3⟩:=T4 ha;have:=sW ho.1.1
 grind [Option.isNone_iff_eq_none,ADy]
def ADo (P:Program) (E:St) (o:Oper) (m:Nat):Bool:=match P.underlying (Ff o).1 with
 |some (.array len e)=>uS o&&Nat.beq (P.cellsOf e) 1&&Nat.blt m len&&(match E.ptr? (Ff o).2.1 with
  |some (r,q,j)=>(E.place r q<|j+m).isSome
  |none=>false)
 |_=>false
def ABX (E:St) (o:Oper) (m:Nat):SV:= .one (.ptr (Hw E (Ff o).2.1).1 (E.stamp (Hw E (Ff o).2.1).1 (Hw E (Ff o).2.1).2.1) (Hw E (Ff o).2.1).2.1<|(Hw E (Ff o).2.1).2.2+m)
theorem pxa {o:Oper} (m:Nat) (hn:n=(m:Int)) (hi:SL P E (Ff o).2.2=some n:=by kernel_rfl) (ho:ADo P E o m=true:=by kernel_rfl):AK P E o=some (ABX E o m):=by
 unfold ADo at ho;split at ho
 ·rename_i len e ht;simp only[Aj]at ho;obtain⟨⟨⟨h1,h2⟩,h3⟩,h4⟩:=ho;obtain⟨k,hi⟩:=HS hi;split at h4
  ·rename_i r q j hp;have:=AEi r q j hn (sV h1) ht hi hp (AP h2) h3 h4
   grind [ABX,Hw]
  cases h4
 cases ho
def Eu (o:Oper):TypeId×TypeId×Operand×Operand:=match o.op with
 | .call c=>match c.callee,c.args.toList,c.argTypes.toList with
  | .builtin .append,[s,x],[t,t']=>(t,t',s,x)
  |_,_,_=>(0,0,.tmp 0,.tmp 0)
 |_=>(0,0,.tmp 0,.tmp 0)
def zL (o:Oper):Bool:=match o.op with
 | .call c=>match c.callee,c.args.toList,c.argTypes.toList with
  | .builtin .append,[s,x],[t,t']=>true
  |_,_,_=>false
 |_=>false
theorem gI {o:Oper} (h:zL o=true):o.op= .call {callee:= .builtin .append,args:= #[(Eu o).2.2.1,(Eu o).2.2.2],argTypes:= #[(Eu o).1,(Eu o).2.1]}:=by
 unfold zL at h;unfold Eu;split at h
 ·rename_i c hc;split at h
  ·rename_i s x t t' h1 h2 h3;obtain⟨callee,args,types⟩:=c;subst h1;obtain rfl:args= #[s,x]:=by grind
   obtain rfl:types= #[t,t']:=by grind
   rw[hc]
  cases h
 cases h
def ABI (P:Program) (N:Nat) (o:Oper) (sz by_:Nat):Bool:=zL o&&Nat.beq (Eu o).1 (Eu o).2.1&&Xa P (Eu o).1 sz&&(Lq P<|Xi P (Eu o).1).isSome&&Nat.beq (P.bytesOf<|Xi P (Eu o).1) by_&&Nat.blt 0 by_&&Hg N o
def ST (P:Program) (E:St) (o:Oper) (sz:Nat):Option (List TV×St):=match E.cell1 P (Eu o).1 (Eu o).2.2.1 with
 |some sv=>match EO E sv with
  |some (.sl true e s cells,E1)=>bif Nat.beq e (Xi P (Eu o).1)&&Nat.beq s sz then some (cells,E1)else none
  |_=>none
 |none=>none
def apE (P:Program) (E:St) (o:Oper) (sz:Nat):St:=((ST P E o sz).map Prod.snd).getD E
def apV (P:Program) (o:Oper) (sz:Nat) (a:List TV):SV:= .one (.sl true (Xi P (Eu o).1) sz a)
def AAp (P:Program) (E1:St) (o:Oper) (sz:Nat):Option (Nat×List TV×St):=match E1.ref (Eu o).2.2.2 with
 |some (r,q,j)=>match E1.place r q j with
  |some (.sl _ _ s cells)=>bif Nat.beq s sz then(match Gk E1 (Vz E1 r (q++ [j]) 0 cells)with
   |some (news,E2)=>some (cells.length,news,E2)
   |none=>none)else none
  |_=>none
 |none=>none
theorem XA {t:TypeId} {e:TypeId} (h:P.underlying t=some (.slice e)):Xi P t=e:=by unfold Xi;rw[h]
theorem ADM {o:Oper} {E1 E2:St} {e2:Nat} {cells2:List TV} (hf:∀x,(f x).length=sz) (l m:List α) (h:ap by_ l m=some u) (hd:ST P E o sz=some (A8 f l,E1)) {r:Root} {q:List Nat} {b:Bool} (hr:E1.ref (Eu o).2.2.2=some (r,q,j)) (hp:E1.place r q j=some (.sl b e2 sz cells2)) (hn:Gk E1 (Vz E1 r (q++ [j]) 0 cells2)=some (A8 f m,E2)) (hl:cells2.length=m.length*sz) (ho:ABI P N o sz by_=true):Ci P N false E o=some (E2.put o.dst (apV P o sz (A8 f u))):=by
 obtain⟨rfl,g⟩:=ABH h;simp only[ABI,Aj]at ho;obtain⟨⟨⟨⟨⟨⟨a1,a2⟩,a3⟩,a4⟩,a5⟩,a6⟩,a7⟩:=ho;obtain⟨d,a8,_,a9⟩:=DR a7;obtain⟨e,b1,b2,b3⟩:=Ls a3;have a:=XA b1;rw[a]at a4 a5;have h0':0<sz:=by simp_all
 have hb0':0<by_:=by simp_all
 have hb:=AP a5;have i:=AP a2;unfold ST at hd;rw[a]at hd;split at hd
 ·rename_i sv hs;split at hd
  ·rename_i e1 s c E1' h1
   cases hc:(Nat.beq e1 e&&Nat.beq s sz)with
   |false=>grind
   |true=>
    rw[hc]at hd
    injection hd with hd
    injection hd with hd1 hd2
    rw[Aj]at hc;have c1:=AP hc.1;have c2:=AP hc.2;subst hd1 hd2 c1 c2;have k:(A8 f l).length/s=l.length:=by simp_all [Ep]
    have n:cells2.length/s=m.length:=by simp_all
    have p:l.length+m.length<=(l.length+m.length)*by_:=Nat.le_mul_of_pos_right _ hb0';simp_all [gI,WG,Ci,MP,apV];grind
  cases hd
 cases hd
theorem TA {o:Oper} {a:List TV} (h:(ST P E o sz).map Prod.fst=some a):ST P E o sz=some (a,apE P E o sz):=by grind [apE,ST]
theorem BO {o:Oper} (hf:∀x,(f x).length=sz) (hg:∀x,IJ (f x)=true) (l:List α) {m u:List α} (h:ap by_ l m=some u) (hd:(ST P E o sz).map Prod.fst=some (A8 f l):=by kernel_rfl) (hm:cV (apE P E o sz) (Eu o).2.2.2 sz=some (A8 f m):=by kernel_rfl) (ho:ABI P N o sz by_=true:=by kernel_rfl):
  Ci P N false E o=some ((apE P E o sz).put o.dst<|apV P o sz<|A8 f u):=by
 obtain⟨r,q,j,a,e,h1,h2⟩:=Pu hm;exact ADM hf l m h (TA hd) h1 h2 (by grind [Yf,Y0,Qs]) (Ep hf m) ho
section
variable {o:Oper}
theorem VS (hf:∀x,(f x).length=sz) (l m:List α) (h:ap by_ l m=some u) (hd:(ST P E o sz).map Prod.fst=some (A8 f l):=by kernel_rfl) (hm:(AAp P (apE P E o sz) o sz).map (λz=>(z.1,z.2.1))=some (m.length*sz,A8 f m):=by kernel_rfl) (ho:ABI P N o sz by_=true:=by kernel_rfl):
  Ci P N false E o=some ((((AAp P (apE P E o sz) o sz).map λz=>z.2.2).getD E).put o.dst<|apV P o sz<|A8 f u):=by
 have hd':=TA hd;generalize hE:apE P E o sz=E1 at hm hd'⊢;unfold AAp at hm⊢
 grind [AP,ADM]
end
def ACj (P:Program) (N:Nat) (o:Oper):Bool:=zL o&&Xa P (Eu o).1 1&&dV P (Eu o).2.1&&!Nat.beq (Eu o).1 (Eu o).2.1&&ABl P (Xi P (Eu o).1)&&Hg N o
section
variable {o:Oper}
theorem pR {f:Int->List TV} {u:List Int} (hf:∀n,f n=[.int .u8 n]) (l:List Int) {b:ByteArray} (h:aps l b=some u) (hd:(ST P E o 1).map Prod.fst=some (A8 f l):=by kernel_rfl) (hx:Wn P E (Eu o).2.1 (Eu o).2.2.2=some b:=by kernel_rfl) (ho:ACj P N o=true:=by kernel_rfl):
  Ci P N false E o=some ((apE P E o 1).put o.dst<|apV P o 1<|A8 f u):=by
 have hd':=TA hd;simp only[ACj,Aj,D6]at ho;obtain⟨⟨⟨⟨⟨a1,a2⟩,a3⟩,a4⟩,a5⟩,a6⟩:=ho;obtain⟨d,a8,_,a9⟩:=DR a6;obtain⟨e,b1,b2,b3⟩:=Ls a2;have a:=XA b1;have g:=UK a3;have i:=MW hx;have hne':(Eu o).1≠(Eu o).2.1:=by grind
 rw[a]at a5;unfold aps at h;split at h
 case isFalse=>cases h
 rename_i hb
 injection h with h
 subst h;have hl:(A8 f l).length=l.length:=by simp_all [Ep]
 unfold ST at hd';rw[a]at hd';split at hd'
 ·rename_i sv hs;split at hd'
  ·rename_i e1 s c E1' h1
   cases hc:(Nat.beq e1 e&&Nat.beq s 1)with
   |false=>grind
   |true=>
    rw[hc]at hd'
    injection hd' with hd'
    injection hd' with hd1 hd2
    rw[Aj]at hc;have c1:=AP hc.1;have c2:=AP hc.2;subst hd1 hd2 c1 c2;unfold Ci;rw[a8]
    grind [gI,Wm,WG,Qg,apV]
  cases hd'
 cases hd'
end
def SK (o:Oper):TypeId×Operand×Operand:=match o.op with
 | .makeSlice t l c=>(t,l,c)
 |_=>(0,.tmp 0,.tmp 0)
def ACM (o:Oper):Bool:=match o.op with
 | .makeSlice .. =>true
 |_=>false
theorem ABo {o:Oper} (h:ACM o=true):o.op= .makeSlice (SK o).1 (SK o).2.1 (SK o).2.2:=by grind [ACM,SK]
def ADE (P:Program) (N:Nat) (o:Oper) (sz by_:Nat):Bool:=ACM o&&Xa P (SK o).1 sz&&Nat.beq (P.bytesOf<|Xi P (SK o).1) by_&&Hg N o
theorem fmk {o:Oper} (hf:∀x,(f x).length=sz) (z:α) (h:mk by_ z n=some u) (hl:SL P E (SK o).2.1=some n:=by kernel_rfl) (hc:SL P E (SK o).2.2=some n:=by kernel_rfl) (hz:Lq P (Xi P (SK o).1)=some (f z):=by kernel_rfl) (ho:ADE P N o sz by_=true:=by kernel_rfl):
  Ci P N false E o=some (E.put o.dst<|.one<|.sl true (Xi P (SK o).1) sz<|A8 f u):=by
 simp only[ADE,Aj]at ho;obtain⟨⟨⟨a1,a2⟩,a3⟩,a4⟩:=ho;obtain⟨d,a5,a6,_⟩:=DR a4;obtain⟨e,b1,b2,b3⟩:=Ls a2;have a:=XA b1;rw[a]at hz a3⊢;obtain⟨k1,hl⟩:=HS hl;obtain⟨k2,hc⟩:=HS hc;rw[a5];exact AEe z h (ABo a1) a5 a6 b1 hl hc hz rfl (AP a3) b2
def ACL (o:Oper):Bool:=match o.op with
 | .convert .. =>true
 |_=>false
theorem ABn {o:Oper} (h:ACL o=true):o.op= .convert (Qz o).1 (Qz o).2.1 (Qz o).2.2:=by grind [ACL,Qz]
def ADr (P:Program) (N:Nat) (o:Oper):Bool:=ACL o&&dV P (Qz o).1&&Xa P (Qz o).2.1 1&&lI P (Xi P (Qz o).2.1)&&Hg N o
theorem fsb {o:Oper} {f:Int->List TV} (hf:∀n,f n=[.int .u8 n]) {b:ByteArray} (hx:Wn P E (Qz o).1 (Qz o).2.2=some b) (ho:ADr P N o=true:=by kernel_rfl):Ci P N false E o=some (E.put o.dst<|.one<|.sl false (Xi P (Qz o).2.1) 1<|A8 f<|tW b):=by
 simp only[ADr,Aj]at ho;obtain⟨⟨⟨⟨a1,a2⟩,a3⟩,a4⟩,a5⟩:=ho;obtain⟨d,a6,a7,_⟩:=DR a5;obtain⟨e,b1,b2,b3⟩:=Ls a3;have a:=XA b1;rw[a]at a4⊢;rw[a6];exact AEd hf (ABn a1) a6 a7 (UK a2) b1 (MW hx) a4
def QO (o:Oper):TypeId×Operand×Operand:=match o.op with
 | .store t a x=>(t,a,x)
 |_=>(0,.tmp 0,.tmp 0)
def ACK (o:Oper):Bool:=match o.op with
 | .store .. =>o.dst.isNone
 |_=>false
theorem ABm {o:Oper} (h:ACK o=true):o.op= .store (QO o).1 (QO o).2.1 (QO o).2.2/\o.dst=none:=by
 unfold ACK at h;unfold QO;split at h
 ·simp_all
 cases h
def Vx (P:Program) (E:St) (o:Oper):Option (List TV×St):=match E.val P (QO o).1 (QO o).2.2 with
 |some s=>Mi E s
 |none=>none
def stX (P:Program) (E:St) (o:Oper):List TV:=((Vx P E o).map Prod.fst).getD []
def rN (P:Program) (E:St) (o:Oper):St:=((Vx P E o).map Prod.snd).getD E
def stP (P:Program) (E:St) (o:Oper):Root×List Nat×Nat:=Hw (rN P E o) (QO o).2.1
def tS (P:Program) (E:St) (o:Oper) (k sz:Nat):Bool:=ACK o&&(Vx P E o).isSome&&Nat.beq (stX P E o).length (P.cellsOf (QO o).1)&&Nat.blt 0 (stX P E o).length&&Nat.ble (k+(stX P E o).length) sz
section
variable {o:Oper}
theorem ADI (hf:∀x,(f x).length=sz) (hx:gi l n=some x) (k:Nat) {r:Root} {c:Nat} {q:List Nat} {cs cs':List TV} (ho:tS P E o k sz=true) (hp:(rN P E o).ptr? (QO o).2.1=some (r,c::q,n.toNat*sz+k)) (hr:(rN P E o).root r=some cs) (A:At cs (c::q) (A8 f l) (λa=>setRow a (n.toNat*sz+k) (stX P E o)) cs'):Ci P N false E o=some (((rN P E o).setRoot r cs').bump r):=by
 simp only[tS,Aj]at ho;obtain⟨⟨⟨⟨a1,a2⟩,a3⟩,a4⟩,a5⟩:=ho;obtain⟨b1,b2⟩:=ABm a1;have ht:Vx P E o=some (stX P E o,rN P E o):=by
  unfold stX rN
  cases hh:Vx P E o with
  |none=>grind
  |some z=>rfl
 generalize hX:stX P E o=xs at*;unfold Vx at ht;split at ht
 ·rename_i s hs;have h0':0<xs.length:=by simp_all
  simp only[Ci,b2,b1,Vb,hs,ht,hp,hr,A.c];rw[BE ⟨A.o,AP a3,h0',ACR hf hx a5⟩,Bi (by simp),A.u]
 cases ht
end
section
variable {o:Oper}
def AAY (E:St) (r:Root) (c:Nat) (a:List TV):List TV:=match E.root r with
 |some cs=>match cs[c]? with
  |some (.sl o e s _)=>cs.set c<|.sl o e s a
  |_=>cs
 |none=>[]
end
def Rk (E:St) (r:Root) (c:Nat):Option (List TV):=match E.root r with
 |some cs=>match cs[c]? with
  |some (.sl true e s row)=>some row
  |_=>none
 |none=>none
theorem Rj {r:Root} {c:Nat} {a:List TV} (h:Rk E r c=some a):∃cs e s,E.root r=some cs/\cs[c]?=some (.sl true e s a)/\∀row',AAY E r c row'=cs.set c (.sl true e s row'):=by grind [Rk,AAY]
theorem JL {o:Oper} (hf:∀x,(f x).length=sz) (hx:gi l n=some x) (k c:Nat) (z:α) (ho:tS P E o k sz=true:=by kernel_rfl) (hp:(rN P E o).ptr? (QO o).2.1=some ((stP P E o).1,[c],n.toNat*sz+k):=by kernel_rfl) (hr:Rk (rN P E o) (stP P E o).1 c=some (A8 f l):=by kernel_rfl) (hz:setRow (f x) k (stX P E o)=f z:=by kernel_rfl):Ci P N false E o=some (((rN P E o).setRoot (stP P E o).1<|AAY (rN P E o) (stP P E o).1 c<|A8 f<|si l n z).bump (stP P E o).1):=by grind [Rj,ADI,At.one,Vy,tS]
theorem ADH {o:Oper} (hf:∀x,(f x).length=sz) (hx:gi l n=some x) (k c:Nat) (z:α) (hf':∀x,(f' x).length=sz') (hx':gi l' n'=some x') (k':Nat) (z':α') (ho:(tS P E o k sz&&Nat.blt k' sz')=true:=by kernel_rfl) (hp:(rN P E o).ptr? (QO o).2.1=some ((stP P E o).1,[c,n'.toNat*sz'+k'],n.toNat*sz+k):=by kernel_rfl) (hr:Rk (rN P E o) (stP P E o).1 c=some (A8 f' l'):=by kernel_rfl) (hz:setRow (f x) k (stX P E o)=f z:=by kernel_rfl) {e s:Nat} (hc:(f' x')[k']?=some (.sl true e s<|A8 f l):=by rfl) (hc':(f' x').set k' (.sl true e s<|A8 f<|si l n z)=f' z':=by rfl):Ci P N false E o=some (((rN P E o).setRoot (stP P E o).1<|AAY (rN P E o) (stP P E o).1 c<|A8 f'<|si l' n' z').bump (stP P E o).1):=by
 obtain⟨cs,e1,s1,h1,h2,h3⟩:=Rj hr;rw[Aj]at ho;refine ADI hf hx k ho.1 hp h1 ?_
 grind [AD0,At.one,Vy,tS]
theorem KB.o {ops:Array Oper} {ts dn:List Nat} (mv:Bool) (h:KW P N ops ts (i::dn) ((Ci P N mv E (oA ops i)).getD E) Q) (hs:(Ci P N mv E (oA ops i)).isSome=true:=by kernel_rfl) (hk:(QF P ops E i&&(kp (oA ops i)||ts.contains i))=true:=by kernel_rfl):KB P N ops ts dn i E Q:=EX (getD_some hs) h hk
def bits:Nat->List (TypeId×Operand)->List (Bool×TypeId×Operand)
 |_,[]=>[]
 |m,(t,x)::l=>(Nat.beq (m %2) 1,t,x)::bits (m/2) l
def OT (o:Oper):Nat:=match o.op with
 | .call c=>match c.callee with
  | .value (.func f)=>f
  |_=>0
 |_=>0
def FY (o:Oper):List (TypeId×Operand):=match o.op with
 | .call c=>c.argTypes.toList.zip c.args.toList
 |_=>[]
def S9 (P:Program) (N:Nat) (o:Oper):Bool:=(match o.op with
 | .call c=>match c.callee with
  | .value (.func f)=>Nat.beq c.argTypes.size c.args.size&&(match P.funcs[f]? with
   | some fn => !(fn.name == "runtime.NumGoroutine") && !fn.body.isNone
   |none=>false)
  |_=>false
 |_=>false)&&(match o.dst with
 |some d=>Nat.blt d N
 |none=>true)
theorem OW:∀{l:List (TypeId×Operand)} {m:Nat},(bits m l).map (λx=>x.2.2)=l.map Prod.snd
 |[],m=>rfl
 |(t,x)::l,m=>by simp only[bits,CJ,OW]
theorem Oe {o:Oper} (h:S9 P N o=true):∃args tys,o.op= .call {callee:= .value (.func<|OT o),args:=args,argTypes:=tys}/\bG P (OT o)/\(∀d,o.dst=some d->d<N)/\(FY o).map Prod.snd=args.toList:=by
 simp only[S9,Aj]at h;obtain⟨h1,h2⟩:=h;have hN:∀d,o.dst=some d->d<N:=by
  intro d hd;simp_all
 unfold OT FY;split at h1
 ·rename_i c hc;split at h1
  ·rename_i f a;rw[Aj]at h1;obtain⟨h3,h4⟩:=h1;split at h4
   ·rename_i fn b;simp only[Aj,D6]at h4;obtain⟨callee,args,types⟩:=c;subst a;have hz:=AP h3;refine⟨args,types,by simp only[hc],?_,hN,?_⟩
    ·exact⟨fn,b,by grind,h4.2⟩
    grind [List.map_snd_zip]
   cases h4
  cases h1
 cases h1
def mvA (P:Program) (E:St) (o:Oper) (m:Nat):Option (List (Option SV)×St):=Oq P E<|bits m<|FY o
def clE (P:Program) (E:St) (o:Oper) (m:Nat):St:=((mvA P E o m).map Prod.snd).getD E
def shA (P:Program) (E:St) (o:Oper) (m:Nat):Option (List AV×Bool):=match mvA P E o m with
 |some (ss,E1)=>Jf P E1 (bits m<|FY o) ss
 |none=>none
def ZV (P:Program) (E:St) (o:Oper) (m:Nat):Option (List AV):=(shA P E o m).map Prod.fst
def shB (P:Program) (E:St) (o:Oper) (m:Nat):Bool:=match shA P E o m with
 |some (_,b)=>b
 |none=>false
theorem z8 {o:Oper} {m:Nat} {a:SV} (h:ZV P E o m=some as) (hc:shB P E o m=true\/AI a=false):XC P E o.dst (bits m (FY o)) as a ((clE P E o m).put o.dst a):=by
 unfold ZV shB shA at*;unfold clE
 cases hm:mvA P E o m with
 |none=>grind
 |some z=>
  obtain⟨ss,E1⟩:=z;rw[hm]at h hc;simp only at h hc
  cases hs:Jf P E1 (bits m<|FY o) ss with
  |none=>grind
  |some y=>
   obtain⟨as',c⟩:=y;rw[hs]at h hc
   injection h with h
   subst h;exact⟨ss,E1,c,hm,hs,hc,rfl⟩
theorem ca {γ:Type _} {l l':List γ} {a b:γ} (h:a=b) (k:l=l'):a::l=b::l':=by rw[h,k]
theorem cs {e sz:Nat} {a b:List TV} (h:Bm a=b):TV.sl false e sz (Bm a)= .sl false e sz b:=by rw[h]
theorem co {a b:TV} (h:a=b):AV.sv (.one a)= .sv (.one b):=by rw[h]
theorem OU {a b:List TV} (h:a=b):AV.sv (.agg a)= .sv (.agg b):=by rw[h]
theorem RW.c {r:β} {x:Option α} {l:List AV} {n:Nat} (m:Nat) (h:x.bind kk=some r) {enc:α->SV} (a:∀v,x=some v->Aw P (OT (oA ops i)) l (enc v) (List.replicate n .gone)) (hk:∀v,x=some v->kk v=some r->RW P N ops (i+1) ((clE P E (oA ops i) m).put (oA ops i).dst (enc v)) Q) (b:ZV P E (oA ops i) m=some l:=by kernel_rfl) (hc:shB P E (oA ops i) m=true\/∀v,AI (enc v)=false:=by exact .inl<|by kernel_rfl) (ho:(QF P ops E i&&S9 P N (oA ops i))=true:=by kernel_rfl):RW P N ops i E Q:=by
 obtain⟨v,hv,h⟩:=Ag.1 h;rw[Aj]at ho;obtain⟨h1,h2⟩:=GU ho.1;obtain⟨args,tys,h3,h4,h5,h6⟩:=Oe ho.2;unfold RW;rw[Gh h1];exact G4.call h3 h4 h2 h5 (bits m<|FY<|oA ops i) (by rw[OW,h6]) (a v hv) (z8 b<|hc.imp id λh=>h v)<|hk v hv h
section
variable {r:β} {ts:List Nat}
theorem KB.c {x:Option α} {l:List AV} {n:Nat} (m:Nat) (h:x.bind kk=some r) {enc:α->SV} (a:∀v,x=some v->Aw P (OT (oA ops i)) l (enc v) (List.replicate n .gone)) (hk:∀v,x=some v->kk v=some r->KW P N ops ts (i::dn) ((clE P E (oA ops i) m).put (oA ops i).dst (enc v)) Q) (b:ZV P E (oA ops i) m=some l:=by kernel_rfl) (hc:shB P E (oA ops i) m=true\/∀v,AI (enc v)=false:=by exact .inl<|by kernel_rfl) (ho:(QF P ops E i&&S9 P N (oA ops i)&&((bits m<|FY<|oA ops i).all (λx=>!x.1)||ts.contains i))=true:=by kernel_rfl):KB P N ops ts dn i E Q:=by
 obtain⟨v,hv,h⟩:=Ag.1 h;simp only[Aj]at ho;obtain⟨h1,h2⟩:=GU ho.1.1;obtain⟨args,tys,h3,h4,h5,h6⟩:=Oe ho.1.2;exact eS.call i (Hx h1) h3 h4 h2 h5 (bits m<|FY<|oA ops i) (by rw[OW,h6]) ho.2 (a v hv) (z8 b<|hc.imp id λh=>h v)<|hk v hv h
end
theorem gs {f:FuncId} {x:Option α} {l l':List AV} {n:Nat} {enc:α->SV} (e:l=l') (h:∀v,x=some v->Aw P f l' (enc v) (List.replicate n .gone)):∀v,x=some v->Aw P f l (enc v) (List.replicate n .gone):=e▸h
def mI (E:St) (o:Oper):Root:=match FY o with
 |(_,x)::_=>(Hw E x).1
 |[]=> .hand
section
variable {r:β}
def vE (E:St) (o:Oper):Bool:=match FY o with
 |(_,x)::_=>(match E.ptr? x with
  |some (r,[],0)=>r.mem
  |_=>false)
 |[]=>false
end
def cxA (P:Program) (E:St) (o:Oper):Option (List AV×Bool):=Jf P (E.without<|mI E o) (bits 0 (FY o).tail)<|List.replicate (bits 0 (FY o).tail).length none
def vF (P:Program) (E:St) (o:Oper):Option (List AV):=(cxA P E o).map Prod.fst
def cxB (P:Program) (E:St) (o:Oper):Bool:=match cxA P E o with
 |some (_,b)=>b
 |none=>false
theorem ACe {o:Oper} (h:vE E o=true):∃t x l,FY o=(t,x)::l/\E.ptr? x=some (mI E o,[],0)/\(mI E o).mem=true:=by grind [vE,mI,Hw]
theorem AAb {p:Prop} {o:Oper} (h:vF P E o=some as) (hc:cxB P E o=true\/p):∃c,Jf P (E.without (mI E o)) (bits 0 (FY o).tail) (List.replicate (bits 0 (FY o).tail).length none)=some (as,c)/\(c=true\/p):=by grind [vF,cxB,cxA]
theorem ADV {r:β} {x:Option α} {l:List AV} {n:Nat} (h:x.bind kk=some r) {enc:α->SV} {b:List TV} (e:∀v,x=some v->Aw P (OT (oA ops i)) (.ext b::l) (enc v) (.ext (fin v)::List.replicate n .gone)) (d:∀v,(fin v).length=b.length) (hk:∀v,x=some v->kk v=some r->RW P N ops (i+1) (((E.setRoot (mI E (oA ops i)) (fin v)).bump (mI E (oA ops i))).put (oA ops i).dst (enc v)) Q) (f:vF P E (oA ops i)=some l:=by kernel_rfl) (hb:E.boxes (mI E<|oA ops i)=some b:=by kernel_rfl) (hc:cxB P E (oA ops i)=true\/∀v,AI (enc v)=false/\A0 (fin v)=false:=by exact .inl<|by kernel_rfl) (ho:(QF P ops E i&&S9 P N (oA ops i)&&vE E (oA ops i))=true:=by kernel_rfl):RW P N ops i E Q:=by
 obtain⟨v,hv,h⟩:=Ag.1 h;simp only[Aj]at ho;obtain⟨h1,h2⟩:=GU ho.1.1;obtain⟨args,tys,h3,h4,h5,h6⟩:=Oe ho.1.2;obtain⟨t,x0,l0,h7,h8,h9⟩:=ACe ho.2;obtain⟨c,h10,h11⟩:=AAb f hc;unfold RW;rw[Gh h1];intro w0 FA UA w a blk FS US hr hF hU;simp only[wpList,BF hr h2,CC];refine .inl<|mQ hr hF hU h3 h4 h5 (x:=x0) (l:=bits 0 (FY<|oA ops i).tail) ?_ h9 h8 hb (d v) h10 (h11.imp id λh=>h v) (e v hv) λw' v' blk' FS' US' k1 k2 k3=>hk v hv h _ _ _ _ _ _ _ _ k1 k2 k3
 grind [OW]
theorem ADZ {r:β} {ts:List Nat} {x:Option α} {l:List AV} {n:Nat} (h:x.bind kk=some r) {enc:α->SV} {b:List TV} (e:∀v,x=some v->Aw P (OT (oA ops i)) (.ext b::l) (enc v) (.ext (fin v)::List.replicate n .gone)) (d:∀v,(fin v).length=b.length) (hk:∀v,x=some v->kk v=some r->KW P N ops ts (i::dn) (((E.setRoot (mI E (oA ops i)) (fin v)).bump (mI E (oA ops i))).put (oA ops i).dst (enc v)) Q) (f:vF P E (oA ops i)=some l:=by kernel_rfl) (hb:E.boxes (mI E<|oA ops i)=some b:=by kernel_rfl) (hc:cxB P E (oA ops i)=true\/∀v,AI (enc v)=false/\A0 (fin v)=false:=by exact .inl<|by kernel_rfl) (ho:(QF P ops E i&&S9 P N (oA ops i)&&vE E (oA ops i)&&ts.contains i)=true:=by kernel_rfl):KB P N ops ts dn i E Q:=by
 obtain⟨v,hv,h⟩:=Ag.1 h;simp only[Aj]at ho;obtain⟨h1,h2⟩:=GU ho.1.1.1;obtain⟨args,tys,h3,h4,h5,h6⟩:=Oe ho.1.1.2;obtain⟨t,x0,l0,h7,h8,h9⟩:=ACe ho.1.2;obtain⟨c,h10,h11⟩:=AAb f hc;intro w0 FA UA w a blk FS US hr hF hU;unfold wpOp;simp only[Hx h1,BF hr h2,CC];refine .inl<|mQ hr hF hU h3 h4 h5 (x:=x0) (l:=bits 0 (FY<|oA ops i).tail) ?_ h9 h8 hb (d v) h10 (h11.imp id λh=>h v) (e v hv) λw' v' blk' FS' US' k1 k2 k3=>⟨λht=>(by grind),_,_,_,_,hk v hv h,k1,k2,k3⟩
 grind [OW]
theorem wc {x:Code} {r:β} {c:Operand} {b:Bool} (h:(bif b then tx else ty)=some r) (ht:tx=some r->Wp P N x E Q) (hf:ty=some r->Wp P N y E Q) (hc:E.cell1 P 0 c=some (.bool b):=by kernel_rfl):Wp P N (.cond c x y) E Q:=Wp.c h ht hf hc
theorem wt {x:Code} {c:Operand} (ht:Wp P N x E Q) (hc:E.cell1 P 0 c=some (.bool true):=by kernel_rfl):Wp P N (.cond c x y) E Q:=ADR ht hc
theorem wf {x:Code} {c:Operand} (hf:Wp P N y E Q) (hc:E.cell1 P 0 c=some (.bool false):=by kernel_rfl):Wp P N (.cond c x y) E Q:=ADS hf hc
theorem rsz {rs:List ResultVar} {a:SV} (h:(DC P E rs).map (λz=>Eh z.1)=some a):∃ss E',DC P E rs=some (ss,E')/\Eh ss=a:=by simp_all
theorem rsx {rt:Root} {rs:List ResultVar} {b:SV} {a:List TV} (h:(DC P E rs).map (λz=>(Eh z.1,z.2.boxes rt))=some (b,some a)):∃ss E',DC P E rs=some (ss,E')/\Eh ss=b/\E'.boxes rt=some a:=by simp_all
theorem gkx {f:FuncId} {c:Code} {a cells':List TV} {b:SV} (hf:P.funcs[f]?=some fn) (hb:fn.body=some c) (hN:fn.ntmps=N) (h:Wp P N c (Dr (.ext a::as)) λe E=>(e= .normal\/e= .ret)/\∃ss E',DC P E fn.results.toList=some (ss,E')/\Eh ss=b/\E'.boxes (.ext 0)=some cells') (d:cells'.isEmpty=false:=by rfl):Aw P f (.ext a::as) b (.ext cells'::List.replicate as.length .gone):=u0 hf hb (by rw[hN];exact h) d
theorem gk {f:FuncId} {c:Code} {a:SV} (hf:P.funcs[f]?=some fn) (hb:fn.body=some c) (hN:fn.ntmps=N) (h:Wp P N c (Dr as) λe E=>(e= .normal\/e= .ret)/\∃ss E',DC P E fn.results.toList=some (ss,E')/\Eh ss=a):Aw P f as a (List.replicate as.length .gone):=zR hf hb (by rw[hN];exact h)
end Go.TI
