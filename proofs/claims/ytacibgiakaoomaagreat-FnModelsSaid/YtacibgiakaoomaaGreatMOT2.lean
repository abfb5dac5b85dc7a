/- What walks of Go code need. No condition. -/
import Derived.Test.YtacibgiakaoomaaGreatMOT1
import Derived.OrdersHeld
import Derived.Deep.Slices
import Derived.ChangeOld
import Derived.DataReads
import Derived.KernelRfl
import Derived.Laws.StructEq
set_option linter.unusedSimpArgs false
set_option linter.unusedVariables false
namespace Go.TI
open Go Go.RowKit
def Gn (cs:List TV):Bool:=cs.all λt=>match t with
 | .int .. | .bool _| .str _| .sl false .. =>true
 |_=>false
theorem Sr {E:St} {r:Root} {q:List Nat}:∀{cs:List TV} (c:Nat),Gn cs=true->Qi E r q c cs=cs
 |[],c,h=>rfl
 |t::ts,c,h=>by
  simp only[Gn,List.all_cons,Al]at h;have ih:=Sr (E:=E) (r:=r) (q:=q) (c+1)<|show Gn ts=true from h.2;simp only[Qi,ih]
  cases t with
  |sl o e sz cells=>cases o<;>first|rfl|grind
  |_=>rfl
theorem Mo {E:St}:∀{cs:List TV},Gn cs=true->Ej E cs=some (cs,E)
 |[],h=>rfl
 |t::ts,h=>by
  simp only[Gn,List.all_cons,Al]at h;have ih:=Mo (E:=E)<|show Gn ts=true from h.2;have h1:=h.1;have hr:∀E1 E2 t,(∀r v q j,t≠ .view r v q j)->List.map (nV E1 E2 t) ts=ts:=by
   intro E1 E2 t ht;have:nV E1 E2 t=id:=by
    funext u;cases t<;>first|rfl|grind
   rw[this,Mn]
  grind [MD,D1]
variable {E E' E1:St} {P:Program} {N i sz j by_ fuel d sz' e':Nat} {ops:Array Oper} {Q:Exit->St->Prop} {α β α' γ V A:Type} {dn FA UA F U:List Nat} {n n':Int} {w:World} {K:St->Prop} {as:List AV} {listed:Array Bool} {blk:Root->Nat} {FS US:Root->List Nat} {fn:Func} {row' row zs cs':List TV} {md:Region.Mode} {mv:Bool} {oo:Oper} {rest:List Oper} {T:Nat->Bool} {k k1:IntKind} {lo:Option Operand} {ss:List SV} {t':TV} {f:α->List TV} {l:List α} {tx:Option β} {ty:Option β} {kk:α->Option β} {u:List α} {f':α'->List TV} {l':List α'} {x':α'} {fin:α->List TV}
theorem SH (hf:∀x,Gn (f x)=true):∀l:List α,Gn (A8 f l)=true
 |[]=>rfl
 |x::l=>by
  have:=SH hf l
  grind [ES,Gn]
def ap (by_:Nat) (l m:List α):Option (List α):=if(l.length+m.length)*by_<=140737488355328 then some (l++m)else none
def mk (by_:Nat) (z:α) (n:Int):Option (List α):=if 0<=n/\(by_:Int)*n<=281474976710656/\n<=9223372036854775807 then some (List.replicate n.toNat z)else none
theorem mH {l m u:List α} (h:ap by_ l m=some u):u=l++m/\(l.length+m.length)*by_<=140737488355328:=by grind [ap]
theorem MZ {z:α} (h:f z=zs):∀n,(List.replicate n zs).flatten=A8 f (List.replicate n z)
 |0=>rfl
 |n+1=>by rw[List.replicate_succ,List.flatten_cons,MZ h n,List.replicate_succ,ES,h]
theorem rY {o:Oper} {kl kc:IntKind} (z:α) (h:mk by_ z n=some u) {t e:TypeId} {l c:Operand} (ho:o.op= .makeSlice t l c:=by rfl) (hd:o.dst=some d:=by rfl) (hN:Nat.blt d N=true:=by rfl) (ht:P.underlying t=some (.slice e):=by rfl) (hl:E.cell1 P 0 l=some (.int kl n):=by rfl) (hc:E.cell1 P 0 c=some (.int kc n):=by rfl) (hz:Ii P e=some zs:=by rfl) (hfz:f z=zs:=by rfl) (hb:P.bytesOf e=by_:=by rfl) (a:P.cellsOf e=sz:=by rfl):
 BD P N false E o=some (E.put (some d)<|.one<|.sl true e sz<|A8 f u):=by grind [Lj,MZ,mk,BD,RT]
section
variable {o:Oper}
structure At (cs:List TV) (q:List Nat) (row:List TV) (g:List TV->List TV) (cs':List TV):Prop where
 c:Bg cs q=some row
 o:Ji cs q=true
 u:Cs cs q g=cs'
end
theorem At.one {cs a:List TV} {c:Nat} {e s:Nat} {g:List TV->List TV} (h:g a=row') (hc:cs[c]?=some (.sl true e s a):=by rfl) (hs:cs.set c (.sl true e s row')=cs':=by rfl):At cs [c] a g cs':=
 ⟨by simp[Bg,hc],by simp[Ji,hc],by grind [Cs]⟩
theorem rF (hf:∀x,(f x).length=sz) {cs a:List TV} {c k:Nat} {q:List Nat} {e s:Nat} {g:List TV->List TV} {x z:α} (hx:gi l n=some x) (h:At (f x) (k::q) a g (f z)) (hk:Nat.blt k sz=true:=by rfl) (hc:cs[c]?=some (.sl true e s<|A8 f l):=by rfl) (hs:cs.set c (.sl true e s<|A8 f<|si l n z)=cs':=by rfl):At cs (c::(n.toNat*sz+k)::q) a g cs':=by
 have hk':k<sz:=by simp_all
 refine⟨?_,?_,?_⟩
 ·rw[<-h.c,<-cB hf hx hk']
  grind [Bg]
 ·rw[<-h.o,<-kP hf hx hk']
  grind [Ji]
 rw[<-hs,<-j7 hf hx hk' h.u]
 grind [Cs]
theorem oT (hf:∀x,(f x).length=sz) {x:α} (hx:gi l n=some x) {k m:Nat} (hk:Nat.ble (k+m) sz=true):n.toNat*sz+k+m<=(A8 f l).length:=by
 have:=WH hf hx
 grind [mM]
def SV.comps:SV->List SV
 | .tup ss=>ss
 |_=>[]
def St.ex (E:St) (n ix:Nat):St:={E with slots:=Bp E.slots n (.tup<|(E.slots n).comps.set ix<|.one .junk)}
theorem sU (n ix d:Nat) (s:SV) (h:K3 P N ops rest ((E.ex n ix).put (some d) s) Q) (hs:BD P N false E oo=some ((E.ex n ix).put (some d) s):=by rfl) (hg:Bt P ops E oo=some true:=by rfl):K3 P N ops (oo::rest) E Q:=K3.op false hg hs h
theorem PY.o (d:Nat) (s:SV) (h:PY P N ops rest (E.put (some d) s) K) (hs:EX P E oo=some s:=by rfl) (hg:Bt P ops E oo=some true:=by rfl) (hd:oo.dst=some d:=by rfl) (hN:Nat.blt d N=true:=by rfl):PY P N ops (oo::rest) E K:=
 PY.op s hg hd (by simp_all) hs h
theorem o9 {l:List Oper} {r:β} {b:Bool} (h:(bif b then tx else ty)=some r) (t:Nat) (ht:tx=some r->PY P N ops l (E.rs t true) K) (hf:ty=some r->PY P N ops l (E.rs t false) K) (hc:E.slots t=B b:=by rfl):PY P N ops l E K:=by grind [fU]
theorem Cc {f g:α->List TV} (h:∀x,A7 (f x)=g x):∀l:List α,A7 (A8 f l)=A8 g l
 |[]=>rfl
 |x::l=>by
  have c:∀a b:List TV,A7 (a++b)=A7 a++A7 b:=by
   intro a b
   induction a with
   |nil=>rfl
   |cons t ts ih=>grind [A7]
  rw[ES,ES,c,h,Cc h l]
theorem Gv (h:∀x,Av (f x)=false):∀l:List α,Av (A8 f l)=false
 |[]=>rfl
 |x::l=>by
  have c:∀a b:List TV,Av (a++b)=(Av a||Av b):=by
   intro a b
   induction a with
   |nil=>rfl
   |cons t ts ih=>grind [Av]
  rw[ES,c,h,Gv h l];rfl
def ad (a b:Int):Int:=IntKind.i64.wrap<|a+b
def sb (a b:Int):Int:=IntKind.i64.wrap<|a-b
def ml (a b:Int):Int:=IntKind.i64.wrap<|a*b
def qu (a b:Int):Int:=IntKind.i64.wrap<|a.tdiv b
def xr (a b:Int):Int:=IntKind.u32.wrap (BitVec.ofInt 32 a^^^BitVec.ofInt 32 b).toNat
def an (a b:Int):Int:=IntKind.u32.wrap (BitVec.ofInt 32 a&&&BitVec.ofInt 32 b).toNat
def bs (l:List UInt8):ByteArray:=⟨l.toArray⟩
section
variable (P:Program) (md:Region.Mode) (ops:Array Oper) (Q:Exit->Act->World->Prop) (T:Nat->Bool)
def Ox:Nat->Array Bool->Act->World->Prop
 |0,listed,a,w=>Region.ready md ops listed=[]/\Q .normal a w
 |fuel+1,listed,a,w=>(Region.ready md ops listed=[]->Q .normal a w)/\
  ∀i∈Region.ready md ops listed,wpOp P ops Q i (λa' w'=>(T i=false->CB w w')/\Ox fuel (listed.setIfInBounds i true) a' w') a w
end
theorem Sa {Q:Exit->Act->World->Prop}:∀(b:Nat) (listed:Array Bool) (a:Act) (w:World),Ox P md ops Q T b listed a w->wpAny P md ops Q b listed a w
 |0,_,_,_,h=>h
 |b+1,_,_,_,h=>⟨h.1,λi hi=>wpOp_mono (λa' w' h'=>Sa b _ a' w' h'.2) (h.2 i hi)⟩
section
variable (md:Region.Mode) (ops:Array Oper)
def Sc (i:Nat):Nat->Nat->Bool
 |0,_=>false
 |n+1,j=>match ops[j]? with
  |some o=>o.after.any λe=>Region.binds md e&&(e.on==i||Sc i n e.on)
  |none=>false
end
def TO (md:Region.Mode) (a:Array Oper) (listed:Array Bool):Prop:=∀k o,a[k]?=some o->listed.getD k false=true->∀e∈o.after,Region.binds md e=true->listed.getD e.on false=true
theorem OW (hc:TO md ops listed):∀{n j:Nat} {o:Oper},ops[j]?=some o->(∀e∈o.after,Region.binds md e=true->listed.getD e.on false=true)->Sc md ops i n j=true->listed.getD i false=true
 |0,j,o,_,_,h=>by cases h
 |n+1,j,o,ho,ha,h=>by
  simp only[Sc,ho]at h;obtain⟨e,he,hb⟩:=Array.any_eq_true'.1 h;simp only[Al,M7,HA]at hb;have h1:=ha e he hb.1
  rcases hb.2 with h2|h2
  ·grind
  cases hk:ops[e.on]? with
  |none=>
   cases n with
   |zero=>cases h2
   |succ n=>grind [Sc]
  |some ok=>exact OW hc hk (hc e.on ok hk h1) h2
theorem GA (hc:TO md ops listed) (hr:j∈Region.ready md ops listed):TO md ops (listed.setIfInBounds j true):=by
 intro k o hk hl e he hb
 have a:∀m,listed.getD m false=true->(listed.setIfInBounds j true).getD m false=true:=λm hm=>getD_set_true hm
 by_cases b:k=j
 ·grind [mem_ready]
 rw[getD_set_ne false<|If b]at hl;exact a _<|hc k o hk hl e he hb
theorem IX {Q:Exit->Act->World->Prop} {oi:Oper} {n:Nat} {v:Value} (hi:ops[i]?=some oi) (l:∀(j:Nat) (o:Oper) cs b,ops[j]?=some o->o.op≠ .select cs b) (hQ:∀c a w,Q (.panic c) (a.put oi.dst v) w->Q (.panic c) a w) (h5:T i=false) (hT:∀j,T j=true->Sc md ops i n j=true):
  ∀(d:Nat) (listed:Array Bool) (a:Act) (w:World),TO md ops listed->
   (∀j oj,ops[j]?=some oj->j≠i->listed.getD j true=false->(∀e∈oj.after,Region.binds md e=true->e.on≠i)->oi.apart ops oj=true)->
   i∈Region.ready md ops listed->YieldsIf P ops (CB w) oi v a->
   Ox P md ops Q T d (listed.setIfInBounds i true) (a.put oi.dst v) w->Ox P md ops Q T (d+1) listed a w:=by
 intro d
 induction d with
 |zero=>
  intro listed a w _ _ hr hy H;refine⟨λh=>(by grind),λj hj=>?_⟩;by_cases f:j=i
  ·subst f;exact hy.wpOp hi CB.refl ⟨λ_=>CB.refl,H⟩
  have:=ready_mono hj f;rw[H.1]at this;cases this
 |succ d ih=>
  intro listed a w s g hr hy H;refine⟨λh=>(by grind),λj hj=>?_⟩;by_cases f:j=i
  ·subst f;exact hy.wpOp hi CB.refl ⟨λ_=>CB.refl,H⟩
  have h1:=H.2 j<|ready_mono hj f;obtain⟨p,oj,m,h0⟩:=mem_ready.1 hj;have h4:listed.getD i false=false:=by grind [mem_ready]
  have t:T j=false:=by grind [OW]
  have q:∀e∈oj.after,Region.binds md e=true->e.on≠i:=λe he hb h6=>by grind
  have h2:=wpOp_putIf m (g j oj m f p q) (λcs b=>l i oi cs b hi) (λcs b=>l j oj cs b m) hQ hy h1;have hfree':∀k ok,ops[k]?=some ok->k≠i->(listed.setIfInBounds j true).getD k true=false->
    (∀e∈ok.after,Region.binds md e=true->e.on≠i)->oi.apart ops ok=true:=λk ok hk u r x=>by
   refine g k ok hk u ?_ x;by_cases y:j=k
   ·grind
   rw[getD_set_ne true y]at r;exact r
  refine wpOp_mono (λa' w' h3=>⟨h3.2.1,ih (listed.setIfInBounds j true) a' w' (GA s hj) hfree' (ready_mono hr<|If f) ?_ ?_⟩) h2
  ·exact h3.1.imp (λ⟨p1,p2⟩=>⟨p1,λw2 z=>p2 w2<|(h3.2.1 t).trans z⟩) id
  grind [Array.setIfInBounds_comm]
def Rz (P:Program) (N:Nat) (b:Array Oper) (ts:List Nat) (d:Nat) (listed:Array Bool) (E:St) (Q:Exit->St->Prop):Prop:=(∀c E,Q (.panic c) E->False)->TO .any b listed->∀(w0:Base) (FA UA:List Nat) (w:World) (a:Act) (blk:Root->Nat) (FS US:Root->List Nat),Ca w0 FA UA N w a E blk FS US->FS .hand=[]->US .hand=[]->Ox P .any b (YI w0 FA UA N Q) (λi=>ts.contains i) d listed a w
def VK (P:Program) (N:Nat) (b:Array Oper) (ts:List Nat) (i:Nat) (E:St) (K:St->Prop) (Q:Exit->St->Prop):Prop:=∀(w0:Base) (FA UA:List Nat) (w:World) (a:Act) (blk:Root->Nat) (FS US:Root->List Nat),Ca w0 FA UA N w a E blk FS US->FS .hand=[]->US .hand=[]->
  wpOp P b (YI w0 FA UA N Q) i (λa' w'=>(ts.contains i=false->CB w w')/\∃E' blk' FS' US',K E'/\Ca w0 FA UA N w' a' E' blk' FS' US'/\FS' .hand=[]/\US' .hand=[]) a w
theorem VK.op {ts:List Nat} (i:Nat) {o:Oper} (mv:Bool) (h:K E') (hs:BD P N mv E o=some E') (ho:ops[i]?=some o) (hg:Bt P ops E o=some true) (hk:(kp o||ts.contains i)=true):VK P N ops ts i E K Q:=by
 intro w0 FA UA w a blk FS US hr hF hU;unfold wpOp;simp only[ho,Ch hr hg,Do];refine .inl<|(MH hr hF hU hs).wp λw' v blk' FS' US' k1 k2 k3 k4=>⟨λht=>k4 (by grind),_,_,_,_,h,k1,k2,k3⟩
theorem VK.call {ts:List Nat} {f:FuncId} {n:Nat} (i:Nat) {o:Oper} {args:Array Operand} {c:Array TypeId} (hi:ops[i]?=some o) (ho:o.op= .call {callee:= .value (.func f),args:=args,argTypes:=c}) (hf:ZC P f) (hg:Bt P ops E o=some true) (hN:∀d,o.dst=some d->d<N) (l:List (Bool×TypeId×Operand)) (hl:l.map (λx=>x.2.2)=args.toList) (g:(l.all (λx=>!x.1)||ts.contains i)=true) {b:SV} (e:A6 P f as b (List.replicate n .gone)) (he:RU P E o.dst l as b E') (h:K E'):VK P N ops ts i E K Q:=by
 intro w0 FA UA w a blk FS US hr hF hU;unfold wpOp;simp only[hi,Ch hr hg,Do];exact .inl<|VD hr hF hU ho hf hN hl e he λw' v blk' FS' US' k1 k2 k3 k4=>⟨λht=>k4 (by grind),_,_,_,_,h,k1,k2,k3⟩
theorem jI {ts:List Nat} (h:Q .normal E) (hr:Region.ready .any ops listed=[]:=by decide+kernel):Rz P N ops ts fuel listed E Q:=
 λ_ _ w0 FA UA w a blk FS US k1 k2 k3=>by
  have hq:YI w0 FA UA N Q .normal a w:=⟨E,blk,FS,US,h,k1,k2,k3⟩
  cases fuel with
  |zero=>exact⟨hr,hq⟩
  |succ n=>exact⟨λ_=>hq,by rw[hr];simp⟩
section
variable {ts:List Nat}
theorem Rz.all (rs:List Nat) (h:∀i∈rs,VK P N ops ts i E (λE'=>Rz P N ops ts fuel (listed.setIfInBounds i true) E' Q) Q) (hr:Region.ready .any ops listed=rs) (b:rs≠ []):Rz P N ops ts (fuel+1) listed E Q:=
 λhQ hc w0 FA UA w a blk FS US k1 k2 k3=>⟨λh0=>absurd (hr▸h0) b,λi hi=>by
  have hi':i∈rs:=hr▸hi
  exact wpOp_mono (λa' w' ⟨m0,E',blk',FS',US',m1,m2,m3,m4⟩=>⟨m0,m1 hQ (GA hc hi) _ _ _ _ _ _ _ _ m2 m3 m4⟩)<|h i hi' _ _ _ _ _ _ _ _ k1 k2 k3⟩
end
def NO (a:Array Oper) (ts:List Nat) (n i:Nat) (listed:Array Bool):Bool:=Region.noSelect a&&Region.free .any a listed i&&(Region.ready .any a listed).contains i&&!ts.contains i&&ts.all λj=>Sc .any a i n j
theorem PL {ts:List Nat} {n:Nat} (h:NO ops ts n i listed=true):Region.noSelect ops=true/\Region.free .any ops listed i=true/\i∈Region.ready .any ops listed/\ts.contains i=false/\∀j,ts.contains j=true->Sc .any ops i n j=true:=by grind [NO]
theorem Rz.take {ts:List Nat} (n i:Nat) {o:Oper} (d:Nat) (s:SV) (h:Rz P N ops ts fuel (listed.setIfInBounds i true) (E.put (some d) s) Q) (hs:EX P E o=some s) (ho:ops[i]?=some o) (f:NO ops ts n i listed=true) (hg:Bt P ops E o=some true) (hd:o.dst=some d) (hN:Nat.blt d N=true):Rz P N ops ts (fuel+1) listed E Q:=by
 intro hQ hc w0 FA UA w a blk FS US k1 k2 k3;obtain⟨e1,e2,e3,e4,e5⟩:=PL f;obtain⟨v,U,h1,h2,h3⟩:=O1 k1 hs;refine IX (v:=v) (n:=n) ho (Region.noSelect_spec e1) (λc a w hx=>?_) e4 e5 fuel listed a w hc (Region.free_spec ho e2) e3 (.inl ⟨Ch k1 hg,λw2 e=>?_⟩) ?_
 ·obtain⟨E',blk',FS',US',m1,_⟩:=hx
  grind
 ·exact h1 w2 λr hr=>⟨λb hb=>e.2 b (k1.inF r b hb).2,λb hb=>e.2 b (k1.inU r b hb).2⟩
 rw[hd];refine h hQ (GA hc e3) _ _ _ _ _ _ _ _ (k1.put (by simp_all) h2<|Jt k1 h3 _) ?_ ?_
 ·grind [AI]
 grind [AI]
theorem Xe {ts:List Nat} (n i:Nat) {o:Oper} (d:Nat) (h:Rz P N ops ts fuel (listed.setIfInBounds i true) (E.put (some d) (.tup [])) Q) (ho:ops[i]?=some o) (b:NO ops ts n i listed=true) (hg:Bt P ops E o=some false) (hd:o.dst=some d) (hN:Nat.blt d N=true):Rz P N ops ts (fuel+1) listed E Q:=by
 intro hQ hc w0 FA UA w a blk FS US k1 k2 k3;obtain⟨e1,e2,e3,e4,e5⟩:=PL b;refine IX (v:=undef) (n:=n) ho (Region.noSelect_spec e1) (λc a w hx=>?_) e4 e5 fuel listed a w hc (Region.free_spec ho e2) e3 (.inr ⟨Ch k1 hg,rfl⟩) ?_
 ·obtain⟨E',blk',FS',US',m1,_⟩:=hx
  grind
 rw[hd];refine h hQ (GA hc e3) _ _ _ _ _ _ _ _ (k1.put (F:=[]) (U:=[]) (by simp_all) (by simp only[GI];exact⟨[],rfl,by simp[OZ]⟩) Xh.none) ?_ ?_
 ·grind [AI]
 grind [AI]
theorem ZV {id:Nat} (n:Nat) (ts:List Nat) (hm:P.follows .mixedOrders=true) (hQ:∀c E,Q (.panic c) E->False) (h:Rz P N ops ts n (Array.replicate n false) E Q) (hn:ops.size=n:=by rfl):Wp P N (.region id ops true) E Q:=by
 subst hn;intro w0 FA UA w a blk FS US k1 k2 k3;refine wp_region_any hm<|Sa (T:=λi=>ts.contains i) _ _ _ _ ?_;obtain⟨FS',US',m1,m2,m3⟩:=k1.drop (w':={w with drawn:=w.drawn+1}) (A5 _) rfl rfl rfl λ_ _ _=>rfl;refine h hQ (λk o hk hl=>?_) _ _ _ _ _ _ _ _ m1 m2 m3;simp_all;grind
theorem Rz.o {ts:List Nat} (n i d:Nat) (s:SV) {o:Oper} (h:Rz P N ops ts fuel (listed.setIfInBounds i true) (E.put (some d) s) Q) (ho:ops[i]?=some o:=by rfl) (hs:EX P E o=some s:=by rfl) (a:NO ops ts n i listed=true:=by decide+kernel) (hg:Bt P ops E o=some true:=by rfl) (hd:o.dst=some d:=by rfl) (hN:Nat.blt d N=true:=by rfl):Rz P N ops ts (fuel+1) listed E Q:=Rz.take n i d s h hs ho a hg hd hN
theorem pJ {ts:List Nat} {r:β} {b:Bool} (h:(bif b then tx else ty)=some r) (t:Nat) (ht:tx=some r->Rz P N ops ts fuel listed (E.rs t true) Q) (hf:ty=some r->Rz P N ops ts fuel listed (E.rs t false) Q) (hc:E.slots t=B b:=by rfl):Rz P N ops ts fuel listed E Q:=by grind [fU]
theorem VK.o {ts:List Nat} (i d:Nat) (s:SV) {o:Oper} (h:K (E.put (some d) s)) (ho:ops[i]?=some o:=by rfl) (hs:BD P N false E o=some (E.put (some d) s):=by rfl) (hg:Bt P ops E o=some true:=by rfl) (hk:(kp o||ts.contains i)=true:=by rfl):VK P N ops ts i E K Q:=VK.op i false h hs ho hg hk
theorem VK.b {ts:List Nat} (i:Nat) (m:List (Root×List TV)) (d:Nat) (xs:List TV) {o:Oper} (h:K ((m9 E m).newBox d xs)) (ho:ops[i]?=some o:=by rfl) (hs:BD P N false E o=some ((m9 E m).newBox d xs):=by rfl) (hg:Bt P ops E o=some true:=by rfl) (hk:(kp o||ts.contains i)=true:=by rfl):VK P N ops ts i E K Q:=VK.op i false h hs ho hg hk
theorem sV {ts:List Nat} (i:Nat) (mv:Bool) (m:List (Root×List TV)) (d:Nat) (s:SV) {o:Oper} (h:K ((m9 E m).put (some d) s)) (ho:ops[i]?=some o:=by rfl) (hs:BD P N mv E o=some ((m9 E m).put (some d) s):=by rfl) (hg:Bt P ops E o=some true:=by rfl) (hk:(kp o||ts.contains i)=true:=by rfl):VK P N ops ts i E K Q:=VK.op i mv h hs ho hg hk
theorem sW {ts:List Nat} (i n ix d:Nat) (s:SV) {o:Oper} (h:K ((E.ex n ix).put (some d) s)) (ho:ops[i]?=some o:=by rfl) (hs:BD P N false E o=some ((E.ex n ix).put (some d) s):=by rfl) (hg:Bt P ops E o=some true:=by rfl) (hk:(kp o||ts.contains i)=true:=by rfl):VK P N ops ts i E K Q:=VK.op i false h hs ho hg hk
def oI (n:Int):Prop:= -9223372036854775808<=n/\n<=9223372036854775807
def oK (k:IntKind) (n:Int):Prop:=k.min<=n/\n<=k.max
def ol (o:α->Prop) (l:List α):Prop:=l.length<=9223372036854775807/\∀x∈l,o x
def VI (P:Program) (t:TypeId) (c:α->List TV) (o:α->Prop):Prop:=∀{H:Type} (enc:TypeId×Value->H) (w:World) (d:Nat) (e:Nat) (cs:List Value) (x:DataW H×List MemPlace),DataW.trod enc P w d (λ_=>true) true e t cs=some x->
  ∃a U,o a/\Bh w (c a) cs [] U/\∀b∈U,b<w.heap.size
theorem Kq {t:TV} {v:Value} (h:DD w t v F U):Bh w [t] [v] F U:=by simp_all [Bh];grind
theorem dG {t:TypeId} (ht:P.underlying t=some (.int k)):VI P t (λn:Int=>[.int k n]) (λn=>k.min<=n/\n<=k.max):=by
 intro H enc w b a cs x h
 cases a with
 |zero=>simp[DataW.trod]at h
 |succ a=>
  simp only[DataW.trod,ht]at h;split at h<;>rename_i h1<;>try grind
  all_goals first|(cases h;done)|skip
  rename_i k' n;split at h
  ·rename_i hk;simp only[An,TypeDesc.int.injEq]at h1;subst h1;obtain⟨rfl,hw⟩:=hk;simp only[Lit.wf,Al,Br]at hw;exact⟨n,[],hw,Kq (by simp[DD]),by simp⟩
  cases h
theorem XX {t e:TypeId} {c:α->List TV} {o:α->Prop} (ht:P.underlying t=some (.slice e)) (q:P.cellsOf e=sz) (h0:0<sz) (hc:∀a,(c a).length=sz) (h:VI P e c o):
  VI P t (λl:List α=>[.sl false e sz (A8 c l)]) (λl=>l.length<=9223372036854775807/\∀a∈l,o a):=by
 intro H enc w f v cs x hx
 rcases Go.Deep.open_slice ht hx with⟨rfl,_⟩|⟨a,len,d,m,n,D,Pl,rfl,hb,g,h7,hm,_,j⟩
 ·refine⟨[],[],⟨by simp,by simp⟩,Kq ?_,by simp⟩;simp only[DD];exact⟨none,0,0,[],[],[],rfl,A5 _,by simp,λi u hi=>by simp at hi,by simp[A8,Bh],by simp,by simp,by simp⟩
 simp only[Do]at hm;have r:∀k,k<=len->∃(l:List α) (vs:List Value) (U:List Nat),l.length=k/\(∀a∈l,o a)/\vs.length=k*sz/\Bh w (A8 c l) vs [] U/\(∀i u,vs[i]?=some u->w.cell? (a.add i)=some u)/\∀b∈U,b<w.heap.size:=by
  intro k
  induction k with
  |zero=>simp[A8,Bh]
  |succ k ih=>
   intro hk;obtain⟨l,vs,U,h1,h2,h3,h4,h5,h6⟩:=ih (by omega);obtain⟨cs',k1,k2⟩:=j k (by omega);obtain⟨y,V,g1,g2,g3⟩:=h enc w f n cs' _ k2;obtain⟨_,k3,k4⟩:=World.cells?_some k1;rw[q]at k1 k3 k4;refine⟨l++ [y],vs++cs',U++V,by simp[h1],?_,?_,?_,?_,?_⟩
   ·grind
   ·grind
   ·grind [GQ,A8]
   ·intro i u hi;by_cases h8:i<vs.length
    ·grind
    rw[HB<|by omega]at hi;have p:i-vs.length<sz:=by grind
    have:=k4 (i-vs.length) p
    grind [WZ]
   grind
 obtain⟨l,vs,U,h1,h2,h3,h4,h5,h6⟩:=r len<|A5 _;have h9:len<=9223372036854775807:=by grind [maxLen]
 by_cases s:len=0
 ·subst s;have:vs=[]:=Ba (by omega);subst this;refine⟨l,U,⟨by omega,h2⟩,Kq ?_,h6⟩;exact⟨some a,0,d,[],U,[],rfl,g,by simp,λi u hi=>by simp at hi,h4,by simp,by simp,by simp⟩
 have z:a.block<w.heap.size:=by
  obtain⟨cs',k1,_⟩:=j 0 (by omega);have:=World.cells?_block k1<|by omega
  grind [Jv]
 refine⟨l,a.block::U,⟨by omega,h2⟩,Kq ?_,?_⟩
 ·exact⟨some a,len,d,vs,U,[a.block],rfl,g,h3,λi u hi=>⟨a,len,d,rfl,h5 i u hi⟩,h4,by simp,.inl (by simp[Cy,Value.ownBlock]),by simp⟩
 grind
theorem mG {u:α->TV} {H:Type} {d:DataW H} {ps:List MemPlace} {t:TypeId} {o:α->Prop} {enc:TypeId×Value->H} {v:Value} (h:VI P t (λa=>[u a]) o) (hv:v.cells= #[v]) (k:DataW.Trod enc P w 0 (λ_=>true) true t v d ps):
  ∃a U,o a/\YT w (.one (u a)) v [] U/\∀b∈U,b<w.heap.size:=by
 obtain⟨n,hn⟩:=k;obtain⟨a,U,h1,h2,h3⟩:=h enc w 0 n _ _ hn;rw[hv]at h2;obtain⟨v',c,F1,F2,U1,U2,e,hF,hU,h4,rfl,rfl,rfl⟩:=h2
 injection e with e _
 subst e;obtain⟨rfl,_⟩:=Gs.1 hF.symm;refine⟨a,U1,h1,?_,by simpa[hU]using h3⟩
 grind [YT]
theorem gH {r:Reach} {a:Nat} {t:TypeId} {v:Value} (h:Value.okWide P w r a t v) (h1:∀fs,P.underlying t≠some (.struct fs)) (h2:∀n e,P.underlying t≠some (.array n e)):v.cells= #[v]:=by
 unfold Value.okWide at h;split at h
 ·grind
 ·grind
 unfold Cell.okWide at h;cases v<;>first|rfl|skip
 simp_all [Cell.ok]
def St.without (E:St) (r:Root):St:={E with boxes:=Bp E.boxes r none,ver:=Bp E.ver r<|E.ver r+1,gen:=Bp E.gen r (E.gen r+1)}
theorem VL {r s:Root} (h:s≠r):(E.without r).root s=E.root s:=by simp_all [St.without,St.root,Bp];grind
theorem Ca.without {w0:Base} {a:Act} (h:Ca w0 FA UA N w a E blk FS US) (hF:FS .hand=[]) (hU:US .hand=[]) {r:Root} (hm:r.mem=true):
  Ca w0 FA UA N w a (E.without r) blk (Bp (Bp FS r []) .hand (FS r)) (Bp (Bp US r []) .hand (US r)):=by
 have c:r≠ .hand:=by rintro rfl;cases hm
 have d:∀s,Bw w w a a E (E.without r) blk blk s:=by
  intro s;by_cases hs:s=r
  ·subst hs;exact⟨.inl (by simp[St.without,Bp]),.inl<|by simp[St.without,Bp]⟩
  by_cases hh:s= .hand
  ·subst hh;exact Ff (by simp_all [St.without,Bp]) (by simp_all [St.without,Bp])<|by simp[St.root,h.nohand]
  exact DS h (by simp_all [St.without,Bp]) (by simp_all [St.without,Bp]) (VL hs) (λ_ _=>rfl) (λ_=>rfl) (λ_ _=>rfl) λ_ _=>rfl
 refine h.two (r1:=r) (r2:= .hand) (L1:=[]) (L2:=FS r) (V1:=[]) (V2:=US r) c (by simpa using h.nodup r) (λb hb=>⟨.inl (by simpa using hb),(h.inF r b<|by simpa using hb).2⟩)
  (λb hb=> .inl ⟨r,by simpa using hb⟩) (A5 _) rfl rfl rfl (λ_ _ _ _=>rfl) d (λn _ _=>⟨rfl,rfl⟩) (λs _ hs _=>⟨by simp_all [St.without,Bp],rfl⟩) ?_ trivial ?_ h.len h.nodef
 ·cases r with
  |slot n=>cases hm
  |hand=>cases hm
  |box n=>exact .inl ⟨by simp[St.without,Bp],rfl,rfl⟩
  |ext n=>exact .inl ⟨by simp[St.without,Bp],rfl,rfl⟩
 simp[St.without,Bp,If c,h.nohand]
theorem Yd {a:Act}:∀{l:List (Bool×TypeId×Operand)},gV w a l (List.replicate l.length none) [] []
 |[]=>⟨rfl,rfl⟩
 |_::l=>Yd (l:=l)
section
variable {w0:Base} {a:Act}
theorem Y6 {f:FuncId} {l:List (Bool×TypeId×Operand)} {n:Nat} {K:Act->World->Prop} {Q:Exit->Act->World->Prop} (h:Ca w0 FA UA N w a E blk FS US) (hF:FS .hand=[]) (hU:US .hand=[]) {o:Oper} {args:Array Operand} {a8:Array TypeId} (ho:o.op= .call {callee:= .value (.func f),args:=args,argTypes:=a8}) (hf:ZC P f) (hN:∀d,o.dst=some d->d<N) {x:Operand} (hl:x::l.map (λx=>x.2.2)=args.toList) {r:Root} (hm:r.mem=true) (hx:E.ptr? x=some (r,[],0)) {cells cells':List TV} (hc:E.boxes r=some cells) (b6:cells'.length=cells.length) {res:SV} {c:Bool} (a9:HL P (E.without r) l (List.replicate l.length none)=some (as,c)) (h0:c=true\/AK res=false/\Av cells'=false) (hg:A6 P f (.ext cells::as) res (.ext cells'::List.replicate n .gone)) (hK:∀w' v blk' FS' US',Ca w0 FA UA N w' (a.put o.dst v) (((E.setRoot r cells').bump r).put o.dst res) blk' FS' US'->FS' .hand=[]->US' .hand=[]->K (a.put o.dst v) w'):o.wp P a w K Q:=by
 have h9:r≠ .hand:=by rintro rfl;cases hm
 have k2:=h.without hF hU hm;obtain⟨U',k5,k6⟩:=J0 k2 Yd a9;have a0:∃i T F,w.heap[blk r]?=some (.cells i T (0,0))/\Bh w cells i.toList F (US r)/\FS r=blk r::F:=by
  rcases h.box r hm with⟨h1,_⟩|⟨cs,i,T,F,h1,h2,h3,h4⟩
  ·grind
  grind
 obtain⟨i,T,F,b2,b3,b4⟩:=a0;obtain⟨b7,ad,b8,a1⟩:=Kr h hx;have b0:ad=⟨blk r,0,none⟩:=by simp_all [pa,Addr.add];grind
 subst b0;have a2:cells≠ []:=by
  rintro rfl
  cases r with
  |slot n=>cases hm
  |hand=>cases hm
  |box n=>grind [St.place,St.root,Bg]
  |ext n=>grind [St.place,St.root,Bg]
 have a3:a.eval x::l.map (λx=>a.eval x.2.2)=(args.map a.eval).toList:=by
  rw[QI,<-hl,GZ,Ef];rfl
 have k:K2 w (.ext cells::as) (args.map a.eval).toList (FS r++ []) (US r++U'):=by
  rw[<-a3];exact⟨_,_,FS r,[],US r,U',rfl,rfl,rfl,⟨blk r,i,T,F,a1,b2,b3,b4,a2⟩,k5⟩
 rw[AQ]at k;have c0:∀s b,b∈Bp (Bp US r []) .hand (US r) s->∃s',b∈US s':=by
  intro s b hb;by_cases hs:s= .hand
  ·grind [Bm]
  rw[AI hs]at hb;by_cases b1:s=r
  ·grind [Bm]
  grind [AI]
 have c6:∀s b,s≠ .hand->b∈Bp (Bp FS r []) .hand (FS r) s->s≠r/\b∈FS s:=by
  intro s b hs hb;rw[AI hs]at hb;by_cases b1:s=r
  ·grind [Bm]
  grind [AI]
 have k6':∀b∈U',(∃s,b∈US s)\/(c=false/\∃s,s≠r/\b∈FS s):=by grind
 have y:∀b∈FS r,b∉US r++U':=by
  intro b hb hb'
  rcases Aq.1 hb' with hb'|hb'
  ·exact h.disU r r b hb hb'
  rcases k6' b hb' with⟨s,h4⟩|⟨_,s,h5,h4⟩
  ·exact h.disU r s b hb h4
  exact h.dis r s (If h5) b hb h4
 have m:=hg w _ (FS r) (US r++U') k (h.nodup r) y (by
  intro b hb
  rcases Aq.1 hb with hb|hb
  ·exact(h.inF r b hb).2
  rcases Aq.1 hb with hb|hb
  ·exact(h.inU r b hb).2
  rcases k6' b hb with⟨s,h4⟩|⟨_,s,h5,h4⟩
  ·exact(h.inU s b h4).2
  exact(h.inF s b h4).2)
 unfold Oper.wp;rw[MW ho hf];simp only[Oper.upon];rw[Array.toArray_toList]at m;refine Calls.mono m ?_;rintro e w' ⟨v,Fr,Ur,G,V,rfl,g⟩;have p:=g.fin;rw[<-a3]at p;simp only[K2]at p;obtain⟨v1,vs1,G1,G2,V1,V2,e1,rfl,rfl,⟨b,cur',T',F0,g1,g2,g3,rfl,g5⟩,z⟩:=p;obtain⟨rfl,rfl⟩:=OQ z
 injection e1 with e1 e2
 rw[<-e1,a1]at g1
 injection g1 with g1
 injection g1 with g1
 injection g1 with g1
 subst g1;have a4:=g.nodup;have a5:=g.dis;have t:=g.inF;have u:=g.inU;simp only[AQ]at a4 a5 t u;have hV:∀b∈Ur++V1,(∃s,b∈US s)\/((b∈FS r\/w.heap.size<=b)/\b<w'.heap.size):=by
  intro b hb;obtain⟨h4,h5⟩:=u b hb
  rcases h4 with h4|h4|h4
  ·rcases Aq.1 h4 with h4|h4
   ·grind
   rcases k6' b h4 with h6|⟨h6,s,h7,h8⟩
   ·exact .inl h6
   rcases h0 with h0|⟨c1,c2⟩
   ·grind
   have n1:=ME g.res c1
   grind [Hz]
  ·grind
  omega
 have a7:∀j,((E.setRoot r cells').bump r).place r [] j=cells'[j]? :=by
  intro j
  cases r with
  |slot n=>cases hm
  |hand=>cases hm
  |box n=>simp[St.place,St.bump,St.setRoot,St.root,Bp,Bg]
  |ext n=>simp[St.place,St.bump,St.setRoot,St.root,Bp,Bg]
 have a6:∀j,E.place r [] j=cells[j]? :=by
  intro j
  cases r with
  |slot n=>cases hm
  |hand=>cases hm
  |box n=>grind [St.place,St.root,Bg]
  |ext n=>grind [St.place,St.root,Bg]
 let E1:St:=(E.setRoot r cells').bump r
 have ev:∀s,s≠r->E1.ver s=E.ver s:=by
  intro s hs;cases r<;>simp[E1,St.bump,St.setRoot,Bp,hs]
 have evr:E1.ver r=E.ver r+1:=by cases r<;>simp[E1,St.bump,St.setRoot,Bp]
 have eg:∀s,E1.gen s=E.gen s:=by intro s;cases r<;>rfl
 have er:∀s,s≠r->E1.root s=E.root s:=by
  intro s hs
  cases r with
  |slot n=>cases hm
  |hand=>cases hm
  |box n=>cases s<;>simp[E1,St.bump,St.setRoot,St.root,Bp,hs]
  |ext n=>cases s<;>simp[E1,St.bump,St.setRoot,St.root,Bp,hs]
 have es:∀n,E1.slots n=E.slots n:=by
  intro n
  cases r with
  |slot n=>cases hm
  |hand=>cases hm
  |box n=>rfl
  |ext n=>rfl
 have eb:∀s,E1.boxes s=if s=r then some cells' else E.boxes s:=by
  intro s
  cases r with
  |slot n=>cases hm
  |hand=>cases hm
  |box n=>rfl
  |ext n=>rfl
 have b5:∀s,Bw w w' a a E E1 blk blk s:=by
  intro s;by_cases hs:s=r
  ·subst hs;refine⟨.inl (by rw[evr];omega),.inr ⟨eg s,λj ad hv hp=>?_⟩⟩;refine⟨(by cases s<;>first|exact hv|(cases hm)),?_⟩
   grind
  by_cases hh:s= .hand
  ·subst hh;exact Ff (ev _ hs) (eg _)<|by simp[St.root,h.nohand]
  exact DS h (ev s hs) (eg s) (er s hs) (λ_ _=>rfl) (λ_=>rfl)
   (λb hb=>g.keep b (h.inF s b hb).2<|h.dis s r hs b hb) (λb hb=>g.keep b (h.inU s b hb).2 λe=>h.disU r s b e hb)
 have k7:=h.two (w':=w') (a':=a) (E':=E1) (blk':=blk) (r1:=r) (r2:= .hand) (L1:=blk r::F0) (L2:=Fr) (V1:=V1) (V2:=Ur) h9
  (by grind)
  (λb hb=>by
   grind)
  (λb hb=>by grind)
  g.size g.os g.tape g.output (λb hb q _=>g.keep b hb q) b5 (λn _ _=>⟨es n,rfl⟩) (λs _ hs _=>⟨by grind,rfl⟩)
  (by
   have:ET w' a E1 blk r (blk r::F0) V1:=by
    have:=eb r;rw[Bc rfl]at this
    cases r with
    |slot n=>cases hm
    |hand=>cases hm
    |box n=>exact .inr ⟨cells',cur',T',F0,this,g2,g3,rfl⟩
    |ext n=>exact .inr ⟨cells',cur',T',F0,this,g2,g3,rfl⟩
   exact this)
  trivial (by rw[eb,AA<|If h9];exact h.nohand) h.len h.nodef (hfz:=by
   intro n hn;have e:((E.setRoot r cells').bump r).fz=E.fz:=by rw[NX,Fi]
   exact h.frz n<|e▸hn) (hamb:=by rw[JT,Cv])
 have kh:(Bp (Bp FS r (blk r::F0)) .hand Fr) .hand=Fr:=Bm _ _ _;have kh2:(Bp (Bp US r V1) .hand Ur) .hand=Ur:=Bm _ _ _
 cases hd:o.dst with
 |some d=>
  obtain⟨FS',US',q1,q2,q3⟩:=k7.land (w':=w') (d:=d) (s:=res) (v:=v) (F:=Fr) (U:=Ur) (hN d hd) (Lp g.res) (Bx.1 a4).1
   (λb hb=>⟨.inl (by rw[kh];exact hb),(t b<|B8 _ hb).2⟩) (λb hb=> .inl ⟨.hand,by grind⟩) (A5 _) rfl rfl rfl (λ_ _ _=>rfl)
  grind
 |none=>
  obtain⟨FS',US',q1,q2,q3⟩:=k7.drop (w':=w') (A5 _) rfl rfl rfl λ_ _ _=>rfl;have:=hK w' v blk FS' US' (by rw[hd];exact q1) q2 q3
  grind
end
theorem ZD {f:FuncId} (A:Nat->cG) (hA:∀b,(A b).B=[]/\(∀w,(A b).I w)/\∀c,(A b).pin=some c->c=(b,none)) {c:Code} {cells cells':List TV} {res:SV} (hf:P.funcs[f]?=some fn) (hb:fn.body=some c) (h:∀b,Wp P fn.ntmps c (CT (.ext cells::as) (A b)) λe E=>(e= .normal\/e= .ret)/\∃ss E',Dg P E fn.results.toList=some (ss,E')/\Ds ss=res/\E'.boxes (.ext 0)=some cells') (r:cells'.isEmpty=false):
  A6 P f (.ext cells::as) res (.ext cells'::List.replicate as.length .gone):=by
 intro w vs FA UA ha k j l;have ha':=ha;obtain⟨v0,vs0,F1,F2,U1,U2,rfl,rfl,rfl,⟨b0,cur0,T0,F0,rfl,_,_,rfl,_⟩,s⟩:=ha;obtain⟨blk,FS,US,hr,hF,hU⟩:=TJ (N:=fn.ntmps) ha' k j l (A:=A b0) ((hA b0).2.1 w) (λb hb=>by grind) (hpin:=λc hc=>by rw[(hA b0).2.2 c hc];exact⟨rfl,λ_ h=>by cases h⟩);refine calls_of_wp hf hb<|wp_mono (h b0 _ _ _ _ _ _ _ _ hr hF hU) ?_;rintro e a w' ⟨E,blk',FS',US',⟨he,ss,E',h1,rfl,o⟩,h2,h3,h4⟩;obtain⟨us,FS2,US2,F,U,k1,k2,k3,k4,k5⟩:=Kp h2 h1;rw[h3,Ao]at k4;rw[h4,Ao]at k5;have i:∀(n:Nat) (vs:List Value),vs.length=n->K2 w' (List.replicate n .gone) vs [] []:=by
  intro n
  induction n with
  |zero=>intro vs hv;simp at hv;subst hv;exact⟨rfl,rfl,rfl⟩
  |succ n ih=>
   intro vs hv
   cases vs with
   |nil=>simp at hv
   |cons v vs=>exact⟨v,vs,[],[],[],[],rfl,rfl,rfl,⟨rfl,rfl⟩,ih vs<|by simpa using hv⟩
 have m:vs0.length=as.length:=by grind [NY]
 have p:blk' (.ext 0)=b0:=by
  rw[k3.xblk];rfl
 obtain⟨d,T,F3,b2,b3,b4⟩:∃d T F3,w'.heap[b0]?=some (.cells d T (0,0))/\Bh w' cells' d.toList F3 (US2<|.ext 0)/\FS2 (.ext 0)=b0::F3:=by
  rcases k3.box (.ext 0) rfl with⟨q,_⟩|⟨cs,d,T,F3,q1,q2,q3,q4⟩
  ·grind
  grind
 have hne':cells'≠ []:=by grind
 have g:a.defers=[]/\∃v,(results fn a.tmps).run P w'= .ok v w'/\∃v' F U G V,Ending.returned v= .returned v'/\jG w w' ((b0::F0)++F2) (U1++U2) (Ds ss) (.ext cells'::List.replicate as.length .gone) (.pointer (some ⟨b0,0,none⟩)::vs0) v' F U G V:=by
  refine⟨h2.nodef,_,MV k1,_,F,U,FS2<|.ext 0,US2<|.ext 0,rfl,?_⟩
  exact{
   res:=Rh k2
   fin:=⟨_,vs0,FS2<|.ext 0,[],US2<|.ext 0,[],rfl,by simp,by simp,⟨b0,d,T,F3,rfl,b2,b3,b4,hne'⟩,i _ _ m⟩
   nodup:=by
    rw[<-k4,Bx];exact⟨k3.nodup _,k3.nodup _,λx hx y hy e=>k3.dis .hand (.ext 0) (by simp) x hx<|e▸hy⟩
   dis:=by
    intro b hb hb';rw[<-k4]at hb;rw[<-k5]at hb'
    rcases Aq.1 hb with hb|hb<;>rcases Aq.1 hb' with hb'|hb'
    ·exact k3.disU .hand .hand b hb hb'
    ·exact k3.disU .hand (.ext 0) b hb hb'
    ·exact k3.disU (.ext 0) .hand b hb hb'
    exact k3.disU (.ext 0) (.ext 0) b hb hb'
   inF:=by
    intro b hb;rw[<-k4]at hb
    rcases Aq.1 hb with hb|hb
    ·exact k3.inF .hand b hb
    exact k3.inF (.ext 0) b hb
   inU:=by
    intro b hb;rw[<-k5]at hb
    rcases Aq.1 hb with hb|hb
    ·exact k3.inU .hand b hb
    exact k3.inU (.ext 0) b hb
   os:=k3.os
   tape:=k3.tape
   output:=k3.output
   size:=k3.size
   keep:=λb hb hF=>k3.keep b hb hF (λe=>by grind)}
 rcases he with rfl|rfl
 ·exact g
 exact g
theorem dV {f:FuncId} {c:Code} {a cells':List TV} {b:SV} (hf:P.funcs[f]?=some fn) (hb:fn.body=some c) (h:Wp P fn.ntmps c (CT (.ext a::as)) λe E=>(e= .normal\/e= .ret)/\∃ss E',Dg P E fn.results.toList=some (ss,E')/\Ds ss=b/\E'.boxes (.ext 0)=some cells') (d:cells'.isEmpty=false):
 A6 P f (.ext a::as) b (.ext cells'::List.replicate as.length .gone):=ZD (λ_=>cG.none) (λ_=>⟨rfl,λ_=>trivial,λ_ h=>by cases h⟩) hf hb (λ_=>h) d
def Gy (l:List Int):ByteArray:=strOfNums l
theorem PR {f:Int->List TV} (hf:∀n,f n=[.int .u8 n]):∀l,Kz (A8 f l)=some l
 |[]=>rfl
 |n::l=>by
  have:A8 f (n::l)=f n++A8 f l:=by simp[A8]
  rw[this,hf];simp only[Hb,Kz,PR hf l,GC]
theorem sC {f:Int->List TV} {o:Oper} (hf:∀n,f n=[.int .u8 n]) (l:List Int) {s d e e':TypeId} {x:Operand} {a:Bool} {r:Root} {q:List Nat} (ho:o.op= .convert s d x:=by rfl) (hs:P.underlying s=some (.slice e):=by rfl) (hd:P.underlying d=some .string:=by rfl) (he:P.underlying e=some (.int .u8):=by rfl) (hr:E.ref x=some (r,q,j):=by rfl) (hp:E.place r q j=some (.sl a e' 1<|A8 f l):=by rfl):AF P E o=some (.one<|.str<|Gy l):=by
 simp only[AF,ho,hs,hd,he,hr,hp,Do,PR hf,GC];rfl
def shl (k:IntKind) (a b:Int):Option Int:=if b<0 then none else some<|k.wrap<|a*2^(min b.toNat k.bits)
def dr (l:List α) (lo hi:Int):Option (List α):=if 0<=lo/\lo<=hi/\hi<=l.length then some ((l.drop lo.toNat).take<|hi.toNat-lo.toNat)else none
theorem Q4 (hf:∀x,(f x).length=sz):∀(l:List α) (n:Nat),(A8 f l).take (n*sz)=A8 f (l.take n)
 |l,0=>by simp[A8]
 |[],n+1=>by simp[A8]
 |x::l,n+1=>by
  have h1:A8 f (x::l)=f x++A8 f l:=by simp[A8]
  have h2:A8 f (x::l.take n)=f x++A8 f (l.take n):=by simp[A8]
  rw[h1,R7,Nat.add_comm,List.take_append,hf x,Nat.add_sub_cancel_left,Q4 hf l n,List.take_succ_cons,h2,AY (by rw[hf x];omega)]
theorem r9 {k2:IntKind} {o:Oper} (hf:∀x,(f x).length=sz) {l v:List α} {a b:Int} (h:dr l a b=some v) {t e e':TypeId} {x oh:Operand} {r:Root} {q:List Nat} (ho:o.op= .slice t x lo (some oh) none:=by rfl) (ht:P.underlying t=some (.slice e):=by rfl) (hr:E.ref x=some (r,q,j):=by rfl) (hp:E.place r q j=some (.sl false e' sz<|A8 f l):=by rfl) (hl:(match lo with|some o=>E.cell1 P 0 o|none=>some<|.int .i64 0)=some (.int k1 a):=by rfl) (hh:E.cell1 P 0 oh=some (.int k2 b):=by rfl) (c:P.cellsOf e=sz:=by rfl) (h0:Nat.blt 0 sz=true:=by rfl):AF P E o=some (.one<|.sl false e' sz<|A8 f v):=by
 have h0':0<sz:=by simp_all
 unfold dr at h;split at h
 ·rename_i hc
  injection h with h
  subst h;have hl':∀lo':Option TV,lo'=some (.int k1 a)->(match lo',E.cell1 P 0 oh with|some (.int _ l0),some (.int _ h0)=>if sz=P.cellsOf e/\0<sz/\0<=l0/\l0<=h0/\h0.toNat*sz<=(A8 f l).length then some (SV.one<|.sl false e' sz<|((A8 f l).drop<|l0.toNat*sz).take<|(h0.toNat-l0.toNat)*sz)else none|_,_=>none)=some (SV.one<|.sl false e' sz<|A8 f<|(l.drop a.toNat).take<|b.toNat-a.toNat):=by simp_all [H4,NQ,Q4]
  simp only[AF,ho,ht,hr,hp];exact hl' _ hl
 cases h
theorem qG {o:Oper} (hf:∀x,(f x).length=sz) {l v:List α} {a:Int} (h:dr l a (ln l)=some v) {t e e':TypeId} {x:Operand} {r:Root} {q:List Nat} (ho:o.op= .slice t x lo none none:=by rfl) (ht:P.underlying t=some (.slice e):=by rfl) (hr:E.ref x=some (r,q,j):=by rfl) (hp:E.place r q j=some (.sl false e' sz<|A8 f l):=by rfl) (hl:(match lo with|some o=>E.cell1 P 0 o|none=>some<|.int .i64 0)=some (.int k1 a):=by rfl) (c:P.cellsOf e=sz:=by rfl) (h0:Nat.blt 0 sz=true:=by rfl):AF P E o=some (.one<|.sl false e' sz<|A8 f v):=by
 have h0':0<sz:=by simp_all
 have b:(A8 f l).length/sz=l.length:=by simp_all [H4]
 unfold dr at h;split at h
 ·rename_i hc
  injection h with h
  subst h;have hl':∀lo':Option TV,lo'=some (.int k1 a)->(match lo',some (TV.int .i64 (((A8 f l).length/sz:Nat):Int))with|some (.int _ l0),some (.int _ h0)=>if sz=P.cellsOf e/\0<sz/\0<=l0/\l0<=h0/\h0.toNat*sz<=(A8 f l).length then some (SV.one<|.sl false e' sz<|((A8 f l).drop<|l0.toNat*sz).take<|(h0.toNat-l0.toNat)*sz)else none|_,_=>none)=some (SV.one<|.sl false e' sz<|A8 f<|(l.drop a.toNat).take<|((l.length:Nat):Int).toNat-a.toNat):=by simp_all [H4,NQ,Q4];grind
  simp only[AF,ho,ht,hr,hp];exact hl' _ hl
 cases h
def cV (b:ByteArray):List Int:=b.data.toList.map λc=>(c.toNat:Int)
def rQ (l:List Int) (b:ByteArray):Option (List Int):=if l.length+b.size<=140737488355328 then some (l++cV b)else none
theorem Xx {f:Int->List TV} (hf:∀n,f n=[.int .u8 n]) (b:ByteArray):Qf b=A8 f (cV b):=by
 unfold Qf cV
 induction b.data.toList with
 |nil=>rfl
 |cons c l ih=>grind [A8]
theorem rX {o:Oper} {f:Int->List TV} (hf:∀n,f n=[.int .u8 n]) {b:ByteArray} {src dst e:TypeId} {x:Operand} (ho:o.op= .convert src dst x:=by rfl) (hd:o.dst=some d:=by rfl) (hN:Nat.blt d N=true:=by rfl) (hs:P.underlying src=some .string:=by rfl) (a:P.underlying dst=some (.slice e):=by rfl) (hx:E.cell1 P src x=some (.str b):=by rfl) (c:Yl P e=true:=by rfl):BD P N false E o=some (E.put (some d)<|.one<|.sl false e 1<|A8 f<|cV b):=by
 have hN':d<N:=by simp_all
 unfold BD
 grind [Xx,NR]
def jT (l:List γ) (i j:Int):Option (γ×γ):=(gi l i).bind λx=>(gi l j).bind λy=>some (x,y)
def cL (l:List γ) (i j:Int):Option (List γ):=(gi l i).bind λx=>(gi l j).bind λy=>some<|si (si l i y) j x
def qL (ls:List (Nat×SV)) (bs:List (Root×List TV)) (A:cG):St:={oG ls bs with amb:=A}
def eR (t t':TV):Prop:=t=t'\/∃e sz a cells',t= .sl true e sz a/\A7 a=cells'/\t'= .sl false e sz cells'
def jS:List TV->List TV->Prop
 |[],ts'=>ts'=[]
 |t::ts,ts'=>∃x xs,ts'=x::xs/\eR t x/\jS ts xs
mutual
def TH:SV->SV->Prop
 | .one t,s'=>∃t',s'= .one t'/\eR t t'
 | .agg cs,s'=>∃cs',s'= .agg cs'/\jS cs cs'
 | .tup ss,s'=>∃ss',s'= .tup ss'/\Ov ss ss'
def Ov:List SV->List SV->Prop
 |[],ss'=>ss'=[]
 |s::ss,ss'=>∃x xs,ss'=x::xs/\TH s x/\Ov ss xs
end
theorem nB {t:TV}:eR t t:= .inl rfl
theorem nA:∀{ts:List TV},jS ts ts
 |[]=>rfl
 |t::ts=>⟨t,ts,rfl,nB,nA⟩
theorem jS.c {t x:TV} {ts xs:List TV} (h:eR t x) (k:jS ts xs):jS (t::ts) (x::xs):=⟨x,xs,rfl,h,k⟩
theorem eR.s {e sz:Nat} {a cells':List TV} (h:A7 a=cells'):eR (.sl true e sz a) (.sl false e sz cells'):= .inr ⟨e,sz,a,cells',rfl,h,rfl⟩
mutual
theorem pA:∀{s:SV},TH s s
 | .one t=>⟨t,rfl,nB⟩
 | .agg cs=>⟨cs,rfl,nA⟩
 | .tup ss=>⟨ss,rfl,cE⟩
theorem cE:∀{ss:List SV},Ov ss ss
 |[]=>rfl
 |s::ss=>⟨s,ss,rfl,pA,cE⟩
end
theorem TH.a {cs cs':List TV} (h:jS cs cs'):TH (.agg cs) (.agg cs'):=⟨cs',rfl,h⟩
theorem TH.o {t t':TV} (h:eR t t'):TH (.one t) (.one t'):=⟨t',rfl,h⟩
theorem sJ {ss':List SV} (h:Ov ss ss'):TH (.tup ss) (.tup ss'):=⟨ss',rfl,h⟩
theorem Ov.c {xs:List SV} {s x:SV} (h:TH s x) (k:Ov ss xs):Ov (s::ss) (x::xs):=⟨x,xs,rfl,h,k⟩
def CN (F U F' U':List Nat):Prop:=F'.Sublist F/\∀b∈U',b∈U\/(b∈F/\b∉F')
theorem GT {F1 F2 U1 U2 F1' F2' U1' U2':List Nat} (hd:(F1++F2).Nodup) (h:CN F1 U1 F1' U1') (k:CN F2 U2 F2' U2'):CN (F1++F2) (U1++U2) (F1'++F2') (U1'++U2'):=by
 obtain⟨_,_,hd⟩:=Bx.1 hd;refine⟨h.1.append k.1,λb hb=>?_⟩
 rcases Aq.1 hb with hb|hb
 ·rcases h.2 b hb with q|⟨q1,q2⟩
  ·grind
  refine .inr ⟨by simp[q1],λhc=>?_⟩
  rcases Aq.1 hc with hc|hc
  ·exact q2 hc
  exact hd b q1 b (k.1.subset hc) rfl
 rcases k.2 b hb with q|⟨q1,q2⟩
 ·grind
 refine .inr ⟨by simp[q1],λhc=>?_⟩
 rcases Aq.1 hc with hc|hc
 ·exact hd b (h.1.subset hc) b q1 rfl
 exact q2 hc
theorem CN.refl:CN F U F U:=⟨List.Sublist.refl _,λb hb=> .inl hb⟩
theorem nW {t t':TV} {v:Value} (h:DD w t v F U) (k:eR t t'):∃F' U',DD w t' v F' U'/\CN F U F' U':=by
 rcases k with rfl|⟨e,sz,a,cells',rfl,rfl,rfl⟩
 ·grind [CN.refl]
 obtain⟨U',h1,h2⟩:=ND h;exact⟨[],U',h1,List.nil_sublist _,λb hb=>(h2 b hb).elim (λq=> .inr ⟨q,by simp⟩) .inl⟩
def oA (a:Array Oper) (i:Nat):Oper:=match a[i]? with
 |some o=>o
 | none => { dst := none, op := .load 0 (.tmp 0), type := 0, pos := "", after := #[], guard := none }
theorem EY {a:Array Oper} (h:Nat.blt i a.size=true):a[i]?=some (oA a i):=by grind [Lj,oA]
theorem NT {a:Array Oper} (h:Nat.blt i a.size=true):a.toList.drop i=oA a i::a.toList.drop (i+1):=by
 have hi:i<a.toList.length:=by simpa[Lj]using h
 have h1:=EY h
 grind [AS]
def OF (P:Program) (a:Array Oper) (E:St) (i:Nat):Bool:=Nat.blt i a.size&&(match Bt P a E (oA a i)with|some b=>b|none=>false)
theorem FX {a:Array Oper} (h:OF P a E i=true):Nat.blt i a.size=true/\Bt P a E (oA a i)=some true:=by grind [OF]
def GW (N:Nat) (o:Oper):Bool:=match o.dst with
 |some d=>Nat.blt d N
 |none=>false
theorem D6 {o:Oper} (h:GW N o=true):∃d,o.dst=some d/\Nat.blt d N=true/\d<N:=by grind [Lj,GW]
def fI (P:Program) (N:Nat) (a:Array Oper) (mv:Bool) (E:St) (i:Nat):Option St:=bif Nat.blt i a.size then
  match Bt P a E (oA a i)with
  |some true=>BD P N mv E<|oA a i
  |some false=>bif GW N (oA a i)then some (E.put (oA a i).dst<|.tup [])else none
  |none=>none else none
def M0 (P:Program) (N:Nat) (a:Array Oper):Nat->Nat->Nat->St->Option St
 |0,_,_,E=>some E
 |k+1,m,i,E=>match fI P N a (Nat.beq (m %2) 1) E i with
  |some E'=>M0 P N a k (m/2) (i+1) E'
  |none=>none
def KP (P:Program) (N:Nat) (a:Array Oper) (k m i:Nat) (E:St):St:=(M0 P N a k m i E).getD E
theorem getD_some {α:Type _} {x:Option α} {a:α} (h:x.isSome=true):x=some (x.getD a):=by
 cases x with
 |none=>cases h
 |some y=>rfl
def RW (P:Program) (N:Nat) (a:Array Oper) (i:Nat) (E:St) (Q:Exit->St->Prop):Prop:=K3 P N a (a.toList.drop i) E Q
def SW (P:Program) (N:Nat) (a:Array Oper) (m i:Nat) (E:St) (K:St->Prop):Prop:=PY P N a ((a.toList.take m).drop i) E K
theorem bd {r:β} {k:α->Option β} {G:Prop} {x:Option α} (h:x.bind k=some r) (hk:∀a,x=some a->k a=some r->G):G:=by grind [Aj]
theorem RW.nil (h:Q .normal E) (hi:Nat.ble ops.size i=true:=by kernel_rfl):RW P N ops i E Q:=by grind [mM,Eg,K3.nil,RW]
theorem BU (hs:BD P N mv E (oA ops i)=some E') (h:RW P N ops (i+1) E' Q) (hk:OF P ops E i=true:=by kernel_rfl):RW P N ops i E Q:=by
 obtain⟨h1,h2⟩:=FX hk
 grind [NT,K3.op,RW]
theorem RW.st (hs:fI P N ops mv E i=some E') (h:RW P N ops (i+1) E' Q):RW P N ops i E Q:=by grind [NT,K3.op,D6,jH,fI,RW]
section
variable {m:Nat}
theorem RW.run:∀{k m i:Nat} {E E':St},M0 P N ops k m i E=some E'->RW P N ops (i+k) E' Q->RW P N ops i E Q
 |0,m,i,E,E',h,hw=>by grind [M0]
 |k+1,m,i,E,E',h,hw=>by
  simp only[M0]at h;split at h
  ·rename_i E1 h1;exact RW.st h1 (RW.run h (by grind))
  cases h
end
theorem eN (k m:Nat) (h:RW P N ops (i+k) (KP P N ops k m i E) Q) (hk:(M0 P N ops k m i E).isSome=true:=by kernel_rfl):RW P N ops i E Q:=RW.run (getD_some hk) h
def f7 (P:Program) (N:Nat) (a:Array Oper) (i:Nat) (E:St):Bool:=OF P a E i&&pk (oA a i)&&GW N (oA a i)
theorem Zu (h:f7 P N ops i E=true):OF P ops E i=true/\pk (oA ops i)=true/\∃d,(oA ops i).dst=some d/\Nat.blt d N=true/\d<N:=by grind [D6,f7]
theorem RW.q {s:SV} (hp:AF P E (oA ops i)=some s) (h:RW P N ops (i+1) (E.put (oA ops i).dst s) Q) (hk:f7 P N ops i E=true:=by kernel_rfl):RW P N ops i E Q:=by
 obtain⟨h1,h2,d,h3,h4,_⟩:=Zu hk;rw[h3]at h;exact BU (aU hp h3 h4 h2) h h1
theorem q8 {r:β} {b:Bool} (t:Nat) (h:(bif b then tx else ty)=some r) (ht:tx=some r->RW P N ops i (E.rs t true) Q) (hf:ty=some r->RW P N ops i (E.rs t false) Q) (hc:E.slots t=B b:=by kernel_rfl):RW P N ops i E Q:=pI h t ht hf hc
section
variable {m:Nat}
theorem Mf (h:Nat.blt i ops.size=true) (hm:Nat.blt i m=true):(ops.toList.take m).drop i=oA ops i::(ops.toList.take m).drop (i+1):=by
 have hi:i<ops.size:=by simpa[Lj]using h
 have a:i<m:=by simp_all
 have hl:i<(ops.toList.take m).length:=by simp;omega
 have h1:=EY h
 grind [AS]
end
theorem SW.nil {m:Nat} (h:K E) (hi:(Nat.ble ops.size i||Nat.ble m i)=true:=by kernel_rfl):SW P N ops m i E K:=by grind [Eg,mM,PY.nil,SW]
def Zc (P:Program) (N:Nat) (a:Array Oper) (m:Nat) (E:St) (i:Nat):Option St:=bif Nat.blt i a.size&&Nat.blt i m&&GW N (oA a i)then
  match Bt P a E (oA a i)with
  |some true=>match EX P E (oA a i)with
   |some s=>some<|E.put (oA a i).dst s
   |none=>none
  |some false=>some<|E.put (oA a i).dst<|.tup []
  |none=>none else none
def UL (P:Program) (N:Nat) (a:Array Oper) (m:Nat):Nat->Nat->St->Option St
 |0,_,E=>some E
 |k+1,i,E=>match Zc P N a m E i with
  |some E'=>UL P N a m k (i+1) E'
  |none=>none
theorem SW.st {m:Nat} (hs:Zc P N ops m E i=some E') (h:SW P N ops m (i+1) E' K):SW P N ops m i E K:=by grind [D6,Mf,PY.op,jE,Zc,SW]
theorem SW.run {m:Nat}:∀{k i:Nat} {E E':St},UL P N ops m k i E=some E'->SW P N ops m (i+k) E' K->SW P N ops m i E K
 |0,i,E,E',h,hw=>by grind [UL]
 |k+1,i,E,E',h,hw=>by
  simp only[UL]at h;split at h
  ·rename_i E1 h1;exact SW.st h1 (SW.run h (by grind))
  cases h
theorem BT {m:Nat} (k:Nat) (h:SW P N ops m (i+k) ((UL P N ops m k i E).getD E) K) (hk:(UL P N ops m k i E).isSome=true:=by kernel_rfl):SW P N ops m i E K:=SW.run (getD_some hk) h
theorem SW.q {m:Nat} {s:SV} (hp:AF P E (oA ops i)=some s) (h:SW P N ops m (i+1) (E.put (oA ops i).dst s) K) (hk:(f7 P N ops i E&&Nat.blt i m)=true:=by kernel_rfl):SW P N ops m i E K:=by
 rw[Al]at hk;obtain⟨h1,h2,d,h3,h4,h5⟩:=Zu hk.1;obtain⟨h6,h7⟩:=FX h1
 grind [Mf,PY.op,aW,SW]
theorem TG {m:Nat} {r:β} {b:Bool} (t:Nat) (h:(bif b then tx else ty)=some r) (ht:tx=some r->SW P N ops m i (E.rs t true) K) (hf:ty=some r->SW P N ops m i (E.rs t false) K) (hc:E.slots t=B b:=by kernel_rfl):SW P N ops m i E K:=o9 h t ht hf hc
def g6 (n:Nat):List Nat->Array Bool
 |[]=>Array.replicate n false
 |i::l=>(g6 n l).setIfInBounds i true
def KW (P:Program) (N:Nat) (a:Array Oper) (ts:List Nat) (dn:List Nat) (E:St) (Q:Exit->St->Prop):Prop:=Rz P N a ts (a.size-dn.length) (g6 a.size dn) E Q
def KB (P:Program) (N:Nat) (a:Array Oper) (ts:List Nat) (dn:List Nat) (i:Nat) (E:St) (Q:Exit->St->Prop):Prop:=VK P N a ts i E (λE'=>KW P N a ts (i::dn) E' Q) Q
theorem AD {ts:List Nat} (h:Q .normal E) (hr:(Region.ready .any ops (g6 ops.size dn)).isEmpty=true:=by kernel_rfl):KW P N ops ts dn E Q:=jI h<|by simpa using hr
def jP (a:Array Oper) (dn l:List Nat):Bool:=(Region.ready .any a (g6 a.size dn)==l)&&Nat.blt dn.length a.size
theorem NK (h:Nat.blt dn.length ops.size=true):ops.size-dn.length=(ops.size-(i::dn).length)+1:=by grind [Lj]
theorem KW.all {ts:List Nat} (l:List Nat) (h:∀i∈l,KB P N ops ts dn i E Q) (a:l≠ []) (hr:jP ops dn l=true):KW P N ops ts dn E Q:=by
 simp only[jP,Al,HA]at hr;unfold KW;rw[NK (i:=0) hr.2];exact Rz.all l (λi hi=>h i hi) hr.1 a
theorem AJ {ts:List Nat} (i:Nat) (h:KB P N ops ts dn i E Q) (hr:jP ops dn [i]=true:=by kernel_rfl):KW P N ops ts dn E Q:=KW.all [i] (λj hj=>by grind) (by simp) hr
theorem CC {ts:List Nat} (i j:Nat) (h:KB P N ops ts dn i E Q) (h2:KB P N ops ts dn j E Q) (hr:jP ops dn [i,j]=true:=by kernel_rfl):KW P N ops ts dn E Q:=KW.all [i,j] (λm hm=>by grind) (by simp) hr
theorem R0 {ts:List Nat} (i j k:Nat) (h:KB P N ops ts dn i E Q) (h2:KB P N ops ts dn j E Q) (h3:KB P N ops ts dn k E Q) (hr:jP ops dn [i,j,k]=true:=by kernel_rfl):KW P N ops ts dn E Q:=KW.all [i,j,k] (λm hm=>by grind) (by simp) hr
theorem nM {ts:List Nat} (i j k l:Nat) (h:KB P N ops ts dn i E Q) (h2:KB P N ops ts dn j E Q) (h3:KB P N ops ts dn k E Q) (h4:KB P N ops ts dn l E Q) (hr:jP ops dn [i,j,k,l]=true:=by kernel_rfl):KW P N ops ts dn E Q:=KW.all [i,j,k,l] (λm hm=>by grind) (by simp) hr
theorem GE {ts:List Nat} (hs:BD P N mv E (oA ops i)=some E') (h:KW P N ops ts (i::dn) E' Q) (hk:(OF P ops E i&&(kp (oA ops i)||ts.contains i))=true:=by kernel_rfl):KB P N ops ts dn i E Q:=by
 rw[Al]at hk;obtain⟨h1,h2⟩:=FX hk.1;exact VK.op i mv h hs (EY h1) h2 hk.2
theorem KB.q {ts:List Nat} {s:SV} (hp:AF P E (oA ops i)=some s) (h:KW P N ops ts (i::dn) (E.put (oA ops i).dst s) Q) (hk:(f7 P N ops i E&&(kp (oA ops i)||ts.contains i))=true:=by kernel_rfl):KB P N ops ts dn i E Q:=by
 rw[Al]at hk;obtain⟨h1,h2,d,h3,h4,h5⟩:=Zu hk.1;rw[h3]at h;exact GE (aU hp h3 h4 h2) h<|by grind
def cK (a:Array Oper) (ts dn:List Nat) (i:Nat):Bool:=Nat.blt dn.length a.size&&NO a ts a.size i (g6 a.size dn)
theorem pK {ts:List Nat} {s:SV} (i:Nat) (hp:EX P E (oA ops i)=some s) (h:KW P N ops ts (i::dn) (E.put (oA ops i).dst s) Q) (hk:(OF P ops E i&&GW N (oA ops i)&&cK ops ts dn i)=true):KW P N ops ts dn E Q:=by
 simp only[Al,cK]at hk;obtain⟨⟨h1,h2⟩,h3,h4⟩:=hk;obtain⟨h5,h6⟩:=FX h1;obtain⟨d,h7,h8,_⟩:=D6 h2;unfold KW at h⊢;rw[NK (i:=i) h3];rw[h7]at h;exact Rz.take ops.size i d s h hp (EY h5) h4 h6 h7 h8
theorem KW.q {ts:List Nat} {s:SV} (i:Nat) (hp:AF P E (oA ops i)=some s) (h:KW P N ops ts (i::dn) (E.put (oA ops i).dst s) Q) (hk:(f7 P N ops i E&&cK ops ts dn i)=true:=by kernel_rfl):KW P N ops ts dn E Q:=by grind [pK,aW,f7]
theorem rD {ts:List Nat} (i:Nat) (h:KW P N ops ts (i::dn) (E.put (oA ops i).dst (.tup [])) Q) (hg:Bt P ops E (oA ops i)=some false) (hk:(Nat.blt i ops.size&&GW N (oA ops i)&&cK ops ts dn i)=true):KW P N ops ts dn E Q:=by
 simp only[Al,cK]at hk;obtain⟨⟨h1,h2⟩,h3,h4⟩:=hk;obtain⟨d,h7,h8,_⟩:=D6 h2;unfold KW at h⊢;rw[NK (i:=i) h3];rw[h7]at h;exact Xe ops.size i d h (EY h1) h4 hg h7 h8
def hH (P:Program) (N:Nat) (a:Array Oper) (ts:List Nat) (mv:Bool) (dn:List Nat) (E:St) (i:Nat):Option St:=match Bt P a E (oA a i)with
 |some false=>bif Nat.blt i a.size&&GW N (oA a i)&&cK a ts dn i then some (E.put (oA a i).dst<|.tup [])else none
 |some true=>bif Nat.blt i a.size&&GW N (oA a i)&&cK a ts dn i&&!mv then
   (match EX P E (oA a i)with
   |some s=>some<|E.put (oA a i).dst s
   |none=>bif jP a dn [i]&&(kp (oA a i)||ts.contains i)then BD P N mv E (oA a i)else none) else bif Nat.blt i a.size&&jP a dn [i]&&(kp (oA a i)||ts.contains i)then BD P N mv E (oA a i)else none
 |none=>none
section
variable {m:Nat}
def hJ (P:Program) (N:Nat) (a:Array Oper) (ts:List Nat):List Nat->Nat->List Nat->St->Option St
 |[],_,_,E=>some E
 |i::l,m,dn,E=>match hH P N a ts (Nat.beq (m %2) 1) dn E i with
  |some E'=>hJ P N a ts l (m/2) (i::dn) E'
  |none=>none
end
def Wy:List Nat->List Nat->List Nat
 |[],dn=>dn
 |i::l,dn=>Wy l (i::dn)
section
variable {ts:List Nat}
theorem KW.st (hs:hH P N ops ts mv dn E i=some E') (h:KW P N ops ts (i::dn) E' Q):KW P N ops ts dn E Q:=by
 unfold hH at hs;split at hs
 ·grind [rD]
 ·rename_i hg;have one:(Nat.blt i ops.size&&jP ops dn [i]&&(kp (oA ops i)||ts.contains i))=true->BD P N mv E (oA ops i)=some E'->KW P N ops ts dn E Q:=by
   intro hb hs;simp only[Al]at hb;refine AJ i (GE hs h ?_) hb.1.2
   grind [OF]
  grind [pK,OF]
 cases hs
end
section
variable {m:Nat} {ts:List Nat}
theorem KW.run:∀{l:List Nat} {m:Nat} {dn:List Nat} {E E':St},hJ P N ops ts l m dn E=some E'->KW P N ops ts (Wy l dn) E' Q->KW P N ops ts dn E Q
 |[],m,dn,E,E',h,hw=>by
  injection h with h
  subst h;exact hw
 |i::l,m,dn,E,E',h,hw=>by
  simp only[hJ]at h;split at h
  ·rename_i E1 h1;exact KW.st h1 (KW.run h hw)
  cases h
end
theorem AB {ts:List Nat} (l:List Nat) (m:Nat) (h:KW P N ops ts (Wy l dn) ((hJ P N ops ts l m dn E).getD E) Q) (hk:(hJ P N ops ts l m dn E).isSome=true:=by kernel_rfl):KW P N ops ts dn E Q:=KW.run (getD_some hk) h
theorem Ow {r:β} {ts:List Nat} {b:Bool} (t:Nat) (h:(bif b then tx else ty)=some r) (ht:tx=some r->KW P N ops ts dn (E.rs t true) Q) (hf:ty=some r->KW P N ops ts dn (E.rs t false) Q) (hc:E.slots t=B b:=by kernel_rfl):KW P N ops ts dn E Q:=pJ h t ht hf hc
theorem nL {id:Nat} (h:RW P N ops 0 E Q):Wp P N (.region id ops false) E Q:=by
 have:=Wp.region (id:=id) (l:=ops.toList) (P:=P) (N:=N) (E:=E) (Q:=Q) (by simpa[RW]using h);simpa using this
theorem GX {id:Nat} (hm:P.follows .mixedOrders=true) (h:SW P N ops ops.size 0 E (λE'=>Q .normal E')) (hB:Region.lexB .any ops=true:=by kernel_rfl):Wp P N (.region id ops true) E Q:=by
 have:=ZU (id:=id) (l:=ops.toList) (P:=P) (N:=N) (E:=E) (Q:=Q) hm (by simpa using hB) (by simp_all [AY,SW]);simpa using this
theorem Mz {id:Nat} (n:Nat) (hm:P.follows .mixedOrders=true) (h:SW P N ops n 0 E (λE'=>RW P N ops n E' Q)) (hB:Region.lexTailB .any ops n=true:=by kernel_rfl):Wp P N (.region id ops true) E Q:=by
 have:=ZT (id:=id) (l:=ops.toList) (P:=P) (N:=N) (E:=E) (Q:=Q) n hm (by simpa using hB) (by simp_all [SW,RW]);simpa using this
theorem Cz {id:Nat} (ts:List Nat) (hm:P.follows .mixedOrders=true) (hQ:∀c E,Q (.panic c) E->False) (h:KW P N ops ts [] E Q):Wp P N (.region id ops true) E Q:=
 ZV ops.size ts hm hQ (by grind [KW,g6]) rfl
def Vb (E:St) (x:Operand) (sz:Nat):Option (List TV):=match E.ref x with
 |some (r,q,j)=>match E.place r q j with
  |some (.sl _ _ s cells)=>bif Nat.beq s sz then some cells else none
  |_=>none
 |none=>none
theorem LJ {x:Operand} {a:List TV} (h:Vb E x sz=some a):∃r q j b e,E.ref x=some (r,q,j)/\E.place r q j=some (.sl b e sz a):=by grind [AU,Vb]
def Ty (P:Program) (t:TypeId):TypeId:=match P.underlying t with
 |some (.slice e)=>e
 |_=>0
def Sp (P:Program) (t:TypeId) (sz:Nat):Bool:=match P.underlying t with
 |some (.slice e)=>Nat.beq (P.cellsOf e) sz&&Nat.blt 0 sz
 |_=>false
theorem Ja {t:TypeId} (h:Sp P t sz=true):∃e,P.underlying t=some (.slice e)/\P.cellsOf e=sz/\Nat.blt 0 sz=true:=by grind [AU,Sp]
def HF (E:St) (x:Operand):Root×List Nat×Nat:=(E.ptr? x).getD (.hand,[],0)
def HE (E:St) (x:Operand):Root×List Nat×Nat:=(E.ref x).getD (.hand,[],0)
def Nd (E:St) (x:Operand):Option (List TV×Nat):=match E.ptr? x with
 |some (r,q,j)=>match(E.root r).bind λcs=>Bg cs q with
  |some row=>some (row,j)
  |none=>none
 |none=>none
theorem Nc {x:Operand} {a:List TV} (h:Nd E x=some (a,j)):E.ptr? x=some ((HF E x).1,(HF E x).2.1,j)/\(E.root (HF E x).1).bind (λcs=>Bg cs (HF E x).2.1)=some a:=by grind [Nd,HF]
theorem dC {x:Operand} {r:Root} {q:List Nat} {a:List TV} (h1:E.ptr? x=some (r,q,j)) (h2:(E.root r).bind (λcs=>Bg cs q)=some a):Nd E x=some (a,j):=by
 unfold Nd
 grind
def FV (o:Oper):TypeId×Operand×Operand:=match o.op with
 | .indexAddr t a i=>(t,a,i)
 |_=>(0,.tmp 0,.tmp 0)
def iA (o:Oper):Bool:=match o.op with
 | .indexAddr .. =>true
 |_=>false
theorem lM {o:Oper} (h:iA o=true):o.op= .indexAddr (FV o).1 (FV o).2.1 (FV o).2.2:=by grind [iA,FV]
def PB (P:Program) (E:St) (x:Operand):Option Int:=match E.cell1 P 0 x with
 |some (.int _ n)=>some n
 |_=>none
theorem G7 {x:Operand} (h:PB P E x=some n):∃k,E.cell1 P 0 x=some (.int k n):=by grind [PB]
def hZ (P:Program) (E:St) (o:Oper) (sz:Nat):Option (List TV×Int):=bif iA o&&Sp P (FV o).1 sz then(match Vb E (FV o).2.1 sz,PB P E (FV o).2.2 with
 |some c,some n=>some (c,n)
 |_,_=>none)else none
def Yk (E:St) (o:Oper) (m:Nat):SV:= .one (.ptr (HE E (FV o).2.1).1 (E.ver (HE E (FV o).2.1).1) ((HE E (FV o).2.1).2.1++ [(HE E (FV o).2.1).2.2]) m)
section
variable {o:Oper} {x:α}
theorem EU (hf:∀x,(f x).length=sz) (hx:gi l n=some x) (hc:hZ P E o sz=some (A8 f l,n):=by kernel_rfl):AF P E o=some (Yk E o<|n.toNat*sz+0):=by grind [LJ,G7,Ja,qF,hZ,iA,FV,Yk,HE]
end
section
variable {o:Oper} {x:α}
theorem kO (hf:∀x,(f x).length=sz) (hx:gi l n=some x) (hf':∀x,(f' x).length=sz') (hx':gi l' n'=some x') (k:Nat) (hi:(iA o&&Sp P (FV o).1 sz&&Nat.blt k sz')=true:=by kernel_rfl) (hn:PB P E (FV o).2.2=some n:=by kernel_rfl) (hr:E.ref (FV o).2.1=some ((HE E (FV o).2.1).1,(HE E (FV o).2.1).2.1,n'.toNat*sz'+k):=by kernel_rfl) (hp:(E.root (HE E (FV o).2.1).1).bind (λcs=>Bg cs (HE E (FV o).2.1).2.1)=some (A8 f' l'):=by kernel_rfl) {a:Bool} (hc:(f' x')[k]?=some (.sl a e' sz<|A8 f l):=by rfl):AF P E o=some (Yk E o<|n.toNat*sz+0):=by
 simp only[Al]at hi;obtain⟨k',h5⟩:=G7 hn;obtain⟨e,h6,h7,h8⟩:=Ja hi.1.2;have b:E.place (HE E (FV o).2.1).1 (HE E (FV o).2.1).2.1 (n'.toNat*sz'+k)=some (.sl a e' sz<|A8 f l):=by
  obtain⟨cs,h1,h2⟩:=Aj.1 hp
  grind [Mb,St.place]
 grind [qF,lM,HE,FV,Yk]
end
section
variable {x:α}
theorem sN {a:Operand} {b:List TV} (q0:Nat) (hf':∀x,(f' x).length=sz') (hx':gi l' n'=some x') (k:Nat) (h1:E.ptr? a=some ((HF E a).1,[q0,n'.toNat*sz'+k],j):=by kernel_rfl) (hc:(E.root (HF E a).1).bind (λcs=>Bg cs [q0])=some (A8 f' l'):=by kernel_rfl) (c:Bg (f' x') [k]=some b:=by kernel_rfl) (hk:Nat.blt k sz'=true:=by kernel_rfl):Nd E a=some (b,j):=by
 refine dC h1 ?_;obtain⟨cs,h2,h3⟩:=Aj.1 hc
 grind [cB,Bg]
end
def No (o:Oper):TypeId×Operand×Nat:=match o.op with
 | .fieldAddr t a i=>(t,a,i)
 |_=>(0,.tmp 0,0)
def oO (o:Oper):Bool:=match o.op with
 | .fieldAddr .. =>true
 |_=>false
theorem lN {o:Oper} (h:oO o=true):o.op= .fieldAddr (No o).1 (No o).2.1 (No o).2.2:=by grind [oO,No]
def nF (P:Program) (o:Oper):Option Nat:=match P.underlying (No o).1 with
 |some (.struct fs)=>match fs[(No o).2.2]? with
  |some fd=>bif Nat.beq (P.cellsOf fd.type) 0 then none else some fd.offset
  |none=>none
 |_=>none
def qU (E:St) (o:Oper) (m:Nat):SV:= .one (.ptr (HF E (No o).2.1).1 (E.stamp (HF E (No o).2.1).1 (HF E (No o).2.1).2.1) (HF E (No o).2.1).2.1 m)
section
variable {o:Oper} {x:α}
theorem Cn (hf:∀x,(f x).length=sz) (hx:gi l n=some x) (k m:Nat) (hr:Nd E (No o).2.1=some (A8 f l,n.toNat*sz+k):=by kernel_rfl) (ho:(oO o&&Nat.blt m sz)=true:=by kernel_rfl) (a:nF P o=some (m-k):=by kernel_rfl) (c:Nat.ble k m=true:=by kernel_rfl):AF P E o=some (qU E o<|n.toNat*sz+m):=by
 rw[Al]at ho;obtain⟨h1,h2⟩:=Nc hr;have d:k<=m:=by simp_all
 unfold nF at a;split at a
 ·rename_i fs hs;split at a
  ·rename_i fd b
   cases hb:Nat.beq (P.cellsOf fd.type) 0 with
   |true=>grind
   |false=>
    rw[hb]at a
    injection a with a
    have hm:k+fd.offset=m:=by omega
    exact r8 hf _ _ k hx h2 (lN ho.1) hs h1 b hb hm<|by grind
  cases a
 cases a
end
def Kw (o:Oper):TypeId×Operand:=match o.op with
 | .load t a=>(t,a)
 |_=>(0,.tmp 0)
def lL (o:Oper):Bool:=match o.op with
 | .load .. =>true
 |_=>false
theorem bR {o:Oper} (h:lL o=true):o.op= .load (Kw o).1 (Kw o).2:=by grind [lL,Kw]
def nC (P:Program) (o:Oper) (k sz:Nat):Bool:=lL o&&!WY P (Kw o).1&&Nat.beq (P.cellsOf (Kw o).1) 1&&(P.underlying (Kw o).1).isSome&&Nat.blt k sz
def nD (P:Program) (o:Oper) (k m sz:Nat):Bool:=lL o&&WY P (Kw o).1&&Nat.beq (P.cellsOf (Kw o).1) m&&Nat.ble (k+m) sz
def tH (E:St) (o:Oper) (j:Nat) (u:TV):SV:= .one (nT E (HF E (Kw o).2).1 (HF E (Kw o).2).2.1 j u)
def tI (E:St) (o:Oper) (j:Nat) (us:List TV):SV:= .agg (Qi E (HF E (Kw o).2).1 (HF E (Kw o).2).2.1 j us)
section
variable {o:Oper} {x:α}
theorem BK (hf:∀x,(f x).length=sz) (hx:gi l n=some x) (k:Nat) (hr:Nd E (Kw o).2=some (A8 f l,n.toNat*sz+k):=by kernel_rfl) (ho:nC P o k sz=true:=by kernel_rfl):AF P E o=some (tH E o (n.toNat*sz+k)<|((f x)[k]?).getD .junk):=by
 simp only[nC,Al,Hf]at ho;obtain⟨⟨⟨⟨h3,h4⟩,h5⟩,h6⟩,h7⟩:=ho;obtain⟨h1,h2⟩:=Nc hr;have hk:k<(f x).length:=by simp_all
 refine r7 hf _ _ k _ hx h2 (bR h3) h1 h4 (AU h5) h6 h7 ?_
 grind
end
section
variable {o:Oper} {x:α}
theorem Px (hf:∀x,(f x).length=sz) (hx:gi l n=some x) (k m:Nat) (hr:Nd E (Kw o).2=some (A8 f l,n.toNat*sz+k):=by kernel_rfl) (ho:nD P o k m sz=true:=by kernel_rfl):AF P E o=some (tI E o (n.toNat*sz+k)<|((f x).drop k).take m):=by
 simp only[nD,Al]at ho;obtain⟨⟨⟨h3,h4⟩,h5⟩,h6⟩:=ho;obtain⟨h1,h2⟩:=Nc hr;exact r6 hf _ _ k m hx h2 (bR h3) h1 h4 (AU h5) h6
end
section
variable {x:α}
def KV (o:Oper):TypeId×Operand:=match o.op with
 | .call c=>match c.callee,c.args.toList,c.argTypes.toList with
  | .builtin .len,[x],[t]=>(t,x)
  |_,_,_=>(0,.tmp 0)
 |_=>(0,.tmp 0)
end
section
variable {x:α}
def lK (o:Oper):Bool:=match o.op with
 | .call c=>match c.callee,c.args.toList,c.argTypes.toList with
  | .builtin .len,[x],[t]=>true
  |_,_,_=>false
 |_=>false
end
theorem bQ {o:Oper} (h:lK o=true):o.op= .call {callee:= .builtin .len,args:= #[(KV o).2],argTypes:= #[(KV o).1]}:=by
 unfold lK at h;unfold KV;split at h
 ·rename_i c hc;split at h
  ·rename_i x t h1 h2 h3;obtain⟨callee,args,types⟩:=c;subst h1;obtain rfl:args= #[x]:=by cases args;simp_all
   obtain rfl:types= #[t]:=by cases types;simp_all
   rw[hc]
  cases h
 cases h
section
variable {o:Oper} {x:α}
theorem Co (hf:∀x,(f x).length=sz) (l:List α) (hr:Vb E (KV o).2 sz=some (A8 f l):=by kernel_rfl) (ho:(lK o&&Sp P (KV o).1 sz)=true:=by kernel_rfl):AF P E o=some (.one<|.int .i64<|ln l):=by
 rw[Al]at ho;obtain⟨r,q,j,a,e',h3,h4⟩:=LJ hr;obtain⟨e,h6,h7,h8⟩:=Ja ho.2;exact qE hf l (bQ ho.1) h6 h3 h4 h8
end
section
variable {o:Oper} {x:α}
theorem nZ (hf:∀x,(f x).length=sz) (l:List α) (hf':∀x,(f' x).length=sz') (hx':gi l' n'=some x') (k:Nat) (ho:(lK o&&Sp P (KV o).1 sz&&Nat.blt k sz')=true:=by kernel_rfl) (hr:E.ref (KV o).2=some ((HE E (KV o).2).1,(HE E (KV o).2).2.1,n'.toNat*sz'+k):=by kernel_rfl) (hp:(E.root (HE E (KV o).2).1).bind (λcs=>Bg cs (HE E (KV o).2).2.1)=some (A8 f' l'):=by kernel_rfl) {a:Bool} (hc:(f' x')[k]?=some (.sl a e' sz<|A8 f l):=by rfl):AF P E o=some (.one<|.int .i64<|ln l):=by
 simp only[Al]at ho;obtain⟨e,h6,h7,h8⟩:=Ja ho.1.2;have b:E.place (HE E (KV o).2).1 (HE E (KV o).2).2.1 (n'.toNat*sz'+k)=some (.sl a e' sz<|A8 f l):=by
  obtain⟨cs,h1,h2⟩:=Aj.1 hp
  grind [Mb,St.place]
 exact qE hf l (bQ ho.1.1) h6 hr b h8
end
def Sm (P:Program) (E:St) (t:TypeId) (x:Operand):Option ByteArray:=match E.cell1 P t x with
 |some (.str s)=>some s
 |_=>none
theorem Lq {t:TypeId} {x:Operand} {s:ByteArray} (h:Sm P E t x=some s):E.cell1 P t x=some (.str s):=by grind [Sm]
def Ym (P:Program) (t:TypeId):Bool:=match P.underlying t with
 |some .string=>true
 |_=>false
theorem SY {t:TypeId} (h:Ym P t=true):P.underlying t=some .string:=by grind [Ym]
def mU (P:Program) (E:St) (o:Oper):Option (ByteArray×Int):=match o.op with
 | .index t a i=>match Ym P t,Sm P E t a,PB P E i with
  |true,some s,some n=>some (s,n)
  |_,_,_=>none
 |_=>none
theorem jQ {o:Oper} {s:ByteArray} {n b:Int} (h:sx s n=some b) (hc:mU P E o=some (s,n):=by kernel_rfl):AF P E o=some (.one<|.int .u8 b):=by grind [G7,rZ,SY,Lq,mU]
section
variable {x:α}
def Yy (P:Program) (E:St) (d:Int):Option Operand->Option Int
 |none=>some d
 |some x=>PB P E x
end
def fG (P:Program) (E:St) (o:Oper):Option (ByteArray×Int×Int):=match o.op with
 | .slice t a lo hi none=>match Ym P t,Sm P E t a with
  |true,some s=>match Yy P E 0 lo,Yy P E (s.size:Nat) hi with
   |some l,some h=>some (s,l,h)
   |_,_=>none
  |_,_=>none
 |_=>none
section
variable {o:Oper}
theorem ON {d:Int} {x:Option Operand} (h:Yy P E d x=some n):∃k,(match x with|some o=>E.cell1 P 0 o|none=>some (.int .i64 d))=some (.int k n):=by
 cases x with
 |none=>
  injection h with h
  simp_all
 |some x=>exact G7 h
end
theorem Up {o:Oper} {s u:ByteArray} {l h:Int} (hx:sub s l h=some u) (hc:fG P E o=some (s,l,h):=by kernel_rfl):AF P E o=some (.one<|.str u):=by
 unfold fG at hc
 grind [ON,qD,SY,Lq]
section
variable {x:α}
def iT (P:Program) (E:St) (o:Oper):Option (ByteArray×ByteArray):=match o.op with
 | .binOp .add t x y _=>match Sm P E t x,Sm P E t y with
  |some a,some b=>some (a,b)
  |_,_=>none
 |_=>none
end
theorem OE {o:Oper} {a b u:ByteArray} (hx:Q8 a b=some u) (hc:iT P E o=some (a,b):=by kernel_rfl):AF P E o=some (.one<|.str u):=by grind [qH,Lq,iT]
section
variable {x:α}
def Mx (o:Oper):TypeId×TypeId×Operand:=match o.op with
 | .convert s d x=>(s,d,x)
 |_=>(0,0,.tmp 0)
end
section
variable {x:α}
def qW (P:Program) (o:Oper):Bool:=match o.op with
 | .convert s d x=>(match P.underlying s,P.underlying d with
  |some (.slice e),some .string=>(match P.underlying e with
   |some (.int .u8)=>true
   |_=>false)
  |_,_=>false)
 |_=>false
end
theorem n9 {o:Oper} {f:Int->List TV} (hf:∀n,f n=[.int .u8 n]) (l:List Int) (hr:Vb E (Mx o).2.2 1=some (A8 f l):=by kernel_rfl) (ho:qW P o=true:=by kernel_rfl):AF P E o=some (.one<|.str<|Gy l):=by grind [LJ,sC,qW,Mx]
section
variable {x:α}
def Lc (o:Oper):TypeId×Operand×Option Operand×Option Operand:=match o.op with
 | .slice t x lo hi none=>(t,x,lo,hi)
 |_=>(0,.tmp 0,none,none)
end
section
variable {x:α}
def lO (o:Oper):Bool:=match o.op with
 | .slice t x lo hi none=>true
 |_=>false
end
theorem bS {o:Oper} (h:lO o=true):o.op= .slice (Lc o).1 (Lc o).2.1 (Lc o).2.2.1 (Lc o).2.2.2 none:=by grind [lO,Lc]
def aY (E:St) (x:Operand) (sz:Nat):Option (Nat×List TV):=match E.ref x with
 |some (r,q,j)=>match E.place r q j with
  |some (.sl false e s cells)=>bif Nat.beq s sz then some (e,cells)else none
  |_=>none
 |none=>none
theorem SD {x:Operand} {a:List TV} {e:Nat} (h:aY E x sz=some (e,a)):∃r q j,E.ref x=some (r,q,j)/\E.place r q j=some (.sl false e sz a):=by grind [AU,aY]
section
variable {o:Oper} {x:α}
theorem rM (hf:∀x,(f x).length=sz) {v:List α} {a b:Int} (e:Nat) (hx:dr l a b=some v) (hr:aY E (Lc o).2.1 sz=some (e,A8 f l):=by kernel_rfl) (ha:Yy P E 0 (Lc o).2.2.1=some a:=by kernel_rfl) (hb:((Lc o).2.2.2.bind<|PB P E)=some b:=by kernel_rfl) (ho:(lO o&&Sp P (Lc o).1 sz)=true:=by kernel_rfl):AF P E o=some (.one<|.sl false e sz<|A8 f v):=by
 rw[Al]at ho;obtain⟨r,q,j,h1,h2⟩:=SD hr;obtain⟨e1,h6,h7,h8⟩:=Ja ho.2;obtain⟨k1,h3⟩:=ON ha;obtain⟨oh,h4,h5⟩:=Aj.1 hb;obtain⟨k2,h5⟩:=G7 h5;have:=bS ho.1
 grind [r9]
end
section
variable {o:Oper} {x:α}
theorem n8 (hf:∀x,(f x).length=sz) {v:List α} {a:Int} (e:Nat) (hx:dr l a (ln l)=some v) (hr:aY E (Lc o).2.1 sz=some (e,A8 f l):=by kernel_rfl) (ha:Yy P E 0 (Lc o).2.2.1=some a:=by kernel_rfl) (ho:(lO o&&Sp P (Lc o).1 sz&&(Lc o).2.2.2.isNone)=true:=by kernel_rfl):AF P E o=some (.one<|.sl false e sz<|A8 f v):=by
 simp only[Al]at ho;obtain⟨r,q,j,h1,h2⟩:=SD hr;obtain⟨e1,h6,h7,h8⟩:=Ja ho.1.2;obtain⟨k1,h3⟩:=ON ha;have:=bS ho.1.1
 grind [Option.isNone_iff_eq_none,qG]
end
section
variable {x:α}
def EL (o:Oper):TypeId×TypeId×Operand×Operand:=match o.op with
 | .call c=>match c.callee,c.args.toList,c.argTypes.toList with
  | .builtin .append,[s,x],[t,t']=>(t,t',s,x)
  |_,_,_=>(0,0,.tmp 0,.tmp 0)
 |_=>(0,0,.tmp 0,.tmp 0)
end
section
variable {x:α}
def lQ (o:Oper):Bool:=match o.op with
 | .call c=>match c.callee,c.args.toList,c.argTypes.toList with
  | .builtin .append,[s,x],[t,t']=>true
  |_,_,_=>false
 |_=>false
end
theorem bT {o:Oper} (h:lQ o=true):o.op= .call {callee:= .builtin .append,args:= #[(EL o).2.2.1,(EL o).2.2.2],argTypes:= #[(EL o).1,(EL o).2.1]}:=by
 unfold lQ at h;unfold EL;split at h
 ·rename_i c hc;split at h
  ·rename_i s x t t' h1 h2 h3;obtain⟨callee,args,types⟩:=c;subst h1;obtain rfl:args= #[s,x]:=by grind
   obtain rfl:types= #[t,t']:=by grind
   rw[hc]
  cases h
 cases h
def mI (P:Program) (N:Nat) (o:Oper) (sz by_:Nat):Bool:=lQ o&&Nat.beq (EL o).1 (EL o).2.1&&Sp P (EL o).1 sz&&(Ii P<|Ty P (EL o).1).isSome&&Nat.beq (P.bytesOf<|Ty P (EL o).1) by_&&Nat.blt 0 by_&&GW N o
def Rw (P:Program) (E:St) (o:Oper) (sz:Nat):Option (List TV×St):=match E.cell1 P (EL o).1 (EL o).2.2.1 with
 |some sv=>match D1 E sv with
  |some (.sl true e s cells,E1)=>bif Nat.beq e (Ty P (EL o).1)&&Nat.beq s sz then some (cells,E1)else none
  |_=>none
 |none=>none
def o5 (P:Program) (E:St) (o:Oper) (sz:Nat):St:=((Rw P E o sz).map Prod.snd).getD E
def rU (P:Program) (o:Oper) (sz:Nat) (a:List TV):SV:= .one (.sl true (Ty P (EL o).1) sz a)
def jA (P:Program) (E1:St) (o:Oper) (sz:Nat):Option (Nat×List TV×St):=match E1.ref (EL o).2.2.2 with
 |some (r,q,j)=>match E1.place r q j with
  |some (.sl _ _ s cells)=>bif Nat.beq s sz then(match Ej E1 (Qi E1 r (q++ [j]) 0 cells)with
   |some (news,E2)=>some (cells.length,news,E2)
   |none=>none)else none
  |_=>none
 |none=>none
theorem WN {t:TypeId} {e:TypeId} (h:P.underlying t=some (.slice e)):Ty P t=e:=by unfold Ty;rw[h]
section
variable {o:Oper} {x:α}
theorem qT {E2:St} {e2:Nat} {cells2:List TV} (hf:∀x,(f x).length=sz) (l m:List α) (h:ap by_ l m=some u) (hd:Rw P E o sz=some (A8 f l,E1)) {r:Root} {q:List Nat} {b:Bool} (hr:E1.ref (EL o).2.2.2=some (r,q,j)) (hp:E1.place r q j=some (.sl b e2 sz cells2)) (hn:Ej E1 (Qi E1 r (q++ [j]) 0 cells2)=some (A8 f m,E2)) (hl:cells2.length=m.length*sz) (ho:mI P N o sz by_=true):BD P N false E o=some (E2.put o.dst (rU P o sz (A8 f u))):=by
 obtain⟨rfl,g⟩:=mH h;simp only[mI,Al]at ho;obtain⟨⟨⟨⟨⟨⟨a1,a2⟩,a3⟩,a4⟩,a5⟩,a6⟩,a7⟩:=ho;obtain⟨d,a8,_,a9⟩:=D6 a7;obtain⟨e,b1,b2,b3⟩:=Ja a3;have a:=WN b1;rw[a]at a4 a5;have h0':0<sz:=by simp_all
 have hb0':0<by_:=by simp_all
 have hb:=AU a5;have i:=AU a2;unfold Rw at hd;rw[a]at hd;split at hd
 ·rename_i sv hs;split at hd
  ·rename_i e1 s c E1' h1
   cases hc:(Nat.beq e1 e&&Nat.beq s sz)with
   |false=>grind
   |true=>
    rw[hc]at hd
    injection hd with hd
    injection hd with hd1 hd2
    rw[Al]at hc;have c1:=AU hc.1;have c2:=AU hc.2;subst hd1 hd2 c1 c2;have k:(A8 f l).length/s=l.length:=by simp_all [H4]
    have n:cells2.length/s=m.length:=by simp_all
    have p:l.length+m.length<=(l.length+m.length)*by_:=Nat.le_mul_of_pos_right _ hb0';simp_all [bT,Yz,BD,Ju,rU];grind
  cases hd
 cases hd
end
theorem TE {o:Oper} {a:List TV} (h:(Rw P E o sz).map Prod.fst=some a):Rw P E o sz=some (a,o5 P E o sz):=by grind [o5,Rw]
section
variable {o:Oper} {x:α}
theorem Ce (hf:∀x,(f x).length=sz) (hg:∀x,Gn (f x)=true) (l:List α) {m u:List α} (h:ap by_ l m=some u) (hd:(Rw P E o sz).map Prod.fst=some (A8 f l):=by kernel_rfl) (hm:Vb (o5 P E o sz) (EL o).2.2.2 sz=some (A8 f m):=by kernel_rfl) (ho:mI P N o sz by_=true:=by kernel_rfl):
  BD P N false E o=some ((o5 P E o sz).put o.dst<|rU P o sz<|A8 f u):=by
 obtain⟨r,q,j,a,e,h1,h2⟩:=LJ hm;exact qT hf l m h (TE hd) h1 h2 (by grind [Sr,SH,Mo]) (H4 hf m) ho
end
section
variable {o:Oper} {x:α}
theorem Ut (hf:∀x,(f x).length=sz) (l m:List α) (h:ap by_ l m=some u) (hd:(Rw P E o sz).map Prod.fst=some (A8 f l):=by kernel_rfl) (hm:(jA P (o5 P E o sz) o sz).map (λz=>(z.1,z.2.1))=some (m.length*sz,A8 f m):=by kernel_rfl) (ho:mI P N o sz by_=true:=by kernel_rfl):
  BD P N false E o=some ((((jA P (o5 P E o sz) o sz).map λz=>z.2.2).getD E).put o.dst<|rU P o sz<|A8 f u):=by
 have hd':=TE hd;generalize hE:o5 P E o sz=E1 at hm hd'⊢;unfold jA at hm⊢
 grind [AU,qT]
end
def Ok (o:Oper):TypeId×Operand×Operand:=match o.op with
 | .makeSlice t l c=>(t,l,c)
 |_=>(0,.tmp 0,.tmp 0)
def oN (o:Oper):Bool:=match o.op with
 | .makeSlice .. =>true
 |_=>false
theorem lI {o:Oper} (h:oN o=true):o.op= .makeSlice (Ok o).1 (Ok o).2.1 (Ok o).2.2:=by grind [oN,Ok]
def qM (P:Program) (N:Nat) (o:Oper) (sz by_:Nat):Bool:=oN o&&Sp P (Ok o).1 sz&&Nat.beq (P.bytesOf<|Ty P (Ok o).1) by_&&GW N o
section
variable {o:Oper} {x:α}
theorem jV (hf:∀x,(f x).length=sz) (z:α) (h:mk by_ z n=some u) (hl:PB P E (Ok o).2.1=some n:=by kernel_rfl) (hc:PB P E (Ok o).2.2=some n:=by kernel_rfl) (hz:Ii P (Ty P (Ok o).1)=some (f z):=by kernel_rfl) (ho:qM P N o sz by_=true:=by kernel_rfl):
  BD P N false E o=some (E.put o.dst<|.one<|.sl true (Ty P (Ok o).1) sz<|A8 f u):=by
 simp only[qM,Al]at ho;obtain⟨⟨⟨a1,a2⟩,a3⟩,a4⟩:=ho;obtain⟨d,a5,a6,_⟩:=D6 a4;obtain⟨e,b1,b2,b3⟩:=Ja a2;have a:=WN b1;rw[a]at hz a3⊢;obtain⟨k1,hl⟩:=G7 hl;obtain⟨k2,hc⟩:=G7 hc;rw[a5];exact rY z h (lI a1) a5 a6 b1 hl hc hz rfl (AU a3) b2
end
def oM (o:Oper):Bool:=match o.op with
 | .convert .. =>true
 |_=>false
theorem lH {o:Oper} (h:oM o=true):o.op= .convert (Mx o).1 (Mx o).2.1 (Mx o).2.2:=by grind [oM,Mx]
def pY (P:Program) (N:Nat) (o:Oper):Bool:=oM o&&Ym P (Mx o).1&&Sp P (Mx o).2.1 1&&Yl P (Ty P (Mx o).2.1)&&GW N o
theorem tL {o:Oper} {f:Int->List TV} (hf:∀n,f n=[.int .u8 n]) {b:ByteArray} (hx:Sm P E (Mx o).1 (Mx o).2.2=some b) (ho:pY P N o=true:=by kernel_rfl):BD P N false E o=some (E.put o.dst<|.one<|.sl false (Ty P (Mx o).2.1) 1<|A8 f<|cV b):=by
 simp only[pY,Al]at ho;obtain⟨⟨⟨⟨a1,a2⟩,a3⟩,a4⟩,a5⟩:=ho;obtain⟨d,a6,a7,_⟩:=D6 a5;obtain⟨e,b1,b2,b3⟩:=Ja a3;have a:=WN b1;rw[a]at a4⊢;rw[a6];exact rX hf (lH a1) a6 a7 (SY a2) b1 (Lq hx) a4
section
variable {x:α}
def MI (o:Oper):TypeId×Operand×Operand:=match o.op with
 | .store t a x=>(t,a,x)
 |_=>(0,.tmp 0,.tmp 0)
end
def oL (o:Oper):Bool:=match o.op with
 | .store .. =>o.dst.isNone
 |_=>false
theorem lG {o:Oper} (h:oL o=true):o.op= .store (MI o).1 (MI o).2.1 (MI o).2.2/\o.dst=none:=by
 unfold oL at h;unfold MI;split at h
 ·simp_all
 cases h
def Qg (P:Program) (E:St) (o:Oper):Option (List TV×St):=match E.val P (MI o).1 (MI o).2.2 with
 |some s=>IM E s
 |none=>none
def kE (P:Program) (E:St) (o:Oper):List TV:=((Qg P E o).map Prod.fst).getD []
def aV (P:Program) (E:St) (o:Oper):St:=((Qg P E o).map Prod.snd).getD E
def jN (P:Program) (E:St) (o:Oper):Root×List Nat×Nat:=HF (aV P E o) (MI o).2.1
def cO (P:Program) (E:St) (o:Oper) (k sz:Nat):Bool:=oL o&&(Qg P E o).isSome&&Nat.beq (kE P E o).length (P.cellsOf (MI o).1)&&Nat.blt 0 (kE P E o).length&&Nat.ble (k+(kE P E o).length) sz
section
variable {o:Oper} {x:α}
theorem qO (hf:∀x,(f x).length=sz) (hx:gi l n=some x) (k:Nat) {r:Root} {c:Nat} {q:List Nat} {cs cs':List TV} (ho:cO P E o k sz=true) (hp:(aV P E o).ptr? (MI o).2.1=some (r,c::q,n.toNat*sz+k)) (hr:(aV P E o).root r=some cs) (A:At cs (c::q) (A8 f l) (λa=>setRow a (n.toNat*sz+k) (kE P E o)) cs'):BD P N false E o=some (((aV P E o).setRoot r cs').bump r):=by
 simp only[cO,Al]at ho;obtain⟨⟨⟨⟨a1,a2⟩,a3⟩,a4⟩,a5⟩:=ho;obtain⟨b1,b2⟩:=lG a1;have ht:Qg P E o=some (kE P E o,aV P E o):=by
  unfold kE aV
  cases hh:Qg P E o with
  |none=>grind
  |some z=>rfl
 generalize hX:kE P E o=xs at*;unfold Qg at ht;split at ht
 ·rename_i s hs;have h0':0<xs.length:=by simp_all
  simp only[BD,b2,b1,PN,hs,ht,hp,hr,A.c];rw[Bc ⟨A.o,AU a3,h0',oT hf hx a5⟩,AA (by simp),A.u]
 cases ht
end
section
variable {o:Oper}
def kM (E:St) (r:Root) (c:Nat) (a:List TV):List TV:=match E.root r with
 |some cs=>match cs[c]? with
  |some (.sl o e s _)=>cs.set c<|.sl o e s a
  |_=>cs
 |none=>[]
end
def K7 (E:St) (r:Root) (c:Nat):Option (List TV):=match E.root r with
 |some cs=>match cs[c]? with
  |some (.sl true e s row)=>some row
  |_=>none
 |none=>none
theorem Ku {r:Root} {c:Nat} {a:List TV} (h:K7 E r c=some a):∃cs e s,E.root r=some cs/\cs[c]?=some (.sl true e s a)/\∀row',kM E r c row'=cs.set c (.sl true e s row'):=by grind [K7,kM]
section
variable {o:Oper} {x:α}
theorem KE (hf:∀x,(f x).length=sz) (hx:gi l n=some x) (k c:Nat) (z:α) (ho:cO P E o k sz=true:=by kernel_rfl) (hp:(aV P E o).ptr? (MI o).2.1=some ((jN P E o).1,[c],n.toNat*sz+k):=by kernel_rfl) (hr:K7 (aV P E o) (jN P E o).1 c=some (A8 f l):=by kernel_rfl) (hz:setRow (f x) k (kE P E o)=f z:=by kernel_rfl):BD P N false E o=some (((aV P E o).setRoot (jN P E o).1<|kM (aV P E o) (jN P E o).1 c<|A8 f<|si l n z).bump (jN P E o).1):=by grind [Ku,qO,At.one,UN,cO]
end
section
variable {o:Oper} {x:α}
theorem oQ (hf:∀x,(f x).length=sz) (hx:gi l n=some x) (k c:Nat) (z:α) (hf':∀x,(f' x).length=sz') (hx':gi l' n'=some x') (k':Nat) (z':α') (ho:(cO P E o k sz&&Nat.blt k' sz')=true:=by kernel_rfl) (hp:(aV P E o).ptr? (MI o).2.1=some ((jN P E o).1,[c,n'.toNat*sz'+k'],n.toNat*sz+k):=by kernel_rfl) (hr:K7 (aV P E o) (jN P E o).1 c=some (A8 f' l'):=by kernel_rfl) (hz:setRow (f x) k (kE P E o)=f z:=by kernel_rfl) {e s:Nat} (hc:(f' x')[k']?=some (.sl true e s<|A8 f l):=by rfl) (hc':(f' x').set k' (.sl true e s<|A8 f<|si l n z)=f' z':=by rfl):BD P N false E o=some (((aV P E o).setRoot (jN P E o).1<|kM (aV P E o) (jN P E o).1 c<|A8 f'<|si l' n' z').bump (jN P E o).1):=by
 obtain⟨cs,e1,s1,h1,h2,h3⟩:=Ku hr;rw[Al]at ho;refine qO hf hx k ho.1 hp h1 ?_
 grind [rF,At.one,UN,cO]
end
theorem KB.o {a:Array Oper} {ts dn:List Nat} (mv:Bool) (h:KW P N a ts (i::dn) ((BD P N mv E (oA a i)).getD E) Q) (hs:(BD P N mv E (oA a i)).isSome=true:=by kernel_rfl) (hk:(OF P a E i&&(kp (oA a i)||ts.contains i))=true:=by kernel_rfl):KB P N a ts dn i E Q:=GE (getD_some hs) h hk
def bits:Nat->List (TypeId×Operand)->List (Bool×TypeId×Operand)
 |_,[]=>[]
 |m,(t,x)::l=>(Nat.beq (m %2) 1,t,x)::bits (m/2) l
def PP (o:Oper):Nat:=match o.op with
 | .call c=>match c.callee with
  | .value (.func f)=>f
  |_=>0
 |_=>0
def Ed (o:Oper):List (TypeId×Operand):=match o.op with
 | .call c=>c.argTypes.toList.zip c.args.toList
 |_=>[]
def Q6 (P:Program) (N:Nat) (o:Oper):Bool:=(match o.op with
 | .call c=>match c.callee with
  | .value (.func f)=>Nat.beq c.argTypes.size c.args.size&&(match P.funcs[f]? with
   | some fn => !(fn.name == "runtime.NumGoroutine") && !fn.body.isNone
   |none=>false)
  |_=>false
 |_=>false)&&(match o.dst with
 |some d=>Nat.blt d N
 |none=>true)
theorem Lf:∀{l:List (TypeId×Operand)} {m:Nat},(bits m l).map (λx=>x.2.2)=l.map Prod.snd
 |[],m=>rfl
 |(t,x)::l,m=>by simp only[bits,GZ,Lf]
theorem PO {o:Oper} (h:Q6 P N o=true):∃args a,o.op= .call {callee:= .value (.func<|PP o),args:=args,argTypes:=a}/\ZC P (PP o)/\(∀d,o.dst=some d->d<N)/\(Ed o).map Prod.snd=args.toList:=by
 simp only[Q6,Al]at h;obtain⟨h1,h2⟩:=h;have hN:∀d,o.dst=some d->d<N:=by
  intro d hd;simp_all
 unfold PP Ed;split at h1
 ·rename_i c hc;split at h1
  ·rename_i f b;rw[Al]at h1;obtain⟨h3,h4⟩:=h1;split at h4
   ·rename_i fn e;simp only[Al,Hf]at h4;obtain⟨callee,args,types⟩:=c;subst b;have hz:=AU h3;refine⟨args,types,by simp only[hc],?_,hN,?_⟩
    ·exact⟨fn,e,by grind,h4.2⟩
    grind [List.map_snd_zip]
   cases h4
  cases h1
 cases h1
def rO (P:Program) (E:St) (o:Oper) (m:Nat):Option (List (Option SV)×St):=K9 P E<|bits m<|Ed o
def jW (P:Program) (E:St) (o:Oper) (m:Nat):St:=((rO P E o m).map Prod.snd).getD E
def rI (P:Program) (E:St) (o:Oper) (m:Nat):Option (List AV×Bool):=match rO P E o m with
 |some (ss,E1)=>HL P E1 (bits m<|Ed o) ss
 |none=>none
def TR (P:Program) (E:St) (o:Oper) (m:Nat):Option (List AV):=(rI P E o m).map Prod.fst
def jO (P:Program) (E:St) (o:Oper) (m:Nat):Bool:=match rI P E o m with
 |some (_,b)=>b
 |none=>false
theorem iN {o:Oper} {m:Nat} {a:SV} (h:TR P E o m=some as) (hc:jO P E o m=true\/AK a=false):RU P E o.dst (bits m (Ed o)) as a ((jW P E o m).put o.dst a):=by
 unfold TR jO rI at*;unfold jW
 cases hm:rO P E o m with
 |none=>grind
 |some z=>
  obtain⟨ss,E1⟩:=z;rw[hm]at h hc;simp only at h hc
  cases hs:HL P E1 (bits m<|Ed o) ss with
  |none=>grind
  |some y=>
   obtain⟨as',c⟩:=y;rw[hs]at h hc
   injection h with h
   subst h;exact⟨ss,E1,c,hm,hs,hc,rfl⟩
theorem ca {γ:Type _} {l l':List γ} {a b:γ} (h:a=b) (k:l=l'):a::l=b::l':=by rw[h,k]
theorem cs {e sz:Nat} {a b:List TV} (h:A7 a=b):TV.sl false e sz (A7 a)= .sl false e sz b:=by rw[h]
theorem co {a b:TV} (h:a=b):AV.sv (.one a)= .sv (.one b):=by rw[h]
theorem WO {a b:List TV} (h:a=b):AV.sv (.agg a)= .sv (.agg b):=by rw[h]
theorem RW.c {r:β} {l:List AV} {n:Nat} {x:Option α} (m:Nat) (h:x.bind kk=some r) {enc:α->SV} (a:∀v,x=some v->A6 P (PP (oA ops i)) l (enc v) (List.replicate n .gone)) (hk:∀v,x=some v->kk v=some r->RW P N ops (i+1) ((jW P E (oA ops i) m).put (oA ops i).dst (enc v)) Q) (b:TR P E (oA ops i) m=some l:=by kernel_rfl) (hc:jO P E (oA ops i) m=true\/∀v,AK (enc v)=false:=by exact .inl<|by kernel_rfl) (ho:(OF P ops E i&&Q6 P N (oA ops i))=true:=by kernel_rfl):RW P N ops i E Q:=by
 obtain⟨v,hv,h⟩:=Aj.1 h;rw[Al]at ho;obtain⟨h1,h2⟩:=FX ho.1;obtain⟨d,e,h3,h4,h5,h6⟩:=PO ho.2;unfold RW;rw[NT h1];exact K3.call h3 h4 h2 h5 (bits m<|Ed<|oA ops i) (by rw[Lf,h6]) (a v hv) (iN b<|hc.imp id λh=>h v)<|hk v hv h
section
variable {r:β} {ts:List Nat}
theorem KB.c {l:List AV} {n:Nat} {x:Option α} (m:Nat) (h:x.bind kk=some r) {enc:α->SV} (a:∀v,x=some v->A6 P (PP (oA ops i)) l (enc v) (List.replicate n .gone)) (hk:∀v,x=some v->kk v=some r->KW P N ops ts (i::dn) ((jW P E (oA ops i) m).put (oA ops i).dst (enc v)) Q) (b:TR P E (oA ops i) m=some l:=by kernel_rfl) (hc:jO P E (oA ops i) m=true\/∀v,AK (enc v)=false:=by exact .inl<|by kernel_rfl) (ho:(OF P ops E i&&Q6 P N (oA ops i)&&((bits m<|Ed<|oA ops i).all (λx=>!x.1)||ts.contains i))=true:=by kernel_rfl):KB P N ops ts dn i E Q:=by
 obtain⟨v,hv,h⟩:=Aj.1 h;simp only[Al]at ho;obtain⟨h1,h2⟩:=FX ho.1.1;obtain⟨d,e,h3,h4,h5,h6⟩:=PO ho.1.2;exact VK.call i (EY h1) h3 h4 h2 h5 (bits m<|Ed<|oA ops i) (by rw[Lf,h6]) ho.2 (a v hv) (iN b<|hc.imp id λh=>h v)<|hk v hv h
end
theorem gs {f:FuncId} {l l':List AV} {n:Nat} {x:Option α} {enc:α->SV} (e:l=l') (h:∀v,x=some v->A6 P f l' (enc v) (List.replicate n .gone)):∀v,x=some v->A6 P f l (enc v) (List.replicate n .gone):=e▸h
def Y0 (E:St) (o:Oper):Root:=match Ed o with
 |(_,x)::_=>(HF E x).1
 |[]=> .hand
section
variable {r:β}
def d7 (E:St) (o:Oper):Bool:=match Ed o with
 |(_,x)::_=>(match E.ptr? x with
  |some (r,[],0)=>r.mem
  |_=>false)
 |[]=>false
end
def sE (P:Program) (E:St) (o:Oper):Option (List AV×Bool):=HL P (E.without<|Y0 E o) (bits 0 (Ed o).tail)<|List.replicate (bits 0 (Ed o).tail).length none
def d8 (P:Program) (E:St) (o:Oper):Option (List AV):=(sE P E o).map Prod.fst
def pR (P:Program) (E:St) (o:Oper):Bool:=match sE P E o with
 |some (_,b)=>b
 |none=>false
theorem nI {o:Oper} (h:d7 E o=true):∃t x l,Ed o=(t,x)::l/\E.ptr? x=some (Y0 E o,[],0)/\(Y0 E o).mem=true:=by grind [d7,Y0,HF]
theorem iO {p:Prop} {o:Oper} (h:d8 P E o=some as) (hc:pR P E o=true\/p):∃c,HL P (E.without (Y0 E o)) (bits 0 (Ed o).tail) (List.replicate (bits 0 (Ed o).tail).length none)=some (as,c)/\(c=true\/p):=by grind [d8,pR,sE]
theorem rA {r:β} {l:List AV} {n:Nat} {x:Option α} (h:x.bind kk=some r) {enc:α->SV} {b:List TV} (e:∀v,x=some v->A6 P (PP (oA ops i)) (.ext b::l) (enc v) (.ext (fin v)::List.replicate n .gone)) (d:∀v,(fin v).length=b.length) (hk:∀v,x=some v->kk v=some r->RW P N ops (i+1) (((E.setRoot (Y0 E (oA ops i)) (fin v)).bump (Y0 E (oA ops i))).put (oA ops i).dst (enc v)) Q) (f:d8 P E (oA ops i)=some l:=by kernel_rfl) (hb:E.boxes (Y0 E<|oA ops i)=some b:=by kernel_rfl) (hc:pR P E (oA ops i)=true\/∀v,AK (enc v)=false/\Av (fin v)=false:=by exact .inl<|by kernel_rfl) (ho:(OF P ops E i&&Q6 P N (oA ops i)&&d7 E (oA ops i))=true:=by kernel_rfl):RW P N ops i E Q:=by
 obtain⟨v,hv,h⟩:=Aj.1 h;simp only[Al]at ho;obtain⟨h1,h2⟩:=FX ho.1.1;obtain⟨g,j,h3,h4,h5,h6⟩:=PO ho.1.2;obtain⟨t,x0,l0,h7,h8,h9⟩:=nI ho.2;obtain⟨c,h10,h11⟩:=iO f hc;unfold RW;rw[NT h1];intro w0 FA UA w a blk FS US hr hF hU;simp only[wpList,Ch hr h2,Do];refine .inl<|Y6 hr hF hU h3 h4 h5 (x:=x0) (l:=bits 0 (Ed<|oA ops i).tail) ?_ h9 h8 hb (d v) h10 (h11.imp id λh=>h v) (e v hv) λw' v' blk' FS' US' k1 k2 k3=>hk v hv h _ _ _ _ _ _ _ _ k1 k2 k3
 grind [Lf]
theorem rE {r:β} {ts:List Nat} {l:List AV} {n:Nat} {x:Option α} (h:x.bind kk=some r) {enc:α->SV} {b:List TV} (e:∀v,x=some v->A6 P (PP (oA ops i)) (.ext b::l) (enc v) (.ext (fin v)::List.replicate n .gone)) (d:∀v,(fin v).length=b.length) (hk:∀v,x=some v->kk v=some r->KW P N ops ts (i::dn) (((E.setRoot (Y0 E (oA ops i)) (fin v)).bump (Y0 E (oA ops i))).put (oA ops i).dst (enc v)) Q) (f:d8 P E (oA ops i)=some l:=by kernel_rfl) (hb:E.boxes (Y0 E<|oA ops i)=some b:=by kernel_rfl) (hc:pR P E (oA ops i)=true\/∀v,AK (enc v)=false/\Av (fin v)=false:=by exact .inl<|by kernel_rfl) (ho:(OF P ops E i&&Q6 P N (oA ops i)&&d7 E (oA ops i)&&ts.contains i)=true:=by kernel_rfl):KB P N ops ts dn i E Q:=by
 obtain⟨v,hv,h⟩:=Aj.1 h;simp only[Al]at ho;obtain⟨h1,h2⟩:=FX ho.1.1.1;obtain⟨g,j,h3,h4,h5,h6⟩:=PO ho.1.1.2;obtain⟨t,x0,l0,h7,h8,h9⟩:=nI ho.1.2;obtain⟨c,h10,h11⟩:=iO f hc;intro w0 FA UA w a blk FS US hr hF hU;unfold wpOp;simp only[EY h1,Ch hr h2,Do];refine .inl<|Y6 hr hF hU h3 h4 h5 (x:=x0) (l:=bits 0 (Ed<|oA ops i).tail) ?_ h9 h8 hb (d v) h10 (h11.imp id λh=>h v) (e v hv) λw' v' blk' FS' US' k1 k2 k3=>⟨λht=>(by grind),_,_,_,_,hk v hv h,k1,k2,k3⟩
 grind [Lf]
theorem wc {r:β} {c:Operand} {x y:Code} {b:Bool} (h:(bif b then tx else ty)=some r) (ht:tx=some r->Wp P N x E Q) (hf:ty=some r->Wp P N y E Q) (hc:E.cell1 P 0 c=some (.bool b):=by kernel_rfl):Wp P N (.cond c x y) E Q:=Wp.c h ht hf hc
theorem wt {c:Operand} {x y:Code} (ht:Wp P N x E Q) (hc:E.cell1 P 0 c=some (.bool true):=by kernel_rfl):Wp P N (.cond c x y) E Q:=qY ht hc
theorem wf {c:Operand} {x y:Code} (hf:Wp P N y E Q) (hc:E.cell1 P 0 c=some (.bool false):=by kernel_rfl):Wp P N (.cond c x y) E Q:=qZ hf hc
theorem tA {rs:List ResultVar} {a:SV} (h:(Dg P E rs).map (λz=>Ds z.1)=some a):∃ss E',Dg P E rs=some (ss,E')/\Ds ss=a:=by simp_all
theorem tB {rt:Root} {rs:List ResultVar} {b:SV} {a:List TV} (h:(Dg P E rs).map (λz=>(Ds z.1,z.2.boxes rt))=some (b,some a)):∃ss E',Dg P E rs=some (ss,E')/\Ds ss=b/\E'.boxes rt=some a:=by simp_all
theorem tJ {f:FuncId} {c:Code} {a cells':List TV} {b:SV} (hf:P.funcs[f]?=some fn) (hb:fn.body=some c) (hN:fn.ntmps=N) (h:Wp P N c (CT (.ext a::as)) λe E=>(e= .normal\/e= .ret)/\∃ss E',Dg P E fn.results.toList=some (ss,E')/\Ds ss=b/\E'.boxes (.ext 0)=some cells') (d:cells'.isEmpty=false:=by rfl):A6 P f (.ext a::as) b (.ext cells'::List.replicate as.length .gone):=dV hf hb (by rw[hN];exact h) d
theorem gk {f:FuncId} {c:Code} {a:SV} (hf:P.funcs[f]?=some fn) (hb:fn.body=some c) (hN:fn.ntmps=N) (h:Wp P N c (CT as) λe E=>(e= .normal\/e= .ret)/\∃ss E',Dg P E fn.results.toList=some (ss,E')/\Ds ss=a):A6 P f as a (List.replicate as.length .gone):=iE hf hb (by rw[hN];exact h)
theorem Sq:∀t:TV,(IT t).isSl=t.isSl:=by intro t;cases t<;>rfl
theorem Fg:∀(cs:List TV) (j:Nat),(A7 cs)[j]?=cs[j]?.map IT
 |[],j=>by simp[A7]
 |t::ts,0=>by simp[A7]
 |t::ts,j+1=>by simpa[A7]using Fg ts j
theorem Nq:∀(q:List Nat) (cs:List TV),Bg (A7 cs) q=(Bg cs q).map A7
 |[],cs=>rfl
 |c::q,cs=>by
  simp only[Bg,Fg]
  cases cs[c]? with
  |none=>rfl
  |some t=>
   cases t with
   |sl o e sz cells=>exact Nq q cells
   |_=>rfl
def ZH:TV->List TV->TV
 | .sl _ e s _,row=> .sl false e s row
 |t,_=>t
def Tn (cs:List TV) (j:Nat) (a:List TV):List TV:=match cs[j]? with
 |some t=>cs.set j<|ZH t a
 |none=>cs
theorem WI {cs:List TV} {j e s:Nat} {a:List TV} (h:cs[j]?=some (.sl true e s a)) (c:Nat):(Tn cs j (A7 a))[c]?=if c=j then some (.sl false e s (A7 a))else cs[c]? :=by grind [Tn,ZH]
theorem iI {r1:List TV} {cs:List TV} {j e s:Nat} {a:List TV} (h:cs[j]?=some (.sl true e s a)) {q:List Nat} (hq:Bg cs q=some r1) (i:Nat):
  ∃r2,Bg (Tn cs j (A7 a)) q=some r2/\(r1[i]?.isSome=true->r2[i]?.isSome=true)/\(F7 r1[i]?=true->F7 r2[i]?=true):=by
 cases q with
 |nil=>
  injection hq with hq
  subst hq;refine⟨_,rfl,?_,?_⟩
  ·rw[WI h]
   grind
  rw[WI h];split
  ·intro _;rfl
  exact id
 |cons c q=>
  simp only[Bg,WI h]
  grind [Nq,Fg,Sq,Bg,F7]
theorem SE:∀{ts:List TV} {vs:List Value} {F U:List Nat} {j:Nat} {t:TV},Bh w ts vs F U->ts[j]?=some t->F.Nodup->(∀v F1 U1,DD w t v F1 U1->∃F2 U2,DD w t' v F2 U2/\CN F1 U1 F2 U2)->
  ∃F' U',Bh w (ts.set j t') vs F' U'/\CN F U F' U'
 |[],vs,F,U,j,t,h,hj,_,_=>by simp at hj
 |x::ts,vs,F,U,0,t,h,hj,hn,hk=>by
  simp at hj;subst hj;obtain⟨v,a,F1,F2,U1,U2,rfl,rfl,rfl,h1,h2⟩:=h;obtain⟨F1',U1',a1,a2⟩:=hk v F1 U1 h1;exact⟨F1'++F2,U1'++U2,by grind [Bh],GT hn a2 CN.refl⟩
 |x::ts,vs,F,U,j+1,t,h,hj,hn,hk=>by
  obtain⟨v,a,F1,F2,U1,U2,rfl,rfl,rfl,h1,h2⟩:=h;obtain⟨F2',U2',a1,a2⟩:=SE h2 (by simpa using hj) (Bx.1 hn).2.1 hk;exact⟨F1++F2',U1++U2',by grind [Bh],GT hn CN.refl a2⟩
theorem T5 {a:Act} {blk:Root->Nat}:∀{ts:List TV} {vs:List Value} {F U:List Nat} {j:Nat} {t:TV},BG w a E blk ts vs F U->ts[j]?=some t->F.Nodup->(∀v F1 U1,CI w a E blk t v F1 U1->∃F2 U2,CI w a E blk t' v F2 U2/\CN F1 U1 F2 U2)->
  ∃F' U',BG w a E blk (ts.set j t') vs F' U'/\CN F U F' U'
 |[],vs,F,U,j,t,h,hj,_,_=>by simp at hj
 |x::ts,vs,F,U,0,t,h,hj,hn,hk=>by
  simp at hj;subst hj;obtain⟨v,b,F1,F2,U1,U2,rfl,rfl,rfl,h1,h2⟩:=h;obtain⟨F1',U1',a1,a2⟩:=hk v F1 U1 h1;exact⟨F1'++F2,U1'++U2,by exact⟨v,b,F1',F2,U1',U2,rfl,rfl,rfl,a1,h2⟩,GT hn a2 CN.refl⟩
 |x::ts,vs,F,U,j+1,t,h,hj,hn,hk=>by
  obtain⟨v,b,F1,F2,U1,U2,rfl,rfl,rfl,h1,h2⟩:=h;obtain⟨F2',U2',a1,a2⟩:=T5 h2 (by simpa using hj) (Bx.1 hn).2.1 hk;exact⟨F1++F2',U1++U2',by exact⟨v,b,F1,F2',U1,U2',rfl,rfl,rfl,h1,a1⟩,GT hn CN.refl a2⟩
def qP (E:St) (r:Root) (j:Nat) (a:List TV):St:=match E.root r with
 |some cs=>E.setRoot r<|Tn cs j a
 |none=>E
theorem ZG {a:Act} {r:Root} {cs:List TV} {j e s:Nat} {b:List TV} (hr:E.root r=some cs) (hj:cs[j]?=some (.sl true e s b)) (hh:r≠ .hand) (R:Root):Bw w w a a E (E.setRoot r (Tn cs j (A7 b))) blk blk R:=by
 have d:(E.setRoot r<|Tn cs j<|A7 b).ver=E.ver:=by cases r<;>rfl
 have f:(E.setRoot r<|Tn cs j<|A7 b).gen=E.gen:=by cases r<;>rfl
 have g:(Tn cs j<|A7 b).length=cs.length:=by simp[Tn,hj]
 have c:∀cs0,E.root R=some cs0->∃cs1,(E.setRoot r<|Tn cs j<|A7 b).root R=some cs1/\∀q r1,Bg cs0 q=some r1->∀i:Nat,∃r2,Bg cs1 q=some r2/\(r1[i]?.isSome=true->r2[i]?.isSome=true)/\(F7 r1[i]?=true->F7 r2[i]?=true):=by
  intro cs0 h0;by_cases hR:R=r
  ·subst hR;rw[hr]at h0
   injection h0 with h0
   subst h0;refine⟨Tn cs j<|A7 b,?_,λq r1 hq i=>iI hj hq i⟩
   cases R with
   |slot n=>
    simp only[St.root,St.setRoot,Bp,Do]at hr⊢
    injection hr with hr
    congr 1
    cases hs:E.slots n with
    |one t=>
     rw[hs]at hr;subst hr;have:(Tn [t] j<|A7 b).length=1:=g
     match hf:Tn [t] j (A7 b),this with
     |[x],_=>rfl
    |agg ts=>rfl
    |tup ss=>grind [SV.cells]
   |box n=>simp[St.root,St.setRoot,Bp]
   |ext n=>simp[St.root,St.setRoot,Bp]
   |hand=>exact absurd rfl hh
  refine⟨cs0,?_,λq r1 hq i=>⟨r1,hq,id,id⟩⟩;rw[<-h0];cases r<;>cases R<;>simp only[St.root,St.setRoot,Bp]<;>first
   |exact absurd rfl hh
   |rfl
   |grind
   |(rw[AA];intro e;injection e with e;exact hR<|by rw[e])
   |(rw[AA];intro e;cases e)
 constructor
 ·refine .inr ⟨by rw[d],λq i v h1 h2=>⟨h1,?_⟩,λq i ad hq h1 h2=>⟨h1,?_⟩⟩
  ·unfold St.place at h2⊢
   cases h0:E.root R with
   |none=>rw[h0]at h2;cases h2
   |some cs0=>
    rw[h0]at h2;obtain⟨cs1,k1,k2⟩:=c cs0 h0;simp only[Aa]at h2
    cases hc:Bg cs0 q with
    |none=>rw[hc]at h2;cases h2
    |some r1=>
     obtain⟨r2,k3,_,k4⟩:=k2 q r1 hc i
     grind
  unfold St.place at h2⊢
  cases h0:E.root R with
  |none=>grind
  |some cs0=>
   rw[h0]at h2;obtain⟨cs1,k1,k2⟩:=c cs0 h0;simp only[Aa]at h2
   cases hc:Bg cs0 q with
   |none=>grind
   |some r1=>
    obtain⟨r2,k3,k4,_⟩:=k2 q r1 hc i
    grind
 refine .inr ⟨by rw[f],λi ad h1 h2=>⟨h1,?_⟩⟩;unfold St.place at h2⊢
 cases h0:E.root R with
 |none=>grind
 |some cs0=>
  rw[h0]at h2;obtain⟨cs1,k1,k2⟩:=c cs0 h0;obtain⟨r2,k3,k4,_⟩:=k2 [] cs0 rfl i;rw[k1];simp only[Aa,k3];exact k4 h2
section
variable {w0:Base} {a:Act}
theorem Ca.freeze (h:Ca w0 FA UA N w a E blk FS US) {r:Root} {cs:List TV} {j e s:Nat} {c:List TV} (hr:E.root r=some cs) (hj:cs[j]?=some (.sl true e s c)) (hh:r≠ .hand):
  ∃FS' US',Ca w0 FA UA N w a (E.setRoot r (Tn cs j (A7 c))) blk FS' US'/\FS' .hand=FS .hand/\US' .hand=US .hand:=by
 have o:=ZG (w:=w) (a:=a) (blk:=blk) hr hj hh;have p:Tn cs j (A7 c)=cs.set j (.sl false e s<|A7 c):=by grind [Tn,ZH]
 have g:∀v F1 U1,DD w (.sl true e s c) v F1 U1->∃F2 U2,DD w (.sl false e s<|A7 c) v F2 U2/\CN F1 U1 F2 U2:=λv F1 U1 h1=>nW h1<|eR.s rfl
 have u:∃F' U',CN (FS r) (US r) F' U'/\(∀n,r= .slot n->GI w a (E.setRoot r<|Tn cs j<|A7 c) blk ((E.slots n).withCells<|Tn cs j<|A7 c) (a.eval<|.tmp n) F' U')/\
   (r.mem=true->∃d T F,w.heap[blk r]?=some (.cells d T (0,0))/\Bh w (Tn cs j<|A7 c) d.toList F U'/\F'=blk r::F):=by
  cases r with
  |slot n=>
   injection hr with hr
   have hs:=Ek o (h.slot n) (λ_ _=>rfl) λ_ _=>rfl
   cases i:E.slots n with
   |one t=>
    rw[i]at hr hs;simp only[SV.cells]at hr;subst hr;have x:j=0:=by grind
    subst x;simp at hj;subst hj;obtain⟨F2,U2,k1,k2⟩:=g _ _ _ hs.1;refine⟨F2,U2,k2,λm hm=>?_,λhm=>by cases hm⟩
    injection hm with hm
    subst hm;rw[i,p];exact⟨k1,λ_=>hs.2 rfl⟩
   |agg ts=>
    rw[i]at hr hs;simp only[SV.cells]at hr;subst hr;obtain⟨vs,k0,k1⟩:=hs;obtain⟨F2,U2,k2,k3⟩:=T5 (t':= .sl false e s (A7 c)) k1 hj (h.nodup _) g;refine⟨F2,U2,k3,λm hm=>?_,λhm=>by cases hm⟩
    grind [SV.withCells,GI]
   |tup ss=>grind [SV.cells]
  |hand=>exact absurd rfl hh
  |box n=>
   rcases h.box (.box n) rfl with⟨k,_⟩|⟨cs0,d,T,F,k1,k2,k3,k4⟩
   ·grind [St.root]
   simp only[St.root]at hr;rw[k1]at hr
   injection hr with hr
   subst hr;have f:=h.nodup<|.box n;rw[k4]at f;obtain⟨y,l⟩:=Dj.1 f;obtain⟨F2,U2,k5,k6⟩:=SE (t':= .sl false e s (A7 c)) k3 hj l g;refine⟨blk (.box n)::F2,U2,?_,λm hm=>(by cases hm),λ_=>⟨d,T,F2,k2,by grind,rfl⟩⟩;rw[k4];refine⟨k6.1.cons_cons _,λb hb=>?_⟩
   rcases k6.2 b hb with q|⟨q1,q2⟩
   ·exact .inl q
   grind
  |ext n=>
   rcases h.box (.ext n) rfl with⟨k,_⟩|⟨cs0,d,T,F,k1,k2,k3,k4⟩
   ·grind [St.root]
   simp only[St.root]at hr;rw[k1]at hr
   injection hr with hr
   subst hr;have f:=h.nodup<|.ext n;rw[k4]at f;obtain⟨y,l⟩:=Dj.1 f;obtain⟨F2,U2,k5,k6⟩:=SE (t':= .sl false e s (A7 c)) k3 hj l g;refine⟨blk (.ext n)::F2,U2,?_,λm hm=>(by cases hm),λ_=>⟨d,T,F2,k2,by grind,rfl⟩⟩;rw[k4];refine⟨k6.1.cons_cons _,λb hb=>?_⟩
   rcases k6.2 b hb with q|⟨q1,q2⟩
   ·exact .inl q
   grind
 obtain⟨F',U',hl,h3,z⟩:=u
 have h0:∀b∈F',b∈FS r:=λb hb=>hl.1.subset hb
 refine⟨Bp FS r F',Bp US r U',?_,by grind [AI],by grind [AI]⟩;have hF:∀R b,b∈Bp FS r F' R->b∈FS R:=by
  intro R b hb;by_cases hR:R=r
  ·grind [Bm]
  grind [AI]
 have hU:∀R b,b∈Bp US r U' R->b∈US R\/(R=r/\b∈FS r/\b∉F'):=by
  intro R b hb;by_cases hR:R=r
  ·subst hR;rw[Bm]at hb
   rcases hl.2 b hb with q|⟨q1,q2⟩
   ·exact .inl q
   grind
  grind [AI]
 constructor
 ·intro n;by_cases hn:r= .slot n
  ·simp_all [St.setRoot,Bp]
  rw[AI λe=>hn e.symm,AI λe=>hn e.symm];have h1:(E.setRoot r<|Tn cs j<|A7 c).slots n=E.slots n:=by
   cases r with
   |slot m=>simp_all [St.setRoot,Bp];grind
   |_=>rfl
  rw[h1];exact Ek o (h.slot n) (λ_ _=>rfl) λ_ _=>rfl
 ·intro R hm;by_cases hR:R=r
  ·subst hR;right;obtain⟨d,T,F,k1,k2,k3⟩:=z hm;refine⟨_,d,T,F,?_,k1,by rw[Bm];exact k2,by rw[Bm,k3]⟩
   cases R with
   |slot n=>cases hm
   |hand=>cases hm
   |box n=>simp[St.setRoot,Bp]
   |ext n=>simp[St.setRoot,Bp]
  rw[AI hR,AI hR];have h1:(E.setRoot r<|Tn cs j<|A7 c).boxes R=E.boxes R:=by
   cases r<;>simp only[St.setRoot,Bp]<;>first
    |rfl
    |(rw[AA hR])
  rw[h1];exact h.box R hm
 ·have:(E.setRoot r<|Tn cs j<|A7 c).boxes .hand=E.boxes .hand:=by
   cases r<;>simp only[St.setRoot,Bp]<;>first
    |exact absurd rfl hh
    |rfl
    |(rw[AA<|by simp])
  rw[this];exact h.nohand
 ·intro R;by_cases hR:R=r
  ·subst hR;rw[Bm];exact hl.1.nodup<|h.nodup R
  rw[AI hR];exact h.nodup R
 ·exact λR S h2 b hb hb'=>h.dis R S h2 b (hF R b hb)<|hF S b hb'
 ·intro R S b hb hb'
  rcases hU S b hb' with q|⟨rfl,q1,q2⟩
  ·exact h.disU R S b (hF R b hb) q
  by_cases hR:R=S
  ·grind [Bm]
  exact h.dis R S hR b (hF R b hb) q1
 ·exact λR b hb=>h.inF R b<|hF R b hb
 ·intro R b hb
  rcases hU R b hb with q|⟨rfl,q1,_⟩
  ·exact h.inU R b q
  obtain⟨q2,q3⟩:=h.inF R b q1
  grind
 ·exact h.disA
 ·exact h.os
 ·exact h.tape
 ·exact h.output
 ·exact h.size
 ·exact h.keep
 ·exact h.len
 ·exact h.nodef
 ·exact h.xblk
 ·rw[Cv];exact h.ambB
 ·rw[Cv];exact h.ambI
 ·rw[Fi];exact h.frz
 ·exact h.ambF
 rw[Cv];exact h.pin
end
theorem iK {r:Root} (h:K7 E r j=some row):∃cs e s,E.root r=some cs/\cs[j]?=some (.sl true e s row)/\qP E r j (A7 row)=E.setRoot r (Tn cs j (A7 row)):=by grind [Ku,qP]
def P4:Root->Bool
 | .hand=>false
 |_=>true
theorem LR {r:Root} (h:P4 r=true):r≠ .hand:=by rintro rfl;cases h
theorem RW.fz (r:Root) (j:Nat) (hs:A7 row=row') (h:RW P N ops i (qP E r j row') Q) (ho:K7 E r j=some row:=by kernel_rfl) (hh:P4 r=true:=by rfl):RW P N ops i E Q:=by
 intro w0 FA UA w a blk FS US hr hF hU;obtain⟨cs,e,s,h1,h2,h3⟩:=iK ho;obtain⟨FS',US',k1,k2,k3⟩:=hr.freeze h1 h2<|LR hh;rw[<-hs,h3]at h;exact h _ _ _ _ _ _ _ _ k1 (by rw[k2,hF])<|by rw[k3,hU]
theorem KW.fz {ts:List Nat} (r:Root) (j:Nat) (hs:A7 row=row') (h:KW P N ops ts dn (qP E r j row') Q) (ho:K7 E r j=some row:=by kernel_rfl) (hh:P4 r=true:=by rfl):KW P N ops ts dn E Q:=by
 intro hq hc w0 FA UA w a blk FS US hr hF hU;obtain⟨cs,e,s,h1,h2,h3⟩:=iK ho;obtain⟨FS',US',k1,k2,k3⟩:=hr.freeze h1 h2<|LR hh;rw[<-hs,h3]at h;exact h hq hc _ _ _ _ _ _ _ _ k1 (by rw[k2,hF])<|by rw[k3,hU]
theorem Wp.fz {c:Code} (r:Root) (j:Nat) (hs:A7 row=row') (h:Wp P N c (qP E r j row') Q) (ho:K7 E r j=some row:=by kernel_rfl) (hh:P4 r=true:=by rfl):Wp P N c E Q:=by
 intro w0 FA UA w a blk FS US hr hF hU;obtain⟨cs,e,s,h1,h2,h3⟩:=iK ho;obtain⟨FS',US',k1,k2,k3⟩:=hr.freeze h1 h2<|LR hh;rw[<-hs,h3]at h;exact h _ _ _ _ _ _ _ _ k1 (by rw[k2,hF])<|by rw[k3,hU]
def St.fzs (E:St) (f:Option Nat):St:={E with fz:=f}
theorem Zb {a:Act} {f:Option Nat} (r:Root):Bw w w a a E (E.fzs f) blk blk r:=by
 have hp:∀q j,(E.fzs f).place r q j=E.place r q j:=λq j=>by cases r<;>rfl
 exact⟨.inr ⟨rfl,λq j v h1 h2=>⟨h1,by rw[hp];exact h2⟩,λq j ad _ h1 h2=>⟨h1,by rw[hp];exact h2⟩⟩,.inr ⟨rfl,λj ad h1 h2=>⟨h1,by rw[hp];exact h2⟩⟩⟩
theorem Ca.fzs {w0:Base} {a:Act} (h:Ca w0 FA UA N w a E blk FS US) (f:Option Nat) (hf:∀n,f=some n->mN w0 a n):Ca w0 FA UA N w a (E.fzs f) blk FS US where
 slot:=λn=>Ek Zb (h.slot n) (λ_ _=>rfl) λ_ _=>rfl
 box:=h.box
 nohand:=h.nohand
 nodup:=h.nodup
 dis:=h.dis
 disU:=h.disU
 inF:=h.inF
 inU:=h.inU
 disA:=h.disA
 os:=h.os
 tape:=h.tape
 output:=h.output
 size:=h.size
 keep:=h.keep
 len:=h.len
 nodef:=h.nodef
 xblk:=h.xblk
 ambB:=h.ambB
 ambI:=h.ambI
 frz:=hf
 ambF:=h.ambF
 pin:=h.pin
theorem bK (n:Nat):(2*n+1)/2=n:=by omega
theorem bJ (n:Nat):¬(2*n+1) %2=0:=by omega
def lP (o:Oper):Bool:=match o.op with
 | .buildSlice t len parts=>Nat.beq len 0&&Nat.beq parts.size 0
 |_=>false
theorem nU {a:Act} {nx:Next} {w':World} {o:Oper} (hb:lP o=true) (hd:o.dst=some d) (hN:d<N) (hs:BD P N false E o=some E') (hr:(execOp a.eval o).run P w= .ok nx w'):∃B,nx= .value (.slice B 0 0):=by
 unfold lP at hb;split at hb
 ·rename_i t len parts ho;rw[Al]at hb;have h1:=AU hb.1;have h2:=AU hb.2;subst h1;have h3:parts= #[]:=Array.eq_empty_of_size_eq_zero h2;subst h3;simp only[BD,hd,Bc hN,ho,Iv]at hs;split at hs
  ·rename_i e hu;split at hs
   ·rename_i zs ss hz b;obtain⟨i,z,hi,c,f,g⟩:=GF (w:=w) hz;simp_all [run_underlying,execOp,Instr.buildSlice,sizeOf,typeInfo,newRow,Instr.fill];grind
   cases hs
  cases hs
 cases hb
def fJ (x:Operand):Nat:=match x with
 | .tmp n=>n
 |_=>0
theorem Xf {ts:List Nat} (h:KW P N ops ts (i::dn) (((BD P N false E (oA ops i)).getD E).fzs (some (2*((oA ops i).dst.getD 0)+1))) Q) (hs:(BD P N false E (oA ops i)).isSome=true:=by kernel_rfl) (hk:(OF P ops E i&&lP (oA ops i)&&GW N (oA ops i))=true:=by kernel_rfl):KB P N ops ts dn i E Q:=by
 have hs':=getD_some (a:=E) hs;simp only[Al]at hk;obtain⟨h1,h2⟩:=FX hk.1.1;obtain⟨d,h3,_,h4⟩:=D6 hk.2;rw[h3]at h;simp only[CL]at h;have b:kp (oA ops i)=true:=by grind [lP,kp]
 intro w0 FA UA w a blk FS US hr hF hU;unfold wpOp;simp only[EY h1,Ch hr h2,Do];obtain⟨nx,w',v,blk',FS',US',k1,k2,k3,k4,k5,k6⟩:=MH hr hF hU hs';obtain⟨B,hB⟩:=nU (N:=N) hk.1.2 h3 h4 hs' k1;have hv:v= .slice B 0 0:=by grind
 refine .inl ?_;unfold Oper.wp;rw[k1,hB];refine⟨λ_=>k6 b,_,blk',FS',US',h,?_,k4,k5⟩;rw[hv]at k3;refine k3.fzs _ λn hn=>?_
 injection hn with hn
 subst hn;unfold mN;rw[AA<|bJ d,bK d,h3];refine⟨B,?_⟩;have:=k3.len;simp only[Act.eval,Act.put];rw[Array.getD_eq_getD_getElem?];have hl:=hr.len
 grind
theorem KB.a {ts:List Nat} (hs:BD P N false E (oA ops i)=some E') (h:KW P N ops ts (i::dn) (E'.fzs none) Q) (hk:(OF P ops E i&&lQ (oA ops i)&&Nat.beq (EL (oA ops i)).1 (EL (oA ops i)).2.1&&GW N (oA ops i))=true:=by kernel_rfl) (hx:(EL<|oA ops i).2.2.1= .tmp (fJ (EL<|oA ops i).2.2.1):=by kernel_rfl) (hz:E.fz=some (2*fJ (EL<|oA ops i).2.2.1+1):=by kernel_rfl):KB P N ops ts dn i E Q:=by
 simp only[Al]at hk;obtain⟨⟨⟨h0,h5⟩,h6⟩,h7⟩:=hk;obtain⟨h1,h2⟩:=FX h0;obtain⟨d,h3,_,h4⟩:=D6 h7;have c:=AU h6;have ho:=bT h5;rw[<-c]at ho;intro w0 FA UA w a blk FS US hr hF hU;unfold wpOp;simp only[EY h1,Ch hr h2,Do];have he:Ju P E d (EL<|oA ops i).1 (EL<|oA ops i).2.2.1 (EL<|oA ops i).2.2.2=some E':=by grind [BD]
 obtain⟨nx,w',v,blk',FS',US',k1,k2,k3,k4,k5,_,k6⟩:=PW hr hF hU ho h3 h4 he;have b:=hr.frz _ hz;unfold mN at b;rw[AA<|bJ _,bK,<-hx]at b;obtain⟨B,hB⟩:=b;refine .inl ?_;unfold Oper.wp;rw[k1]
 rcases k2 with rfl|⟨rfl,rfl⟩
 ·exact⟨λ_=>k6 B hB,_,blk',FS',US',h,k3.fzs none (λn hn=>by cases hn),k4,k5⟩
 exact⟨λ_=>k6 B hB,_,blk',FS',US',h,k3.fzs none (λn hn=>by cases hn),k4,k5⟩
def rm (k:IntKind) (a b:Int):Option Int:=if b=0 then none else some<|a.tmod b
def oZ (k:IntKind) (a b:Int):Int:=k.wrap (BitVec.ofInt k.bits a&&&BitVec.ofInt k.bits b).toNat
def sP (k:IntKind) (a b:Int):Int:=k.wrap (BitVec.ofInt k.bits a^^^BitVec.ofInt k.bits b).toNat
def mX (P:Program) (E:St) (o:Oper) (k:IntKind) (q:Bool):Option (Int×Int):=match o.op with
 | .binOp op t x y _=>bif(match op with| .rem=>!q| .quo=>q|_=>false)then(match E.cell1 P t x,E.cell1 P t y with
  |some (.int k' a),some (.int k'' b)=>bif decide (k'=k)&&decide (k''=k)then some (a,b)else none
  |_,_=>none)else none
 |_=>none
theorem sM {o:Oper} {a b v:Int} (hx:rm k a b=some v) (hc:mX P E o k false=some (a,b):=by kernel_rfl):AF P E o=some (.one<|.int k v):=by
 unfold mX at hc;split at hc
 ·rename_i op t x y t' ho;cases op<;>simp only[Ez,Ah,Ad,reduceCtorEq]at hc;split at hc
  ·grind [rm,AF,TC,TD,iB]
  cases hc
 cases hc
def Xg (P:Program) (f:FuncId) (as:List AV) (a:List TV):Prop:=∀(w:World) (vs:List Value) (FA UA:List Nat),K2 w as vs FA UA->FA.Nodup->(∀b∈FA,b∉UA)->(∀b∈FA++UA,b<w.heap.size)->
  Calls P f vs.toArray w λe w'=>∃v F U G V,e= .returned v/\jG w w' FA UA (.tup []) [.ext a] [v] (.tuple #[]) F U G V
theorem tK {f:FuncId} {c:Code} {cells:List TV} (hf:P.funcs[f]?=some fn) (hb:fn.body=some c) (hN:fn.ntmps=N) (h:Wp P N c (CT as) λe E=>(e= .normal\/e= .ret)/\∃t r,fn.results.toList=[.tmp t]/\E.ptr? (.tmp t)=some (r,[],0)/\r.mem=true/\E.boxes r=some cells) (s:cells.isEmpty=false:=by rfl):Xg P f as cells:=by
 subst hN;intro w vs FA UA ha l j m;obtain⟨blk,FS,US,hr,hF,hU⟩:=TJ (N:=fn.ntmps) ha l j m (A:=cG.none) (fz:=none) trivial (λb hb=>by cases hb);refine calls_of_wp hf hb<|wp_mono (h _ _ _ _ _ _ _ _ hr hF hU) ?_;rintro e a w' ⟨E,blk',FS',US',⟨he,t,r,h1,h2,h3,h4⟩,k3,h5,h6⟩;obtain⟨u,ad,i,o⟩:=Kr k3 h2;have p:ad=⟨blk' r,0,none⟩:=by
  cases r with
  |slot n=>cases h3
  |hand=>cases h3
  |box n=>injection i with i;grind [Addr.add]
  |ext n=>injection i with i;grind [Addr.add]
 obtain⟨d,T,F3,b2,b3,b4⟩:∃d T F3,w'.heap[blk' r]?=some (.cells d T (0,0))/\Bh w' cells d.toList F3 (US' r)/\FS' r=blk' r::F3:=by
  rcases k3.box r h3 with⟨q,_⟩|⟨cs,d,T,F3,q1,q2,q3,q4⟩
  ·grind
  grind
 have hne':cells≠ []:=by grind
 have k:(fn.results.toList.mapM<|LM P a.tmps).run P w'= .ok [a.eval<|.tmp t] w':=by
  rw[h1,List.mapM_cons];rfl
 have g:a.defers=[]/\∃v,(results fn a.tmps).run P w'= .ok v w'/\∃v' F U G V,Ending.returned v= .returned v'/\jG w w' FA UA (.tup []) [.ext cells] [v'] (.tuple #[]) F U G V:=by
  refine⟨k3.nodef,_,MV k,a.eval<|.tmp t,[],[],FS' r,US' r,by simp,?_⟩
  exact{
   res:=by grind [YT,Qd]
   fin:=⟨_,[],FS' r,[],US' r,[],rfl,by simp,by simp,⟨blk' r,d,T,F3,by rw[o,p],b2,b3,b4,hne'⟩,⟨rfl,rfl,rfl⟩⟩
   nodup:=by simpa using k3.nodup r
   dis:=λb hb hb'=>k3.disU r r b (by simpa using hb)<|by simpa using hb'
   inF:=λb hb=>k3.inF r b<|by simpa using hb
   inU:=λb hb=>k3.inU r b<|by simpa using hb
   os:=k3.os
   tape:=k3.tape
   output:=k3.output
   size:=k3.size
   keep:=λb hb hF=>k3.keep b hb hF (λe=>by cases e)}
 rcases he with rfl|rfl
 ·exact g
 exact g
section
variable {w0:Base} {a:Act}
theorem iV {f:FuncId} {l:List (Bool×TypeId×Operand)} {ss:List (Option SV)} {K:Act->World->Prop} {Q:Exit->Act->World->Prop} (h:Ca w0 FA UA N w a E blk FS US) (hF:FS .hand=[]) (hU:US .hand=[]) {o:Oper} {args:Array Operand} {y:Array TypeId} (ho:o.op= .call {callee:= .value (.func f),args:=args,argTypes:=y}) (hf:ZC P f) (hd:o.dst=some d) (hN:d<N) (hl:l.map (λx=>x.2.2)=args.toList) {i:List TV} (hg:Xg P f as i) {c:Bool} (h1:K9 P E l=some (ss,E1)) (h2:HL P E1 l ss=some (as,c)) (h3:c=true\/Av i=false) (hK:∀w' v blk' FS' US',Ca w0 FA UA N w' (a.put (some d) v) (E1.newBox d i) blk' FS' US'->FS' .hand=[]->US' .hand=[]->K (a.put (some d) v) w'):o.wp P a w K Q:=by
 obtain⟨FS1,US1,F,U,k1,k2,k3,k4,_⟩:=LS h h1;rw[hF,Ao]at k3;rw[hU,Ao]at k4;obtain⟨U',k5,k6⟩:=J0 k2 k1 h2;have z:l.map (λx=>a.eval x.2.2)=(args.map a.eval).toList:=by
  rw[QI,<-hl,Ef];rfl
 rw[z]at k5;have m:∀b∈F,b∉U':=by
  intro b hb hb';rw[<-k3]at hb
  rcases k6 b hb' with h4|⟨r,h4⟩|⟨_,r,h5,h4⟩
  ·rw[<-k4]at h4;exact k2.disU .hand .hand b hb h4
  ·exact k2.disU .hand r b hb h4
  exact k2.dis .hand r (If h5) b hb h4
 have k:=hg w _ F U' k5 (by rw[<-k3];exact k2.nodup .hand) m (by
  intro b hb
  rcases Aq.1 hb with hb|hb
  ·exact(k2.inF .hand b (by rw[k3];exact hb)).2
  rcases k6 b hb with h4|⟨r,h4⟩|⟨_,r,h5,h4⟩
  ·exact(k2.inU .hand b (by rw[k4];exact h4)).2
  ·exact(k2.inU r b h4).2
  exact(k2.inF r b h4).2)
 unfold Oper.wp;rw[MW ho hf];simp only[Oper.upon];rw[Array.toArray_toList]at k;refine Calls.mono k ?_;rintro e w' ⟨v,Fr,Ur,G,V,rfl,g⟩;obtain⟨v0,vs0,G1,G2,V1,V2,p,rfl,rfl,⟨b0,h0,T,F0,rfl,e1,e2,rfl,e3⟩,⟨rfl,rfl,rfl⟩⟩:=g.fin
 injection p with p _
 subst p;have q:=g.res;simp only[YT,Qd]at q;obtain⟨_,_,_,rfl,rfl⟩:=q;have t:=g.nodup;simp only[Ao,AQ]at t;have a2:∀b∈b0::F0,(b∈FS1 .hand\/w.heap.size<=b)/\b<w'.heap.size:=by
  intro b hb;have:=g.inF b<|by simpa using hb
  grind
 have h9:∀b∈V1,(∃s,b∈US1 s)\/((b∈FS1 .hand\/w.heap.size<=b)/\b∉b0::F0/\b<w'.heap.size):=by
  intro b hb;obtain⟨h4,h5⟩:=g.inU b<|by simpa using hb
  have a0:b∉b0::F0:=λe=>g.dis b (by simpa using e)<|by simpa using hb
  grind [Hz]
 have j:∀b,b<w.heap.size->b∉FS1 .hand->w'.heap[b]?=w.heap[b]? :=λb hb u=>g.keep b hb<|by grind
 let E2:St:={E1 with boxes:=Bp E1.boxes (.box d)<|some i,ver:=Bp E1.ver (.box d)<|E1.ver (.box d)+1,gen:=Bp E1.gen (.box d) (E1.gen (.box d)+1)}
 let blk1:=Bp blk (.box d) b0
 have h6:Root.box d≠Root.hand:=by simp
 have h7:∀s,Bw w w' a a E1 E2 blk blk1 s:=by
  intro s;by_cases hs:s= .box d
  ·subst hs;exact⟨.inl (by simp[E2,Bp]),.inl<|by simp[E2,Bp]⟩
  have hv:E2.ver s=E1.ver s:=by grind [Bp]
  have hg:E2.gen s=E1.gen s:=by grind [Bp]
  by_cases hh:s= .hand
  ·subst hh;exact Ff hv hg<|by simp[St.root,k2.nohand]
  refine DS k2 hv hg ?_ (λ_ _=>rfl) (λ_=>by grind [Bp]) (λb hb=>j b (k2.inF s b hb).2<|k2.dis s .hand hh b hb) λb hb=>j b (k2.inU s b hb).2 λe=>k2.disU .hand s b e hb;cases s<;>simp_all [E2,St.root,Bp]
 have g1:=k2.two (w':=w') (a':=a) (E':=E2) (blk':=blk1) (r1:= .box d) (r2:= .hand) (L1:=b0::F0) (L2:=[]) (V1:=V1) (V2:=[]) h6
  (by simpa using t)
  (λb hb=>by grind)
  (λb hb=>by grind)
  g.size g.os g.tape g.output (λb hb _ u=>j b hb u) h7
  (λn _ _=>⟨rfl,rfl⟩)
  (λs _ hs _=>⟨by grind [Bp],by grind [Bp]⟩)
  (.inr ⟨i,h0,T,F0,by simp[E2,Bp],by grind [Bp],e2,by simp[blk1,Bp]⟩)
  trivial (by simp[E2,Bp,k2.nohand]) k2.len k2.nodef (hfz:=λn hn=>k2.frz n hn)
 have h8:GI w' a E2 blk1 (.one<|.ptr (.box d) (E2.gen<|.box d) [] 0) (.pointer<|some ⟨b0,0,none⟩) [] []:=by
  have a1:E2.stamp (.box d) []=E2.gen (.box d):=rfl
  grind [P2,St.place,St.root,Bp,Bg,pa,Addr.add]
 have g2:=g1.put (d:=d) hN h8 Xh.none;have:=hK w' _ blk1 _ _ g2 (by rfl)<|by rfl
 grind
end
theorem rB {r:β} {l:List AV} {x:Option α} (h:x.bind kk=some r) {c:α->List TV} (f:∀v,x=some v->Xg P (PP (oA ops i)) l (c v)) (hk:∀v,x=some v->kk v=some r->RW P N ops (i+1) ((jW P E (oA ops i) 0).newBox ((oA ops i).dst.getD 0) (c v)) Q) (b:TR P E (oA ops i) 0=some l:=by kernel_rfl) (hc:jO P E (oA ops i) 0=true:=by kernel_rfl) (ho:(OF P ops E i&&Q6 P N (oA ops i)&&GW N (oA ops i))=true:=by kernel_rfl):RW P N ops i E Q:=by
 obtain⟨v,hv,h⟩:=Aj.1 h;simp only[Al]at ho;obtain⟨h1,h2⟩:=FX ho.1.1;obtain⟨g,j,h3,h4,h5,h6⟩:=PO ho.1.2;obtain⟨d,h7,_,h8⟩:=D6 ho.2;have e:=hk v hv h;rw[h7]at e;unfold RW;rw[NT h1];intro w0 FA UA w a blk FS US hr hF hU;simp only[wpList,Ch hr h2,Do];unfold TR jO rI at*;unfold jW at e
 cases hm:rO P E (oA ops i) 0 with
 |none=>grind
 |some z=>
  obtain⟨ss,E1⟩:=z;rw[hm]at b hc e;simp only at b hc e
  cases hs:HL P E1 (bits 0<|Ed<|oA ops i) ss with
  |none=>grind
  |some y=>
   rw[hs]at b hc
   injection b with b
   subst b;refine .inl<|iV hr hF hU h3 h4 h7 h8 (l:=bits 0<|Ed<|oA ops i) (by rw[Lf,h6]) (f v hv) hm hs (.inl hc) λw' v' blk' FS' US' k1 k2 k3=>e _ _ _ _ _ _ _ _ k1 k2 k3
theorem tC {rs:List ResultVar} {a:List TV} (t:Nat) (h1:rs=[.tmp t]) (h:(match E.ptr? (.tmp t)with
 |some (r,[],0)=>bif r.mem then E.boxes r else none
 |_=>none)=some a):∃t r,rs=[.tmp t]/\E.ptr? (.tmp t)=some (r,[],0)/\r.mem=true/\E.boxes r=some a:=by grind
def pU (N:Nat) (E:St) (o:Oper):Option St:=match o.op,o.dst with
 | .extract t ix,some d=>bif Nat.blt d N then JP E d t ix else none
 |_,_=>none
theorem nN {w0:Base} {a:Act} (h:Ca w0 FA UA N w a E blk FS US) (hF:FS .hand=[]) (hU:US .hand=[]) {o:Oper} (he:pU N E o=some E'):
  ∃v blk' FS' US',(∀w2,(execOp a.eval o).run P w2= .ok (.value v) w2)/\Ca w0 FA UA N w (a.put o.dst v) E' blk' FS' US'/\FS' .hand=[]/\US' .hand=[]:=by
 unfold pU at he;split at he
 ·rename_i t ix d ho hd
  cases hN:Nat.blt d N with
  |false=>grind
  |true=>
   rw[hN]at he;have hN':d<N:=by simp_all
   obtain⟨nx,w',v,blk',FS',US',k1,k2,k3,k4,k5,_⟩:=CV.extract (P:=P) h hF hU ho hd hN' he;have e:∃x,∀w2,(execOp a.eval o).run P w2= .ok (.value x) w2:=by
    unfold JP at he;split at he
    ·rename_i n;split at he
     ·rename_i ss b;split at he
      ·rename_i s c;have hs:=h.slot n;rw[b]at hs;obtain⟨vs,f,hx⟩:=hs;obtain⟨v,A,B,C,D,F1,U1,h1,h2,h3,h4,h5⟩:=Sg ix hx c;simp_all [execOp,Instr.extract];grind
      cases he
     cases he
    cases he
   grind
 cases he
theorem M6 {ts:List Nat} (i:Nat) (h:KW P N ops ts (i::dn) ((pU N E (oA ops i)).getD E) Q) (hs:(pU N E (oA ops i)).isSome=true:=by kernel_rfl) (hk:(OF P ops E i&&cK ops ts dn i)=true:=by kernel_rfl):KW P N ops ts dn E Q:=by
 have hs':=getD_some (a:=E) hs;simp only[Al,cK]at hk;obtain⟨h1,h3,h4⟩:=hk;obtain⟨h5,h6⟩:=FX h1;unfold KW at h⊢;rw[NK (i:=i) h3];intro hQ hc w0 FA UA w a blk FS US k1 k2 k3;obtain⟨e1,e2,e3,e4,e5⟩:=PL h4;obtain⟨v,blk',FS',US',g1,g2,g3,g4⟩:=nN (P:=P) k1 k2 k3 hs';refine IX (v:=v) (n:=ops.size) (EY h5) (Region.noSelect_spec e1) (λc a w hx=>?_) e4 e5 _ _ a w hc (Region.free_spec (EY h5) e2) e3 (.inl ⟨Ch k1 h6,λw2 _=>g1 w2⟩) ?_
 ·obtain⟨E',blk',FS',US',m1,_⟩:=hx
  grind
 exact h hQ (GA hc e3) _ _ _ _ _ _ _ _ g2 g3 g4
def Xc (P:Program) (E:St) (o:Oper) (s:SV):Prop:=∀(N:Nat) (w0:Base) (FA UA:List Nat) (w:World) (a:Act) (blk:Root->Nat) (FS US:Root->List Nat),Ca w0 FA UA N w a E blk FS US->Dt P w a E blk FS US o s
theorem sK {s:SV} (hp:Xc P E (oA ops i) s) (h:RW P N ops (i+1) (E.put (oA ops i).dst s) Q) (hk:(OF P ops E i&&GW N (oA ops i))=true:=by kernel_rfl):RW P N ops i E Q:=by
 rw[Al]at hk;obtain⟨h1,h2⟩:=FX hk.1;obtain⟨d,h3,_,h4⟩:=D6 hk.2;rw[h3]at h;unfold RW;rw[NT h1];intro w0 FA UA w a blk FS US hr hF hU;simp only[wpList,Ch hr h2,Do];exact .inl<|(Ih hr hF hU (hp _ _ _ _ _ _ _ _ _ hr) h3 h4).wp λw' v blk' FS' US' k1 k2 k3 _=>h _ _ _ _ _ _ _ _ k1 k2 k3
theorem tO {m:Nat} {s:SV} (hp:Xc P E (oA ops i) s) (h:SW P N ops m (i+1) (E.put (oA ops i).dst s) K) (hk:(OF P ops E i&&GW N (oA ops i)&&Nat.blt i m)=true:=by kernel_rfl):SW P N ops m i E K:=by
 simp only[Al]at hk;obtain⟨h1,h2⟩:=FX hk.1.1;obtain⟨d,h3,_,h4⟩:=D6 hk.1.2;rw[h3]at h;unfold SW;rw[Mf h1 hk.2];intro w0 FA UA w a blk FS US k1 k2 k3;obtain⟨v,U,g1,g2,g3⟩:=hp _ _ _ _ _ _ _ _ _ k1;have hr:=g1 w λr _=>⟨λ_ _=>rfl,λ_ _=>rfl⟩;simp only[wpStill,Ch k1 h2,Do,Oper.still,hr,Oper.stillUpon_value];rw[h3];refine h _ _ _ _ _ _ _ _ (k1.put h4 g2<|Jt k1 g3 _) ?_ ?_
 ·grind [AI]
 grind [AI]
theorem tP {ts:List Nat} {s:SV} (i:Nat) (hp:Xc P E (oA ops i) s) (h:KW P N ops ts (i::dn) (E.put (oA ops i).dst s) Q) (hk:(OF P ops E i&&GW N (oA ops i)&&cK ops ts dn i)=true:=by kernel_rfl):KW P N ops ts dn E Q:=by
 simp only[Al,cK]at hk;obtain⟨⟨h1,h2⟩,h3,h4⟩:=hk;obtain⟨h5,h6⟩:=FX h1;obtain⟨d,h7,_,h8⟩:=D6 h2;unfold KW at h⊢;rw[NK (i:=i) h3];rw[h7]at h;intro hQ hc w0 FA UA w a blk FS US k1 k2 k3;obtain⟨e1,e2,e3,e4,e5⟩:=PL h4;obtain⟨v,U,g1,g2,g3⟩:=hp _ _ _ _ _ _ _ _ _ k1;refine IX (v:=v) (n:=ops.size) (EY h5) (Region.noSelect_spec e1) (λc a w hx=>?_) e4 e5 _ _ a w hc (Region.free_spec (EY h5) e2) e3 (.inl ⟨Ch k1 h6,λw2 e=>?_⟩) ?_
 ·obtain⟨E',blk',FS',US',m1,_⟩:=hx
  grind
 ·exact g1 w2 λr hr=>⟨λb hb=>e.2 b (k1.inF r b hb).2,λb hb=>e.2 b (k1.inU r b hb).2⟩
 rw[h7];refine h hQ (GA hc e3) _ _ _ _ _ _ _ _ (k1.put h8 g2<|Jt k1 g3 _) ?_ ?_
 ·grind [AI]
 grind [AI]
def qN (o:Oper):Bool:=match o.op with
 | .assign (.const _)| .move (.const _)=>true
 |_=>false
theorem tE {o:Oper} (h:qN o=true:=by kernel_rfl):Xc P E o (.one .junk):=by
 intro N w0 FA UA w a blk FS US hr;unfold qN at h;split at h
 ·rename_i v ho;exact⟨v,[],λw2 _=>by simp_all [execOp,Act.eval],by simp[GI,CI,TV.isJunk],by simp⟩
 ·rename_i v ho;exact⟨v,[],λw2 _=>by simp_all [execOp,Act.eval],by simp[GI,CI,TV.isJunk],by simp⟩
 cases h
abbrev pb (n:Nat):SV:= .one (.ptr (.box n) 0 [] 0)
abbrev px (n:Nat):SV:= .one (.ptr (.ext n) 0 [] 0)
abbrev i6 (n:Int):TV:= .int .i64 n
abbrev tb (b:Bool):TV:= .bool b
abbrev ts (s:ByteArray):TV:= .str s
abbrev rg (n:Nat):List AV:=List.replicate n .gone
theorem jr {r:β} {w:β} {f:V->Option β} {a:V⊕β} (h:some (.inr w)=some a) (hk:Sum.elim f some a=some r):some w=some r:=by grind
theorem jo {r:β} {S:Type} {w:β} {f:V->Option β} {o:S⊕(V⊕β)} (h:some (.inr (.inr w))=some o) (hk:∀w,o= .inr (.inr w)->Sum.elim f some (.inr w)=some r):some w=some r:=by grind
theorem rr {v r:β} (h:some v=some r):v=r:=Option.some.inj h
theorem rq {e:Exit} {rs:List ResultVar} {a:SV} (he:e= .normal\/e= .ret:=by first|exact .inr rfl|exact .inl rfl) (hk:(Dg P E rs).map (λz=>Ds z.1)=some a:=by kernel_rfl):(e= .normal\/e= .ret)/\∃ss E',Dg P E rs=some (ss,E')/\Ds ss=a:=⟨he,tA hk⟩
theorem rx {e:Exit} {rs:List ResultVar} {b:SV} {a:List TV} (he:e= .normal\/e= .ret:=by first|exact .inr rfl|exact .inl rfl) (hk:(Dg P E rs).map (λz=>(Ds z.1,z.2.boxes<|.ext 0))=some (b,some a):=by kernel_rfl):(e= .normal\/e= .ret)/\∃ss E',Dg P E rs=some (ss,E')/\Ds ss=b/\E'.boxes (.ext 0)=some a:=⟨he,tB hk⟩
section
variable {id:Nat}
theorem ws {y:Code} (h:RW P N ops 0 E (GH (λE'=>Wp P N y E' Q) Q)):Wp P N (.seq (.region id ops false) y) E Q:=Wp.seq<|nL h
end
theorem Cg {r:β} (hf:∀x,(f x).length=sz) (h:(gi l n).bind kk=some r) (hk:∀x,gi l n=some x->kk x=some r->RW P N ops (i+1) (E.put (oA ops i).dst (Yk E (oA ops i) (n.toNat*sz+0))) Q) (hc:hZ P E (oA ops i) sz=some (A8 f l,n):=by kernel_rfl) (hq:f7 P N ops i E=true:=by kernel_rfl):RW P N ops i E Q:=
 bd h λx gx h=>RW.q (EU hf gx hc) (hk x gx h) hq
def aM (P:Program) (N:Nat) (a:Array Oper) (ts dn:List Nat) (E:St) (i:Nat):Option St:=bif Nat.blt i a.size&&GW N (oA a i)&&cK a ts dn i then
 (match Bt P a E (oA a i)with
 |some false=>some<|E.put (oA a i).dst<|.tup []
 |some true=>match EX P E (oA a i)with
  |some s=>some<|E.put (oA a i).dst s
  |none=>pU N E<|oA a i
 |none=>none)else none
theorem s9 {ts:List Nat} (hs:aM P N ops ts dn E i=some E') (h:KW P N ops ts (i::dn) E' Q):KW P N ops ts dn E Q:=by grind [rD,pK,M6,aM,OF]
def bZ (P:Program) (N:Nat) (a:Array Oper) (ts dn:List Nat) (E:St):List Nat->Option (Nat×St)
 |[]=>none
 |i::l=>match aM P N a ts dn E i with
  |some E'=>some (i,E')
  |none=>bZ P N a ts dn E l
theorem Yp {ts:List Nat}:∀{l:List Nat} {E':St},bZ P N ops ts dn E l=some (i,E')->aM P N ops ts dn E i=some E'
 |[],_,h=>by cases h
 |j::l,E',h=>by
  simp only[bZ]at h;split at h
  ·grind
  exact Yp h
def nK (P:Program) (N:Nat) (a:Array Oper) (ts:List Nat) (mv:List Nat) (E:St) (i:Nat):Option St:=bif OF P a E i&&(kp (oA a i)||ts.contains i)then BD P N (mv.contains i) E (oA a i)else none
def mJ (f:A->Option (List St)):List A->Option (List St)
 |[]=>some []
 |x::l=>match f x,mJ f l with
  |some a,some b=>some (a++b)
  |_,_=>none
theorem YB {f:A->Option (List St)}:∀{l:List A} {L:List St},mJ f l=some L->∀x∈l,∃a,f x=some a/\∀E∈a,E∈L
 |[],_,_,x,hx=>by cases hx
 |y::l,L,h,x,hx=>by
  simp only[mJ]at h;split at h
  ·rename_i a b h1 h2
   injection h with h
   subst h
   rcases PU.1 hx with rfl|hx
   ·grind
   obtain⟨a',h3,h4⟩:=YB h2 x hx
   grind
  cases h
def dF (P:Program) (N:Nat) (a:Array Oper) (ts mv:List Nat):Nat->List Nat->St->Option (List St)
 |0,_,_=>none
 |n+1,dn,E=>match Region.ready .any a (g6 a.size dn)with
  |[]=>some [E]
  |rs=>bif Nat.blt dn.length a.size then(match bZ P N a ts dn E rs with
   |some (i,E')=>dF P N a ts mv n (i::dn) E'
   |none=>mJ (λi=>match nK P N a ts mv E i with
    |some E'=>dF P N a ts mv n (i::dn) E'
    |none=>none) rs)else none
theorem aE {ts:List Nat} {mv:List Nat}:∀{n:Nat} {dn:List Nat} {E:St} {L:List St},dF P N ops ts mv n dn E=some L->(∀E'∈L,Q .normal E')->KW P N ops ts dn E Q
 |0,_,_,_,h,_=>by cases h
 |n+1,dn,E,L,h,hq=>by
  simp only[dF]at h;split at h
  ·grind [AD]
  rename_i b
  cases hb:Nat.blt dn.length ops.size with
  |false=>grind
  |true=>
   rw[hb]at h;split at h
   ·rename_i i E' hf;exact s9 (Yp hf) (aE h hq)
   refine KW.all _ (λi hi=>?_) b (by grind [jP]);obtain⟨a,h1,h2⟩:=YB h i hi;split at h1
   ·rename_i E' hs;unfold nK at hs
    cases hc:(OF P ops E i&&(kp (oA ops i)||ts.contains i))with
    |false=>grind
    |true=>
     rw[hc]at hs;exact GE hs (aE h1 λE'' hE=>hq E''<|h2 E'' hE) hc
   cases h1
def gG (P:Program) (N:Nat) (a:Array Oper) (ts mv dn:List Nat) (E:St):List St:=(dF P N a ts mv (a.size+1) dn E).getD []
theorem nP {X:Prop} {c:List PanicEntry} (h:(Exit.panic c= .normal\/Exit.panic c= .ret)/\X):False:=by grind
end Go.TI
