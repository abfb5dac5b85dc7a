/- What walks of Go code need. No condition. -/
import Derived.Test.YtpafpcbnmplkfaaGreatMOT1
import Derived.Orders
import Derived.Still
import Derived.StillTail
import Derived.OrdersHeld
import Derived.Deep.Slices
import Derived.ChangeOld
import Derived.DataReads
import Derived.Lib.ReflectliteSwap
import Derived.Deep.Upon
set_option linter.unusedVariables false
set_option linter.unusedSimpArgs false
namespace Go.TI
open Go Go.RowKit
variable (P:Program)in
def EN (E:St):List ResultVar->Option (List SV×St)
 |[]=>some ([],E)
 | .tmp t::rs=>match E.val P 0 (.tmp t)with
  |some s=>match L0 E s with
   |some (xs,E1)=>match EN E1 rs with
    |some (ss,E2)=>some (s.withCells xs::ss,E2)
    |none=>none
   |none=>none
  |none=>none
 | .cell t ty :: rs => match Bl P E { dst := none, op := .load ty (.tmp t), type := ty, pos := "", after := #[], guard := none } with
  |some s=>match L0 E s with
   |some (xs,E1)=>match EN E1 rs with
    |some (ss,E2)=>some (s.withCells xs::ss,E2)
    |none=>none
   |none=>none
  |none=>none
def Gc:List SV->SV
 |[s]=>s
 |ss=> .tup ss
section
variable {w0:Base} {FA UA:List Nat} {N:Nat} {w:World} {a:Act} {E:St} {blk:Root->Nat} {FS US:Root->List Nat} {P:Program}
def NB (P:Program) (tmps:Array Value):ResultVar->Sem Value
 | .tmp t=>pure (tmps.getD t undef)
 | .cell a t=>do loadVar t (<-asAddr (tmps.getD a undef))
theorem XX (fn:Func) (tmps:Array Value):results fn tmps=(do
  let vs<-fn.results.mapM (NB P tmps)
  pure (if h:vs.size=1 then vs[0]else .tuple vs)):=by
 unfold results;congr 1
theorem Lm:∀{rs:List ResultVar} {ss:List SV} {E E':St} {FS US:Root->List Nat},CR w0 FA UA N w a E blk FS US->EN P E rs=some (ss,E')->
  ∃vs FS' US' F U,(rs.mapM (NB P a.tmps)).run P w= .ok vs w/\O2 w ss vs F U/\CR w0 FA UA N w a E' blk FS' US'/\FS' .hand=FS .hand++F/\US' .hand=US .hand++U
 |[],ss,E,E',FS,US,h,ht=>by
  simp only [EN,Ap,Bx]at ht;obtain⟨rfl,rfl⟩:=ht;exact⟨[],FS,US,[],[],by simp,by simp [O2],h,by simp,by simp⟩
 | .tmp t::rs,ss,E,E',FS,US,h,ht=>by
  simp only [EN]at ht;split at ht
  ·rename_i s hs;split at ht
   ·rename_i xs E1 hx;split at ht
    ·rename_i ss' E2 d;simp only [Ap,Bx]at ht;obtain⟨rfl,rfl⟩:=ht;obtain⟨U,h1,h2⟩:=Jx h hs;obtain⟨FS1,US1,F1,U1,h3,h4,h5,h6,_,_⟩:=Ki h h1 h2 hx;obtain⟨vs,FS2,US2,F2,U2,k1,k2,k3,k4,k5⟩:=Lm h4 d;obtain⟨hp,hl⟩:=RA hx;refine⟨a.eval (.tmp t)::vs,FS2,US2,F1++F2,U1++U2,?_,?_,k3,by rw [k4,h5,Aq],by rw [k5,h6,Aq]⟩
     ·rw [List.mapM_cons];simp [NB,k1,Act.eval]
     simp only [O2];exact⟨_,vs,F1,F2,U1,U2,rfl,rfl,rfl,LL h1 hp hl h3,k2⟩
    cases ht
   cases ht
  cases ht
 | .cell t ty::rs,ss,E,E',FS,US,h,ht=>by
  simp only [EN]at ht;split at ht
  ·rename_i s hs;split at ht
   ·rename_i xs E1 hx;split at ht
    ·rename_i ss' E2 d;simp only [Ap,Bx]at ht;obtain⟨rfl,rfl⟩:=ht;obtain⟨v,U,h0,h1,h2⟩:=RP h hs;obtain⟨FS1,US1,F1,U1,h3,h4,h5,h6,_,_⟩:=Ki h h1 h2 hx;obtain⟨vs,FS2,US2,F2,U2,k1,k2,k3,k4,k5⟩:=Lm h4 d;obtain⟨hp,hl⟩:=RA hx;have b:=h0 w (λr _=>⟨λ_ _=>rfl,λ_ _=>rfl⟩);have e:(NB P a.tmps (.cell t ty)).run P w= .ok v w:=by
      have c:∃r q j,E.ptr? (.tmp t)=some (r,q,j):=by
       simp only [Bl]at hs;split at hs
       ·rename_i r q j c;exact⟨r,q,j,c⟩
       cases hs
      obtain⟨r,q,j,c⟩:=c;obtain⟨_,ad,_,f⟩:=LW h c;simp only [execOp,Instr.loadAt,f,Instr.sureAddr]at b;simp only [Act.eval]at f;simp only [NB,f,asAddr];simp only [Sem.run_bind,Sem.run_pure,Result.andThen_ok]at b⊢
      cases hl:(loadVar ty ad).run P w with
      |ok u w2=>
       rw [hl]at b;simp only [Result.andThen_ok,Result.ok.injEq,Next.value.injEq]at b;obtain⟨rfl,rfl⟩:=b;rfl
      |halt x w2=>
       rw [hl]at b;simp at b
     refine⟨v::vs,FS2,US2,F1++F2,U1++U2,?_,?_,k3,by rw [k4,h5,Aq],by rw [k5,h6,Aq]⟩
     ·rw [List.mapM_cons];simp [e,k1]
     simp only [O2];exact⟨_,vs,F1,F2,U1,U2,rfl,rfl,rfl,LL h1 hp hl h3,k2⟩
    cases ht
   cases ht
  cases ht
theorem Nr {fn:Func} {vs:List Value} (h:(fn.results.toList.mapM (NB P a.tmps)).run P w= .ok vs w):(results fn a.tmps).run P w= .ok (if h:vs.length=1 then vs[0]else .tuple vs.toArray) w:=by
 rw [XX (P:=P)];have:fn.results.mapM (NB P a.tmps)=List.toArray<$>fn.results.toList.mapM (NB P a.tmps):=by
  rw [<-List.mapM_toArray]
 rw [this];simp [h]
theorem Qh {ss:List SV} {vs:List Value} {F U:List Nat} (h:O2 w ss vs F U):Vr w (Gc ss) (if h:vs.length=1 then vs[0]else .tuple vs.toArray) F U:=by
 unfold Gc;split
 ·rename_i s;simp only [O2]at h;obtain⟨v,vs',F1,F2,U1,U2,rfl,rfl,rfl,h1,rfl,rfl,rfl⟩:=h;simpa using h1
 rename_i a;have hl:vs.length=ss.length:=by
  have:∀{ss:List SV} {vs:List Value} {F U:List Nat},O2 w ss vs F U->vs.length=ss.length:=by
   intro ss
   induction ss with
   |nil=>intro vs F U h;simp only [O2]at h;simp [h.1]
   |cons s ss ih=>
    intro vs F U h;simp only [O2]at h;obtain⟨v,vs',F1,F2,U1,U2,rfl,rfl,rfl,h1,h2⟩:=h;simp [ih h2]
  exact this h
 have:¬vs.length=1:=by
  intro h1;rw [h1]at hl
  match ss,hl with
  |[s],_=>exact a s rfl
 rw [dif_neg this];simp only [Vr];exact⟨vs,rfl,h⟩
end
theorem YJ {P:Program} {f:FuncId} {fn:Func} {c:Code} {as:List AV} {res:SV} (hf:P.funcs[f]?=some fn) (hb:fn.body=some c)
  (h:Wp P fn.ntmps c (Eo as) λe E=>(e= .normal\/e= .ret)/\∃ss E',EN P E fn.results.toList=some (ss,E')/\Gc ss=res):
  AP P f as res (List.replicate as.length .gone):=by
 intro w vs FA UA ha j i k;obtain⟨blk,FS,US,hr,hF,hU⟩:=Q8 (N:=fn.ntmps) ha j i k (A:=Hz.none) trivial (λb hb=>by cases hb);refine calls_of_wp hf hb (wp_mono (h _ _ _ _ _ _ _ _ hr hF hU) ?_);rintro e a w' ⟨E,blk',FS',US',⟨he,ss,E',h1,rfl⟩,h2,h3,h4⟩;obtain⟨us,FS2,US2,F,U,k1,k2,k3,k4,k5⟩:=Lm h2 h1;rw [h3,A7]at k4;rw [h4,A7]at k5;have g:∀(n:Nat) (vs:List Value),vs.length=n->JR w' (List.replicate n .gone) vs [] []:=by
  intro n
  induction n with
  |zero=>intro vs hv;simp at hv;subst hv;exact⟨rfl,rfl,rfl⟩
  |succ n ih=>
   intro vs hv
   cases vs with
   |nil=>simp at hv
   |cons v vs=>exact⟨v,vs,[],[],[],[],rfl,rfl,rfl,⟨rfl,rfl⟩,ih vs (by simpa using hv)⟩
 have l:vs.length=as.length:=by
  obtain⟨_,_,_,_,h5,_⟩:=Rj ha;exact h5
 have d:a.defers=[]/\∃v,(results fn a.tmps).run P w'= .ok v w'/\∃v' F U G V,Ending.returned v= .returned v'/\ADh w w' FA UA (Gc ss) (List.replicate as.length .gone) vs v' F U G V:=by
  refine⟨h2.nodef,_,Nr k1,_,F,U,[],[],rfl,?_⟩
  exact{
   res:=Qh k2
   fin:=g _ _ l
   nodup:=by simpa [<-k4]using k3.nodup .hand
   dis:=by
    intro b hb hb';simp only [Az]at hb hb';rw [<-k4]at hb;rw [<-k5]at hb';exact k3.disU .hand .hand b hb hb'
   inF:=by
    intro b hb;simp only [Az]at hb;rw [<-k4]at hb;exact k3.inF .hand b hb
   inU:=by
    intro b hb;simp only [Az]at hb;rw [<-k5]at hb;exact k3.inU .hand b hb
   os:=k3.os
   tape:=k3.tape
   output:=k3.output
   size:=k3.size
   keep:=λb hb hF=>k3.keep b hb hF (λe=>by cases e)}
 rcases he with rfl|rfl
 ·exact d
 exact d
end Go.TI
namespace Go.TI
open Go
section
variable {E:St} {d n:Nat} {s:SV} {r:Root} {xs:List TV} {P:Program} {N:Nat}
theorem AFR {ops:Array Oper} {l:List Oper} {Q:Exit->St->Prop} (t:Nat) {b:Bool} (_:E.cell1 P 0 (.tmp t)=some (.bool b)) (ht:b=true->AC P N ops l E Q) (hf:b=false->AC P N ops l E Q):AC P N ops l E Q:=by
 cases b
 ·exact hf rfl
 exact ht rfl
theorem ABn {ops : Array Oper} {Q : Exit → St → Prop} {o : Oper} {rest : List Oper} {f : FuncId} {args : Array Operand} {tys : Array TypeId} (ho : o.op = .call { callee := .value (.func f), args := args, argTypes := tys }) {fn : Func} (hf : P.funcs[f]? = some fn) (hn : fn.name ≠ "runtime.NumGoroutine") (hb : fn.body.isNone = false)
  (hg:B7 P ops E o=some true) {d:Nat} (hd:o.dst=some d) (hN:d<N) (hz:tys.size=args.size) {l:List AV} {res:SV} {n:Nat} (b:AP P f l res (List.replicate n .gone)) {c:Bool}
  (e:H8 P E ((tys.toList.zip args.toList).map λ(t,x)=>(false,t,x)) (List.replicate args.size none)=some (l,c)) (hc:c=true\/BD res=false)
  (h:AC P N ops rest (E.put (some d) res) Q):AC P N ops (o::rest) E Q:=by
 have i:∀(l:List (TypeId×Operand)),JJ P E (l.map λ(t,x)=>(false,t,x))=some (List.replicate l.length none,E):=by
  intro l
  induction l with
  |nil=>rfl
  |cons x l ih=>
   obtain⟨t,x⟩:=x;simp only [BV,JJ,ih,Ay,EP]
 have a:(tys.toList.zip args.toList).length=args.size:=by simp [hz]
 refine AC.call ho ⟨fn,hf,hn,hb⟩ hg (λd' hd'=>by rw [hd]at hd';injection hd' with hd';subst hd';exact hN) ((tys.toList.zip args.toList).map λ(t,x)=>(false,t,x)) ?_ b ⟨_,E,c,i _,by rw [a];exact e,hc,by rw [hd]⟩ h;rw [EJ];have:((λx:Bool×TypeId×Operand=>x.2.2)∘λ(x:TypeId×Operand)=>(false,x.1,x.2))=Prod.snd:=rfl;exact(BH (λg=>List.map g _) this).trans (List.map_snd_zip (by simp [hz]))
end
end Go.TI
namespace Go.TI
open Go Go.RowKit
def AA (ls:List (Nat×SV)) (bs:List (Root×List TV)):St where
 slots:=λn=>(ls.lookup n).getD (.one .junk)
 boxes:=λr=>bs.lookup r
 ver:=λ_=>0
 gen:=λ_=>0
def zY (ls:List Nat) (bs:List Root):Root->Bool
 | .slot n=>ls.contains n
 |r=>bs.contains r
def ST (E:St) (ls:List Nat) (bs:List Root):TV->TV
 | .view r v q j=>if E.ver r=v/\zY ls bs r=true then .view r 0 q j else .junk
 | .ptr r v q j=>if E.stamp r q=v/\zY ls bs r=true then .ptr r 0 q j else .junk
 |t=>t
def nSV (E:St) (ls:List Nat) (bs:List Root):SV->SV
 | .one t=> .one (ST E ls bs t)
 | .agg cs=> .agg (cs.map (ST E ls bs))
 | .tup _=> .one .junk
def FI (E:St) (ls:List Nat) (bs:List Root):St:={AA (ls.map λn=>(n,nSV E ls bs (E.slots n))) (bs.map λr=>(r,(E.boxes r).getD []))with amb:=E.amb,fz:=E.fz}
theorem SZ {f:Nat->SV}:∀{ls:List Nat} {n:Nat},((ls.map λn=>(n,f n)).lookup n)=if ls.contains n=true then some (f n)else none
 |[],n=>rfl
 |m::ls,n=>by
  simp only [BV,List.lookup_cons,List.contains_cons];by_cases h:n=m
  ·subst h;simp
  have:(n==m)=false:=by simpa using h
  rw [this,SZ];simp
theorem JK {f:Root->List TV}:∀{bs:List Root} {r:Root},((bs.map λr=>(r,f r)).lookup r)=if bs.contains r=true then some (f r)else none
 |[],r=>rfl
 |s::bs,r=>by
  simp only [BV,List.lookup_cons,List.contains_cons];by_cases h:r=s
  ·subst h;simp
  have:(r==s)=false:=by simpa using h
  rw [this,JK];simp
section
variable {w0:Base} {FA UA:List Nat} {N:Nat} {w:World} {a:Act} {E:St} {blk:Root->Nat} {FS US:Root->List Nat} {P:Program}
theorem ACp {ls:List Nat} {bs:List Root} {o:Bool} {e sz:Nat} {cells:List TV}:ST E ls bs (.sl o e sz cells)= .sl o e sz cells:=rfl
theorem ACT {ls:List Nat} {bs:List Root} {cs row:List TV} {c:Nat} {q:List Nat} (h:BY cs (c::q)=some row):BY (cs.map (ST E ls bs)) (c::q)=some row:=by
 simp only [BY,Bf]at h⊢;split at h
 ·rename_i o e sz cells hc;simp only [hc,Bv,ACp];exact h
 cases h
theorem AAT {ls:List Nat} {bs:List Root} {r:Root} (hk:zY ls bs r=true) (hb:∀r∈bs,r.mem=true/\(E.boxes r).isSome=true) (c:E.boxes .hand=none):
  (∀n,r≠ .slot n)->(FI E ls bs).root r=E.root r:=by
 intro hn;have a:∀r,bs.contains r=true->(bs.map λr=>(r,(E.boxes r).getD [])).lookup r=E.boxes r:=by
  intro r hr;rw [JK,A4 hr];obtain⟨cs,b⟩:=F6.1 (hb r (by simpa using hr)).2;rw [b];rfl
 cases r with
 |slot n=>exact absurd rfl (hn n)
 |box n=>exact a _ hk
 |ext n=>exact a _ hk
 |hand=>exact a _ hk
theorem d8 {ls:List Nat} {bs:List Root} {n:Nat}:(FI E ls bs).slots n=if ls.contains n=true then nSV E ls bs (E.slots n)else .one .junk:=by
 simp only [FI,AA];rw [SZ];split<;>rfl
theorem Yk {ls:List Nat} {bs:List Root} {r:Root} {q:List Nat} {j:Nat} (hk:zY ls bs r=true) (hb:∀r∈bs,r.mem=true/\(E.boxes r).isSome=true) (d:E.boxes .hand=none)
  (hq:q=[]->r.mem=true\/Kg (E.place r q j)=true) (hs:(E.place r q j).isSome=true):(FI E ls bs).place r q j=E.place r q j:=by
 by_cases b:∃n,r= .slot n
 ·obtain⟨n,rfl⟩:=b;have hk':ls.contains n=true:=hk;simp only [St.place,St.root,Aa]at hs hq⊢;rw [d8,A4 hk'];have a:(nSV E ls bs (E.slots n)).cells=(E.slots n).cells.map (ST E ls bs)\/(E.slots n).cells=[]:=by
   cases E.slots n with
   |one t=>exact .inl rfl
   |agg cs=>exact .inl rfl
   |tup ss=>exact .inr rfl
  rcases a with hc|hc
  ·rw [hc]
   cases q with
   |nil=>
    rcases hq rfl with h1|h1
    ·cases h1
    simp only [BY,Aa]at h1⊢;rw [Bf]
    cases hx:(E.slots n).cells[j]? with
    |none=>rw [hx]at h1;cases h1
    |some t=>
     rw [hx]at h1;cases t<;>first|rfl|cases h1
   |cons c q=>
    cases hx:BY (E.slots n).cells (c::q)with
    |none=>rw [hx]at hs;cases hs
    |some row=>rw [ACT hx]
  rw [hc]at hs;exfalso
  cases q with
  |nil=>simp [BY]at hs
  |cons c q=>simp [BY]at hs
 simp only [St.place,AAT hk hb d (λn e=>b ⟨n,e⟩)]
theorem Zd {ls:List Nat} {bs:List Root} (hb:∀r∈bs,r.mem=true/\(E.boxes r).isSome=true) (d:E.boxes .hand=none) {t:TV} {v:Value} {F U:List Nat} (h:CL w a E blk t v F U):CL w a (FI E ls bs) blk (ST E ls bs t) v F U:=by
 cases t with
 |view r ver q j=>
  obtain⟨rfl,rfl,_,hc⟩:=h;simp only [ST];split
  ·rename_i c;obtain⟨h1,h2⟩:=hc c.1;refine⟨rfl,rfl,JT _,λ_=>⟨h1,?_⟩⟩;rw [Yk c.2 hb d (λ_=> .inr h2) (by cases hx:E.place r q j with|none=>rw [hx]at h2;cases h2|some _=>rfl)];exact h2
  exact⟨rfl,rfl⟩
 |ptr r ver q j=>
  obtain⟨rfl,rfl,_,hc⟩:=h;simp only [ST];split
  ·rename_i c;obtain⟨h1,ad,h2,h3⟩:=hc c.1;refine⟨rfl,rfl,JT _,λ_=>⟨?_,ad,h2,h3⟩⟩;rw [Yk c.2 hb d (λhq=> .inl (by subst hq;cases r<;>first|rfl|(simp [pa]at h2;done))) h1];exact h1
  exact⟨rfl,rfl⟩
 |junk=>exact h
 |int k n=>exact h
 |bool b=>exact h
 |str s=>exact h
 |fn _ _ _=>exact h
 |adr _=>exact h
 |hdr _ _ _=>exact h
 |sl o e sz cells=>exact h
theorem Vd {ls:List Nat} {bs:List Root} (hb:∀r∈bs,r.mem=true/\(E.boxes r).isSome=true) (b:E.boxes .hand=none):∀{ts:List TV} {vs:List Value} {F U:List Nat},CH w a E blk ts vs F U->CH w a (FI E ls bs) blk (ts.map (ST E ls bs)) vs F U
 |[],_,_,_,h=>h
 |t::ts,vs,F,U,h=>by
  obtain⟨v,vs',F1,F2,U1,U2,h1,h2,h3,h4,h5⟩:=h;exact⟨v,vs',F1,F2,U1,U2,h1,h2,h3,Zd hb b h4,Vd hb b h5⟩
theorem CR.norm (h:CR w0 FA UA N w a E blk FS US) (ls:List Nat) (bs:List Root) (hb:∀r∈bs,r.mem=true/\(E.boxes r).isSome=true):
  ∃FS' US',CR w0 FA UA N w a (FI E ls bs) blk FS' US'/\FS' .hand=[]/\US' .hand=[]:=by
 have e:=h.nohand
 let st:Root->Bool:=λr=>match r with
  | .slot n=>ls.contains n&&(match E.slots n with| .tup _=>false|_=>true)
  | .hand=>false
  |r=>bs.contains r
 let FS':Root->List Nat:=λr=>if st r=true then FS r else []
 let US':Root->List Nat:=λr=>if st r=true then US r else []
 have hF:∀r b,b∈FS' r->b∈FS r:=by intro r b hx;simp only [FS']at hx;split at hx;exact hx;cases hx
 have hU:∀r b,b∈US' r->b∈US r:=by intro r b hx;simp only [US']at hx;split at hx;exact hx;cases hx
 refine⟨FS',US',?_,by simp [FS',st],by simp [US',st]⟩;constructor
 ·intro n;rw [d8];have hs:=h.slot n
  cases hc:ls.contains n with
  |false=>
   have:st (.slot n)=false:=by show(ls.contains n&&_)=false;rw [hc];rfl
   simp [E8,CL,TV.isJunk,FS',US',this]
  |true=>
   rw [A4 rfl]
   cases c:E.slots n with
   |one t=>
    have:st (.slot n)=true:=by show(ls.contains n&&_)=true;rw [hc,c];rfl
    rw [c]at hs;simp only [E8]at hs;simp only [nSV,E8,FS',US',this,Cc];refine⟨Zd hb e hs.1,λhj=>hs.2 ?_⟩;cases t<;>first|rfl|cases hj
   |agg cs=>
    have:st (.slot n)=true:=by show(ls.contains n&&_)=true;rw [hc,c];rfl
    rw [c]at hs;simp only [E8]at hs;obtain⟨vs,h1,h2⟩:=hs;simp only [nSV,E8,FS',US',this,Cc];exact⟨vs,h1,Vd hb e h2⟩
   |tup ss=>
    have:st (.slot n)=false:=by show(ls.contains n&&_)=false;rw [hc,c];rfl
    simp [nSV,E8,CL,TV.isJunk,FS',US',this]
 ·intro r hr
  cases hc:bs.contains r with
  |false=>
   have d:st r=false:=by cases r<;>first|exact hc|cases hr
   refine .inl ⟨?_,by simp [FS',d],by simp [US',d]⟩;show(bs.map λr=>(r,(E.boxes r).getD [])).lookup r=none;rw [JK,A5 (by rw [hc];simp)]
  |true=>
   have d:st r=true:=by cases r<;>first|exact hc|cases hr
   have f:(FI E ls bs).boxes r=E.boxes r:=by
    show(bs.map λr=>(r,(E.boxes r).getD [])).lookup r=_;rw [JK,A4 hc];obtain⟨cs,g⟩:=F6.1 (hb r (by simpa using hc)).2;rw [g];rfl
   rw [f];simp only [FS',US',d,Cc];exact h.box r hr
 ·show(bs.map λr=>(r,(E.boxes r).getD [])).lookup .hand=none;rw [JK,A5];intro hx;have:=(hb .hand (by simpa using hx)).1;cases this
 ·intro r;simp only [FS'];split
  ·exact h.nodup r
  exact CO
 ·exact λr s i b hx hy=>h.dis r s i b (hF r b hx) (hF s b hy)
 ·exact λr s b hx hy=>h.disU r s b (hF r b hx) (hU s b hy)
 ·exact λr b hx=>h.inF r b (hF r b hx)
 ·exact λr b hx=>h.inU r b (hU r b hx)
 ·exact h.disA
 ·exact h.os
 ·exact h.tape
 ·exact h.output
 ·exact h.size
 ·exact h.keep
 ·exact h.len
 ·exact h.nodef
 ·exact h.xblk
 ·exact h.ambB
 ·exact h.ambI
 ·exact h.frz
 ·exact h.ambF
 exact h.pin
theorem Wp.norm {c:Code} {Q:Exit->St->Prop} (ls:List Nat) (bs:List Root) (E':St) (hb:bs.all (λr=>r.mem&&(E.boxes r).isSome)=true) (hE:FI E ls bs=E') (h:Wp P N c E' Q):Wp P N c E Q:=by
 intro w0 FA UA w a blk FS US hr hF hU
 obtain⟨FS',US',h1,h2,h3⟩:=hr.norm ls bs (λr hm=>by
  have:=I1.1 hb r hm
  simpa using this)
 rw [hE]at h1;exact h _ _ _ _ _ _ _ _ h1 h2 h3
end
end Go.TI
namespace Go.TI
open Go Go.RowKit
def AWp (P:Program) (N:Nat) (ops:Array Oper) (fuel:Nat) (listed:Array Bool) (E:St) (Q:Exit->St->Prop):Prop:=
 ∀(w0:Base) (FA UA:List Nat) (w:World) (a:Act) (blk:Root->Nat) (FS US:Root->List Nat),CR w0 FA UA N w a E blk FS US->FS .hand=[]->US .hand=[]->wpAny P .any ops (tG w0 FA UA N Q) fuel listed a w
def AOp (P:Program) (N:Nat) (ops:Array Oper) (i:Nat) (E:St) (K:St->Prop) (Q:Exit->St->Prop):Prop:=
 ∀(w0:Base) (FA UA:List Nat) (w:World) (a:Act) (blk:Root->Nat) (FS US:Root->List Nat),CR w0 FA UA N w a E blk FS US->FS .hand=[]->US .hand=[]->
  wpOp P ops (tG w0 FA UA N Q) i (λa' w'=>∃E' blk' FS' US',K E'/\CR w0 FA UA N w' a' E' blk' FS' US'/\FS' .hand=[]/\US' .hand=[]) a w
section
variable {N:Nat} {E:St} {P:Program} {ops:Array Oper} {Q:Exit->St->Prop} {K:St->Prop} {i:Nat} {o:Oper} {fuel:Nat} {listed:Array Bool}
theorem AGs (hr:Region.ready .any ops listed=[]) (h:Q .normal E):AWp P N ops fuel listed E Q:=
 λw0 FA UA w a blk FS US k1 k2 k3=>wpAny_done hr ⟨E,blk,FS,US,h,k1,k2,k3⟩ fuel
theorem AWp.all (rs:List Nat) (hr:Region.ready .any ops listed=rs) (b:rs≠ []) (h:∀i∈rs,AOp P N ops i E (λE'=>AWp P N ops fuel (listed.setIfInBounds i true) E' Q) Q):AWp P N ops (fuel+1) listed E Q:=
 λw0 FA UA w a blk FS US k1 k2 k3=>wpAny_all hr b λi hi=>wpOp_mono (λa' w' ⟨E',blk',FS',US',m1,m2,m3,m4⟩=>m1 _ _ _ _ _ _ _ _ m2 m3 m4) (h i hi _ _ _ _ _ _ _ _ k1 k2 k3)
theorem AWp.one (i:Nat) (hr:Region.ready .any ops listed=[i]) (h:AOp P N ops i E (λE'=>AWp P N ops fuel (listed.setIfInBounds i true) E' Q) Q):AWp P N ops (fuel+1) listed E Q:=
 AWp.all [i] hr (by simp) λj hj=>by
  have:j=i:=by simpa using hj
  subst this;exact h
end
end Go.TI
namespace Go.TI
open Go Go.RowKit
def HW (P:Program) (N:Nat) (ops:Array Oper) (l:List Oper) (E:St) (K:St->Prop):Prop:=
 ∀(w0:Base) (FA UA:List Nat) (w:World) (a:Act) (blk:Root->Nat) (FS US:Root->List Nat),CR w0 FA UA N w a E blk FS US->FS .hand=[]->US .hand=[]->
  wpStill P ops w (λa'=>∃E' blk' FS' US',K E'/\CR w0 FA UA N w a' E' blk' FS' US'/\FS' .hand=[]/\US' .hand=[]) l a
def IM (P:Program) (E:St) (o:Oper):Option SV:=match o.op with
 | .build t parts=>Wz P E t parts.toList
 |_=>Bl P E o
section
variable {w0:Base} {FA UA:List Nat} {N:Nat} {w:World} {a:Act} {E:St} {blk:Root->Nat} {FS US:Root->List Nat} {P:Program} {ops:Array Oper} {Q:Exit->St->Prop} {K:St->Prop} {o:Oper} {rest:List Oper}
theorem WR (h:CR w0 FA UA N w a E blk FS US) {s:SV} (hs:IM P E o=some s):EY P w a E blk FS US o s:=by
 unfold IM at hs;split at hs
 ·rename_i ho;exact qR h ho hs
 exact RP h hs
theorem HW.nil (h:K E):HW P N ops [] E K:=λw0 FA UA w a blk FS US k1 k2 k3=>⟨E,blk,FS,US,h,k1,k2,k3⟩
theorem HW.op (s:SV) {d:Nat} (hg:B7 P ops E o=some true) (hd:o.dst=some d) (hN:d<N) (hs:IM P E o=some s) (h:HW P N ops rest (E.put (some d) s) K):HW P N ops (o::rest) E K:=by
 intro w0 FA UA w a blk FS US k1 k2 k3;obtain⟨v,U,h1,h2,h3⟩:=WR k1 hs;have hr:=h1 w (λr _=>⟨λ_ _=>rfl,λ_ _=>rfl⟩);simp only [wpStill,C5 k1 hg,Cc,Oper.still,hr,Oper.stillUpon_value];rw [hd];refine h _ _ _ _ _ _ _ _ (k1.put hN h2 (On k1 h3 _)) ?_ ?_
 ·rw [Bt (by simp),k2]
 rw [Bt (by simp),k3]
theorem ADd {d:Nat} (hd:o.dst=some d) (hN:d<N) (hg:B7 P ops E o=some false) (h:HW P N ops rest (E.put (some d) (.tup [])) K):HW P N ops (o::rest) E K:=by
 intro w0 FA UA w a blk FS US hr hF hU;simp only [wpStill,C5 hr hg];rw [A5 (by simp),hd];refine h _ _ _ _ _ _ _ _ (hr.put (F:=[]) (U:=[]) hN (by simp only [E8];exact⟨[],rfl,by simp [NO]⟩) cM.none) ?_ ?_
 ·rw [Bt (by simp),hF]
 rw [Bt (by simp),hU]
theorem AFQ {l:List Oper} (t:Nat) {b:Bool} (_:E.cell1 P 0 (.tmp t)=some (.bool b)) (ht:b=true->HW P N ops l E K) (hf:b=false->HW P N ops l E K):HW P N ops l E K:=by
 cases b
 ·exact hf rfl
 exact ht rfl
theorem So {id:Nat} {l:List Oper} (hm:P.follows .mixedOrders=true) (hB:Region.lexB .any l.toArray=true) (h:HW P N l.toArray l E (λE'=>Q .normal E')):Wp P N (.region id l.toArray true) E Q:=by
 intro w0 FA UA w a blk FS US k1 k2 k3;obtain⟨FS',US',m1,m2,m3⟩:=k1.drop (w':={w with drawn:=w.drawn+1}) (A0 _) rfl rfl rfl (λ_ _ _=>rfl);exact wp_region_still_lit hm hB (h _ _ _ _ _ _ _ _ m1 m2 m3)
theorem O0 {Q1 Q2:Act->Prop} (hq:∀a,Q1 a->Q2 a):∀{l:List Oper} {a:Act},wpStill P ops w Q1 l a->wpStill P ops w Q2 l a
 |[],a,h=>hq a h
 |o::l,a,h=>by
  simp only [wpStill]at h⊢;split
  ·rename_i hw;rw [A4 hw]at h;exact Oper.still_mono (λa k=>O0 hq k) h
  rename_i hw;rw [A5 hw]at h;exact O0 hq h
theorem xZ {id:Nat} {l:List Oper} (n:Nat) (hm:P.follows .mixedOrders=true) (hB:Region.lexTailB .any l.toArray n=true) (h:HW P N l.toArray (l.take n) E (λE'=>AC P N l.toArray (l.drop n) E' Q)):Wp P N (.region id l.toArray true) E Q:=by
 intro w0 FA UA w a blk FS US k1 k2 k3;obtain⟨FS',US',m1,m2,m3⟩:=k1.drop (w':={w with drawn:=w.drawn+1}) (A0 _) rfl rfl rfl (λ_ _ _=>rfl);refine wp_region_still_tail n hm hB (O0 ?_ (h _ _ _ _ _ _ _ _ m1 m2 m3));rintro a' ⟨E',blk',FS2,US2,h1,h2,h3,h4⟩;exact h1 _ _ _ _ _ _ _ _ h2 h3 h4
end
end Go.TI
namespace Go.TI
open Go Go.RowKit
def AT {α:Type} (f:α->List TV) (l:List α):List TV:=(l.map f).flatten
def gi {α:Type} (l:List α) (i:Int):Option α:=if 0<=i then l[i.toNat]? else none
def si {α:Type} (l:List α) (i:Int) (x:α):List α:=l.set i.toNat x
def ln {α:Type} (l:List α):Int:=(l.length:Nat)
section
variable {α:Type} {f:α->List TV} {sz:Nat}
theorem Gf (hf:∀x,(f x).length=sz):∀l:List α,(AT f l).length=l.length*sz
 |[]=>by simp [AT]
 |x::l=>by
  have:=Gf hf l;simp only [AT,BV,Su,Ag,Ay,hf]at this⊢;rw [this,EH,Na]
theorem G7 (x:α) (l:List α):AT f (x::l)=f x++AT f l:=rfl
theorem Va (l m:List α):AT f (l++m)=AT f l++AT f m:=by simp [AT]
theorem Rc {l:List α} {i:Int} {x:α} (h:gi l i=some x):0<=i/\i.toNat<l.length/\l[i.toNat]?=some x:=by
 unfold gi at h;split at h
 ·exact⟨by assumption,(Ah.1 h).1,h⟩
 cases h
theorem Mt (hf:∀x,(f x).length=sz):∀(l:List α) (n:Nat),(AT f l).drop (n*sz)=AT f (l.drop n)
 |l,0=>by simp
 |[],n+1=>by simp [AT]
 |x::l,n+1=>by
  rw [G7,List.drop_succ_cons,<-Mt hf l n,EH,Na,<-CE,ES (hf x)]
theorem ACG (hf:∀x,(f x).length=sz) {l:List α} {i:Int} {x:α} (h:gi l i=some x):((AT f l).drop (i.toNat*sz)).take sz=f x:=by
 obtain⟨_,h1,h2⟩:=Rc h;rw [Mt hf,Bh h1,G7,PB (hf _)];rw [Ab h1]at h2
 injection h2 with h2
 rw [h2]
theorem N2 (hf:∀x,(f x).length=sz) {l:List α} {i:Int} {x:α} (h:gi l i=some x) {k:Nat} (hk:k<sz):(AT f l)[i.toNat*sz+k]?=(f x)[k]? :=by
 rw [<-ACG hf h,Ck,A4 hk,Cl]
theorem mR (hf:∀x,(f x).length=sz) {l:List α} {i:Int} {x:α} (h:gi l i=some x):(i.toNat+1)*sz<=(AT f l).length:=by
 rw [Gf hf];exact Cv _ (Rc h).2.1
theorem PR (hf:∀x,(f x).length=sz):∀(l:List α) (n:Nat) (y:List TV) (z:α) {k:Nat} {x:α},l[n]?=some x->k+y.length<=sz->setRow (f x) k y=f z->setRow (AT f l) (n*sz+k) y=AT f (l.set n z)
 |[],n,y,z,k,x,h,_,_=>by simp at h
 |x0::l,0,y,z,k,x,h,hk,he=>by
  simp at h;subst h;rw [DD,G7,G7,<-he];have h1:=hf x0;simp only [setRow,Nat.zero_mul,KG];rw [I8 (by omega),List.drop_append_of_le_length (by omega)];simp
 |x0::l,n+1,y,z,k,x,h,hk,he=>by
  have ih:=PR hf l n y z (by simpa using h) hk he;rw [Mh,G7,G7,<-ih];have h1:=hf x0;simp only [setRow,EH];rw [show n*sz+sz+k=(f x0).length+(n*sz+k) by omega,F7,List.take_append,List.drop_append,Bb (by omega),CP (by omega)];simp
theorem TA (hf:∀x,(f x).length=sz) {l:List α} {i:Int} {x z:α} (h:gi l i=some x) {k:Nat} {y:List TV} (hk:Nat.ble (k+y.length) sz=true) (he:setRow (f x) k y=f z):setRow (AT f l) (i.toNat*sz+k) y=AT f (si l i z):=
 PR hf l _ y z (Rc h).2.2 (by simpa [Rs]using hk) he
theorem oB (hf:∀x,(f x).length=sz) {l:List α} {n:Nat} {x z:α} (h:l[n]?=some x) {k:Nat} {t:TV} (hk:k<sz) (he:(f x).set k t=f z):(AT f l).set (n*sz+k) t=AT f (l.set n z):=by
 have hl:(n*sz+k)<(AT f l).length:=by
  rw [Gf hf];have:=(Ah.1 h).1;have:(n+1)*sz<=l.length*sz:=Cv _ this;rw [EH]at this;omega
 have a:∀{c:List TV} {m:Nat},m<c.length->c.set m t=setRow c m [t]:=by
  intro c m hm;rw [List.set_eq_take_append_cons_drop,A4 hm];simp [setRow]
 rw [a hl];refine PR hf l n [t] z h hk ?_;rw [<-a (by rw [hf];exact hk)];exact he
theorem AAl (hf:∀x,(f x).length=sz) {l:List α} {i:Int} {x:α} (h:gi l i=some x) {k:Nat} (hk:k<sz) {q:List Nat}:BY (AT f l) ((i.toNat*sz+k)::q)=BY (f x) (k::q):=by
 simp only [BY,N2 hf h hk]
theorem ADJ (hf:∀x,(f x).length=sz) {l:List α} {i:Int} {x:α} (h:gi l i=some x) {k:Nat} (hk:k<sz) {q:List Nat}:L5 (AT f l) ((i.toNat*sz+k)::q)=L5 (f x) (k::q):=by
 simp only [L5,N2 hf h hk]
theorem ADv (hf:∀x,(f x).length=sz) {l:List α} {i:Int} {x z:α} (h:gi l i=some x) {k:Nat} (hk:k<sz) {q:List Nat} {g:List TV->List TV} (he:D5 (f x) (k::q) g=f z):D5 (AT f l) ((i.toNat*sz+k)::q) g=AT f (si l i z):=by
 rw [D5]at he⊢;rw [N2 hf h hk];split
 ·rename_i o e sz' cells hc;rw [hc]at he;exact oB hf (Rc h).2.2 hk he
 rename_i hc;split at he
 ·rename_i o e sz' cells a;exact absurd a (hc _ _ _ _)
 have:(AT f l).set (i.toNat*sz+k) ((f x)[k]?.getD .junk)=AT f (si l i z):=by
  refine oB hf (Rc h).2.2 hk ?_;rw [<-he];have:k<(f x).length:=by rw [hf];exact hk
  rw [Ab this];simp
 rw [<-this];have h2:=N2 hf h hk;have h3:k<(f x).length:=by rw [hf];exact hk
 rw [Ab h3]at h2⊢;exact(NR h2).symm
end
end Go.TI
namespace Go.TI
open Go Go.RowKit
abbrev I (n:Int):SV:= .one (.int .i64 n)
abbrev B (b:Bool):SV:= .one (.bool b)
abbrev Y (s:ByteArray):SV:= .one (.str s)
def OQ {S α:Type} (body:S->Option (S⊕α)):Nat->S->Option α
 |0,_=>none
 |n+1,s=>match body s with
  |none=>none
  |some (.inl s')=>OQ body n s'
  |some (.inr a)=>some a
theorem TO {S α:Type} {body:S->Option (S⊕α)} {a:α}:∀{n m:Nat} {s:S},OQ body n s=some a->n<=m->OQ body m s=some a
 |0,_,_,h,_=>by cases h
 |n+1,0,_,_,h=>by omega
 |n+1,m+1,s,h,hm=>by
  simp only [OQ]at h⊢;split at h
  ·cases h
  ·exact TO h (by omega)
  exact h
open Classical in
noncomputable def Av {S α:Type} (body:S->Option (S⊕α)) (s:S):Option α:=
 if h:∃a n,OQ body n s=some a then some h.choose else none
theorem Hn {S α:Type} {body:S->Option (S⊕α)} {s:S} {a:α}:Av body s=some a↔∃n,OQ body n s=some a:=by
 unfold Av;constructor
 ·intro h;split at h
  ·rename_i he
   injection h with h
   rw [<-h];exact he.choose_spec
  cases h
 rintro⟨n,h⟩;have he:∃a n,OQ body n s=some a:=⟨a,n,h⟩;rw [dif_pos he];obtain⟨m,hm⟩:=he.choose_spec;have h1:=TO hm (Nat.le_max_left m n);have h2:=TO h (Nat.le_max_right m n);rw [h1]at h2;exact h2
theorem A6 {S α:Type} (body:S->Option (S⊕α)) (s:S):Av body s=match body s with
  |none=>none
  |some (.inl s')=>Av body s'
  |some (.inr a)=>some a:=by
 have key:∀a,Av body s=some a↔(match body s with|none=>none|some (.inl s')=>Av body s'|some (.inr a)=>some a)=some a:=by
  intro a;rw [Hn];constructor
  ·rintro⟨n,h⟩
   cases n with
   |zero=>cases h
   |succ n=>
    simp only [OQ]at h;split at h
    ·cases h
    ·rename_i s' hb;exact Hn.2 ⟨n,h⟩
    rename_i a' hb;simpa only [hb]using h
  intro h;split at h
  ·cases h
  ·rename_i s' hb;obtain⟨n,hn⟩:=Hn.1 h;exact⟨n+1,by simp only [OQ,hb];exact hn⟩
  rename_i a' hb;exact⟨1,by simp only [OQ,hb];exact h⟩
 cases hx:Av body s with
 |some a=>exact((key a).1 hx).symm
 |none=>
  cases hy:(match body s with|none=>none|some (.inl s')=>Av body s'|some (.inr a)=>some a:Option α)with
  |none=>rfl
  |some a=>rw [(key a).2 hy]at hx;cases hx
def nt (ls:List Nat) (bs:List Root) (E E':St):Prop:=bs.all (λr=>r.mem&&(E.boxes r).isSome)=true/\FI E ls bs=E'
def mvs (E:St) (l:List (Root×List TV)):St:=l.foldl (λE x=>(E.setRoot x.1 x.2).bump x.1) E
def St.rs (E:St) (t:Nat) (b:Bool):St:={E with slots:=Cp E.slots t (B b)}
theorem dM {E:St} {t:Nat} {b:Bool} (h:E.slots t=B b):E.rs t b=E:=by
 have:Cp E.slots t (B b)=E.slots:=by
  funext n;simp only [Cp];split
  ·rename_i hn;rw [hn,h]
  rfl
 unfold St.rs;rw [this]
section
variable {P:Program} {N:Nat} {E:St} {ops:Array Oper} {oo:Oper} {rest l:List Oper} {Q:Exit->St->Prop} {α β:Type} {r:β}
theorem AC.o (d:Nat) (s:SV) (h:AC P N ops rest (E.put (some d) s) Q) (hs:C7 P N false E oo=some (E.put (some d) s):=by rfl) (hg:B7 P ops E oo=some true:=by rfl):AC P N ops (oo::rest) E Q:=AC.op false hg hs h
theorem IX (d:Nat) (h:AC P N ops rest (E.put (some d) (.tup [])) Q) (hd:oo.dst=some d:=by rfl) (hN:Nat.blt d N=true:=by rfl) (hg:B7 P ops E oo=some false:=by rfl):AC P N ops (oo::rest) E Q:=tM hd (by simpa [Bz]using hN) hg h
theorem fF (m:List (Root×List TV)) (d:Nat) (xs:List TV) (h:AC P N ops rest ((mvs E m).newBox d xs) Q) (hs:C7 P N false E oo=some ((mvs E m).newBox d xs):=by rfl) (hg:B7 P ops E oo=some true:=by rfl):AC P N ops (oo::rest) E Q:=AC.op false hg hs h
theorem AHa (mv:Bool) (m:List (Root×List TV)) (d:Nat) (s:SV) (h:AC P N ops rest ((mvs E m).put (some d) s) Q) (hs:C7 P N mv E oo=some ((mvs E m).put (some d) s):=by rfl) (hg:B7 P ops E oo=some true:=by rfl):AC P N ops (oo::rest) E Q:=AC.op mv hg hs h
theorem AGo {x:Option α} {k:α->Option β} (h:x.bind k=some r) (d:Nat) (f:α->SV) (hk:∀a,x=some a->k a=some r->AC P N ops rest (E.put (some d) (f a)) Q) (hs:∀a,x=some a->C7 P N false E oo=some (E.put (some d) (f a))) (hg:B7 P ops E oo=some true:=by rfl):AC P N ops (oo::rest) E Q:=by
 obtain⟨a,ha,h⟩:=Ar.1 h;exact AC.op false hg (hs a ha) (hk a ha h)
theorem Zu {tx ty:Option β} {b:Bool} (h:(bif b then tx else ty)=some r) (t:Nat) (ht:tx=some r->AC P N ops l (E.rs t true) Q) (hf:ty=some r->AC P N ops l (E.rs t false) Q) (hc:E.slots t=B b:=by rfl):AC P N ops l E Q:=by
 cases b
 ·rw [dM hc]at hf;exact hf h
 rw [dM hc]at ht;exact ht h
theorem Wp.c {c:Operand} {x y:Code} {tx ty:Option β} {b:Bool} (h:(bif b then tx else ty)=some r) (ht:tx=some r->Wp P N x E Q) (hf:ty=some r->Wp P N y E Q) (hc:E.cell1 P 0 c=some (.bool b):=by rfl):Wp P N (.cond c x y) E Q:=by
 refine Wp.cond hc (λhb=>?_) (λhb=>?_)
 ·subst hb;exact ht h
 subst hb;exact hf h
theorem AGm {c:Operand} {x y:Code} (ht:Wp P N x E Q) (hc:E.cell1 P 0 c=some (.bool true):=by rfl):Wp P N (.cond c x y) E Q:=Wp.cond hc (λ_=>ht) (λh=>by cases h)
theorem AC9 {c:Operand} {x y:Code} (hf:Wp P N y E Q) (hc:E.cell1 P 0 c=some (.bool false):=by rfl):Wp P N (.cond c x y) E Q:=Wp.cond hc (λh=>by cases h) (λ_=>hf)
def jQ {V:Type} (ls:List Nat) (bs:List Root) (H:V->St) (v:Option V) (Q:Exit->St->Prop):Exit->St->Prop
 | .normal,E=>∃a,v=some a/\nt ls bs E (H a)
 |e,E=>Q e E
theorem AY {c:Code} {E':St} {ls:List Nat} {bs:List Root} (h:nt ls bs E E') (hw:Wp P N c E' Q):Wp P N c E Q:=Wp.norm ls bs E' h.1 h.2 hw
theorem Hc {V:Type} {c:Code} {x:Option V} {k:V->Option β} (h:x.bind k=some r) (ls:List Nat) (bs:List Root) (H:V->St)
  (h1:∀a,x=some a->Wp P N c E (jQ ls bs H (some a) Q)) (h2:∀a,k a=some r->∀E',nt ls bs E' (H a)->Q .normal E'):Wp P N c E Q:=by
 obtain⟨a,ha,h⟩:=Ar.1 h
 refine Wp.mono (h1 a ha) λe E' hq=>?_
 cases e<;>try exact hq
 obtain⟨a',h3,h4⟩:=hq
 injection h3 with h3
 subst h3;exact h2 a h E' h4
theorem AAp {V W:Type} {c:Code} {x:Option (V⊕W)} {k:V⊕W->Option β} (h:x.bind k=some r) (ls:List Nat) (bs:List Root) (H:V->St)
  (h1:∀a,x=some a->k a=some r->Wp P N c E (jQ ls bs H a.getLeft? Q)) (h2:∀a,k (.inl a)=some r->∀E',nt ls bs E' (H a)->Q .normal E'):Wp P N c E Q:=by
 obtain⟨a,ha,h⟩:=Ar.1 h
 refine Wp.mono (h1 a ha h) λe E' hq=>?_
 cases e<;>try exact hq
 obtain⟨a',h3,h4⟩:=hq
 cases a with
 |inl a=>
  injection h3 with h3
  subst h3;exact h2 a h E' h4
 |inr w=>cases h3
def lQ {S V W:Type} (id:Nat) (ls:List Nat) (bs:List Root) (H:S->St) (ls2:List Nat) (bs2:List Root) (H2:V->St) (o:S⊕(V⊕W)) (Q:Exit->St->Prop):Exit->St->Prop
 | .normal,E=>∃s,o= .inl s/\nt ls bs E (H s)
 | .exit i,E=>if i=id then∃v,o= .inr (.inl v)/\nt ls2 bs2 E (H2 v)else Q (.exit i) E
 |e,E=>Q e E
theorem PY {S A:Type} {c:Code} {body:S->Option (S⊕A)} {ls:List Nat} {bs:List Root} {H:S->St} {a:A} {Q':Exit->St->Prop}
  (hb:∀s o,body s=some o->(∀a',o= .inr a'->a'=a)->Wp P N c (H s) (λe E=>match e with| .normal=>∃s,o= .inl s/\nt ls bs E (H s)|e=>Q' e E)):
  ∀{n:Nat} {s:S} {E:St},nt ls bs E (H s)->OQ body n s=some a->Zn P N c Q' n E
 |0,s,E,_,h=>by cases h
 |n+1,s,E,hn,h=>by
  simp only [OQ]at h;simp only [Zn];refine AY hn ?_;split at h
  ·cases h
  ·rename_i s' hs
   refine Wp.mono (hb s _ hs (λa' h=>by cases h)) λe E' hq=>?_
   cases e<;>try exact hq
   obtain⟨s2,h2,h3⟩:=hq
   injection h2 with h2
   subst h2;exact PY hb h3 h
  rename_i a' hs
  injection h with h
  refine Wp.mono (hb s _ hs (λa2 h2=>by injection h2 with h2;rw [<-h2,h])) λe E' hq=>?_
  cases e<;>try exact hq
  obtain⟨s2,h2,h3⟩:=hq;cases h2
theorem Er {S V W:Type} {c:Code} {id:Nat} {body:S->Option (S⊕(V⊕W))} {s0:S} {k:V⊕W->Option β} (h:(Av body s0).bind k=some r) (ls:List Nat) (bs:List Root) (H:S->St) (ls2:List Nat) (bs2:List Root) (H2:V->St)
  (h0:nt ls bs E (H s0)) (hb:∀s o,body s=some o->(∀w,o= .inr (.inr w)->k (.inr w)=some r)->Wp P N c (H s) (lQ id ls bs H ls2 bs2 H2 o Q)) (h2:∀v,k (.inl v)=some r->∀E',nt ls2 bs2 E' (H2 v)->Q .normal E'):
  Wp P N (.block id (.loop c)) E Q:=by
 obtain⟨a,ha,h⟩:=Ar.1 h;obtain⟨n,hn⟩:=Hn.1 ha;refine Wp.block (Wp.loop n (PY (ls:=ls) (bs:=bs) (H:=H) (a:=a) (λs o hs ho=>?_) h0 hn))
 refine Wp.mono (hb s o hs (λw hw=>by rw [ho _ hw];exact h)) λe E' hq=>?_
 cases e<;>try exact hq
 simp only [lQ]at hq;simp only [nC];split
 ·rename_i b;rw [A4 b]at hq;obtain⟨v,h3,h4⟩:=hq;have h5:=ho _ h3;subst h5;exact h2 v h E' h4
 rename_i b;rw [A5 b]at hq;exact hq
def lQ1 {S V:Type} (id:Nat) (ls:List Nat) (bs:List Root) (H:S->St) (ls2:List Nat) (bs2:List Root) (H2:V->St) (o:S⊕V) (Q:Exit->St->Prop):Exit->St->Prop
 | .normal,E=>∃s,o= .inl s/\nt ls bs E (H s)
 | .exit i,E=>if i=id then∃v,o= .inr v/\nt ls2 bs2 E (H2 v)else Q (.exit i) E
 |e,E=>Q e E
theorem BM {S V:Type} {c:Code} {id:Nat} {body:S->Option (S⊕V)} {s0:S} {k:V->Option β} (h:(Av body s0).bind k=some r) (ls:List Nat) (bs:List Root) (H:S->St) (ls2:List Nat) (bs2:List Root) (H2:V->St)
  (h0:nt ls bs E (H s0)) (hb:∀s o,body s=some o->Wp P N c (H s) (lQ1 id ls bs H ls2 bs2 H2 o Q)) (h2:∀v,k v=some r->∀E',nt ls2 bs2 E' (H2 v)->Q .normal E'):
  Wp P N (.block id (.loop c)) E Q:=by
 obtain⟨a,ha,h⟩:=Ar.1 h;obtain⟨n,hn⟩:=Hn.1 ha;refine Wp.block (Wp.loop n (PY (ls:=ls) (bs:=bs) (H:=H) (a:=a) (λs o hs ho=>?_) h0 hn))
 refine Wp.mono (hb s o hs) λe E' hq=>?_
 cases e<;>try exact hq
 simp only [lQ1]at hq;simp only [nC];split
 ·rename_i b;rw [A4 b]at hq;obtain⟨v,h3,h4⟩:=hq;have h5:=ho _ h3;subst h5;exact h2 v h E' h4
 rename_i b;rw [A5 b]at hq;exact hq
end
end Go.TI
namespace Go.TI
open Go Go.RowKit
def pk (o:Oper):Bool:=match o.op with
 | .nilCheck _| .pick .. | .binOp .. | .unOp .. | .convert .. | .fieldAddr .. | .indexAddr .. | .load .. | .index .. | .slice .. =>true
 | .call c=>match c.callee with
  | .builtin .len| .builtin .min| .builtin .max=>true
  |_=>false
 |_=>false
section
variable {P:Program} {N:Nat} {E:St} {o:Oper} {d:Nat} {s:SV}
theorem ABf {src dst:TypeId} {x:Operand} (ho:o.op= .convert src dst x) (hp:Bl P E o=some s):Rf P E d src dst x=none:=by
 unfold Bl at hp;simp only [ho]at hp;unfold Rf;split
 ·rename_i e hd;split
  ·rename_i b hs hb;simp only [hd,hs,hb]at hp;cases hp
  rfl
 rfl
theorem fQ (hp:Bl P E o=some s) (hd:o.dst=some d:=by rfl) (hN:Nat.blt d N=true:=by rfl) (hk:pk o=true:=by rfl):C7 P N false E o=some (E.put (some d) s):=by
 have hN':d<N:=by simpa [Bz]using hN
 unfold pk at hk;unfold C7;rw [hd];simp only [A4 hN'];split at hk<;>rename_i ho<;>try (cases hk;done)
 all_goals first|(simp only [ho,ABf ho hp,hp,Bv];done)|simp only [ho,hp,Bv]
 rename_i c;split at hk<;>rename_i hc<;>try (cases hk;done)
 all_goals simp only [hc,Bv]
theorem zD (hp:Bl P E o=some s) (hk:pk o=true:=by rfl):IM P E o=some s:=by
 unfold pk at hk;unfold IM;split at hk<;>rename_i ho<;>try (cases hk;done)
 all_goals simp only [ho];exact hp
section
variable {α:Type} {f:α->List TV} {sz:Nat} {l:List α} {n:Int} {x:α}
theorem AF6 (hf:∀x,(f x).length=sz) (r:Root) (q:List Nat) (j:Nat) (hx:gi l n=some x) {t e e':TypeId} {a i:Operand} {own:Bool} {k:IntKind} (hp:E.place r q j=some (.sl own e' sz (AT f l)):=by rfl)
  (ho:o.op= .indexAddr t a i:=by rfl) (ht:P.underlying t=some (.slice e):=by rfl) (hi:E.cell1 P 0 i=some (.int k n):=by rfl) (hr:E.ref a=some (r,q,j):=by rfl)
  (b:P.cellsOf e=sz:=by rfl) (h0:Nat.blt 0 sz=true:=by rfl):Bl P E o=some (.one (.ptr r (E.ver r) (q++ [j]) (n.toNat*sz+0))):=by
 have h0':0<sz:=by simpa [Bz]using h0
 simp only [Bl,ho,ht,hi,hr,hp];rw [A4 ⟨b.symm,h0',(Rc hx).1,mR hf hx⟩];rfl
theorem AGQ (hf:∀x,(f x).length=sz) (r:Root) (q:List Nat) (k:Nat) (hx:gi l n=some x) {st:TypeId} {a:Operand} {fl:Nat} {fs:Array Field} {fd:Field} (hr:(E.root r).bind (λcs=>BY cs q)=some (AT f l):=by rfl)
  (ho:o.op= .fieldAddr st a fl:=by rfl) (hs:P.underlying st=some (.struct fs):=by rfl) (hp:E.ptr? a=some (r,q,n.toNat*sz+k):=by rfl) (b:fs[fl]?=some fd:=by rfl) (hc:Nat.beq (P.cellsOf fd.type) 0=false:=by rfl)
  {m:Nat} (hm:k+fd.offset=m:=by rfl) (hk:Nat.blt (k+fd.offset) sz=true:=by rfl):Bl P E o=some (.one (.ptr r (E.stamp r q) q (n.toNat*sz+m))):=by
 subst hm;have hc':P.cellsOf fd.type≠0:=by intro h;rw [h]at hc;cases hc
 have hk':k+fd.offset<sz:=by simpa [Bz]using hk
 have c:(E.place r q (n.toNat*sz+k+fd.offset)).isSome=true:=by
  obtain⟨cs,h1,h2⟩:=Ar.1 hr;simp only [St.place,h1,Aa,h2,F7,N2 hf hx hk'];rw [Ab (by rw [hf];exact hk')];rfl
 simp only [Bl,ho,hs,hp,b];rw [A5 hc',A4 c,F7]
theorem AGP (hf:∀x,(f x).length=sz) (r:Root) (q:List Nat) (k:Nat) (u:TV) (hx:gi l n=some x) {t:TypeId} {a:Operand} (hr:(E.root r).bind (λcs=>BY cs q)=some (AT f l):=by rfl)
  (ho:o.op= .load t a:=by rfl) (hp:E.ptr? a=some (r,q,n.toNat*sz+k):=by rfl) (ha:cG P t=false:=by rfl) (h1:P.cellsOf t=1:=by rfl) (hu:(P.underlying t).isSome=true:=by rfl) (hk:Nat.blt k sz=true:=by rfl)
  (hj:(f x)[k]?=some u:=by rfl):Bl P E o=some (.one (see E r q (n.toNat*sz+k) u)):=by
 have hk':k<sz:=by simpa [Bz]using hk
 have b:=mR hf hx;rw [EH]at b;simp only [Bl,ho,hp,hr,ha,h1];rw [A4 (by omega),A5 (by simp),A4 ⟨trivial,hu⟩,N2 hf hx hk',hj];rfl
theorem AGO (hf:∀x,(f x).length=sz) (r:Root) (q:List Nat) (k m:Nat) (hx:gi l n=some x) {t:TypeId} {a:Operand} (hr:(E.root r).bind (λcs=>BY cs q)=some (AT f l):=by rfl)
  (ho:o.op= .load t a:=by rfl) (hp:E.ptr? a=some (r,q,n.toNat*sz+k):=by rfl) (ha:cG P t=true:=by rfl) (h1:P.cellsOf t=m:=by rfl) (hk:Nat.ble (k+m) sz=true:=by rfl):Bl P E o=some (.agg (SC E r q (n.toNat*sz+k) (((f x).drop k).take m))):=by
 have hk':k+m<=sz:=by simpa [Rs]using hk
 have b:=mR hf hx;rw [EH]at b;simp only [Bl,ho,hp,hr,ha,h1];rw [A4 (by omega),A4 trivial,<-ACG hf hx,List.drop_take,List.take_take,Nat.min_eq_left (by omega),CE]
theorem AF5 (hf:∀x,(f x).length=sz) (l:List α) {t e e':TypeId} {a:Operand} {own:Bool} {r:Root} {q:List Nat} {j:Nat} (ho:o.op= .call {callee:= .builtin .len,args:= #[a],argTypes:= #[t]}:=by rfl) (ht:P.underlying t=some (.slice e):=by rfl) (hr:E.ref a=some (r,q,j):=by rfl)
  (hp:E.place r q j=some (.sl own e' sz (AT f l)):=by rfl) (h0:Nat.blt 0 sz=true:=by rfl):Bl P E o=some (.one (.int .i64 (ln l))):=by
 have h0':0<sz:=by simpa [Bz]using h0
 have:(AT f l).length/sz=l.length:=by rw [Gf hf];exact Fk _ h0'
 simp only [Bl,ho,N6,ht,St.sliceCells,hr,hp];rw [A4 h0',this];rfl
end
def sx (s:ByteArray) (i:Int):Option Int:=if 0<=i/\i<s.size then some (Bl.bt s i)else none
def sub (s:ByteArray) (l h:Int):Option ByteArray:=if 0<=l/\l<=h/\h<=s.size then some (s.extract l.toNat h.toNat)else none
def HU (a b:ByteArray):Option ByteArray:=if((a.size+b.size:Nat):Int)>9223372036854775807 then none else some (a++b)
def FJ (s:ByteArray):Int:=(s.size:Nat)
def seq (a b:ByteArray):Bool:=a.toList==b.toList
theorem AF2 {s:ByteArray} {n b:Int} (h:sx s n=some b) {t:TypeId} {a i:Operand} {k:IntKind} (ho:o.op= .index t a i:=by rfl) (ht:P.underlying t=some .string:=by rfl) (ha:E.cell1 P t a=some (.str s):=by rfl) (hi:E.cell1 P 0 i=some (.int k n):=by rfl):
  Bl P E o=some (.one (.int .u8 b)):=by
 unfold sx at h;split at h
 ·rename_i hc
  injection h with h
  simp only [Bl,ho,ht,ha,hi];rw [A4 hc,h]
 cases h
theorem AF3 {s u:ByteArray} {l h:Int} (hx:sub s l h=some u) {t:TypeId} {a:Operand} {lo hi:Option Operand} {k k':IntKind} (ho:o.op= .slice t a lo hi none:=by rfl) (ht:P.underlying t=some .string:=by rfl) (ha:E.cell1 P t a=some (.str s):=by rfl)
  (hl:(match lo with|some o=>E.cell1 P 0 o|none=>some (.int .i64 0))=some (.int k l):=by rfl) (hh:(match hi with|some o=>E.cell1 P 0 o|none=>some (.int .i64 s.size))=some (.int k' h):=by rfl):
  Bl P E o=some (.one (.str u)):=by
 unfold sub at hx;split at hx
 ·rename_i hc
  injection hx with hx
  have fin:(if 0<=l/\l<=h/\h<=(s.size:Int)then some (SV.one (.str (s.extract l.toNat h.toNat)))else none)=some (.one (.str u)):=by rw [A4 hc,hx]
  cases lo with
  |none=>
   injection hl with hl
   injection hl with _ hl
   subst hl
   cases hi with
   |none=>
    injection hh with hh
    injection hh with _ hh
    subst hh;simpa only [Bl,ho,ht,ha]using fin
   |some y=>
    have hh':E.cell1 P 0 y=some (.int k' h):=hh;simpa only [Bl,ho,ht,ha,hh']using fin
  |some z=>
   have hl':E.cell1 P 0 z=some (.int k l):=hl
   cases hi with
   |none=>
    injection hh with hh
    injection hh with _ hh
    subst hh;simpa only [Bl,ho,ht,ha,hl']using fin
   |some y=>
    have hh':E.cell1 P 0 y=some (.int k' h):=hh;simpa only [Bl,ho,ht,ha,hl',hh']using fin
 cases hx
theorem AF8 {a b u:ByteArray} (hx:HU a b=some u) {t t':TypeId} {x y:Operand} (ho:o.op= .binOp .add t x y t':=by rfl) (ha:E.cell1 P t x=some (.str a):=by rfl) (hb:E.cell1 P t y=some (.str b):=by rfl):
  Bl P E o=some (.one (.str u)):=by
 unfold HU at hx;split at hx
 ·cases hx
 rename_i hc
 injection hx with hx
 simp only [Bl,ho,ha,hb,Uo,Cc,Vf];rw [A5 hc,hx];rfl
end
end Go.TI
namespace Go.TI
open Go Go.RowKit
def ID (cs:List TV):Bool:=cs.all λt=>match t with
 | .int .. | .bool _| .str _| .sl false .. =>true
 |_=>false
theorem WW {E:St} {r:Root} {q:List Nat}:∀{cs:List TV} (c:Nat),ID cs=true->SC E r q c cs=cs
 |[],c,h=>rfl
 |t::ts,c,h=>by
  simp only [ID,EG,An]at h;have ih:=WW (E:=E) (r:=r) (q:=q) (c+1) (show ID ts=true from h.2);simp only [SC,ih]
  cases t with
  |sl o e sz cells=>cases o<;>first|rfl|(have:=h.1;simp at this)
  |_=>rfl
theorem P5 {E:St}:∀{cs:List TV},ID cs=true->Ff E cs=some (cs,E)
 |[],h=>rfl
 |t::ts,h=>by
  simp only [ID,EG,An]at h;have ih:=P5 (E:=E) (show ID ts=true from h.2);have h1:=h.1;have hr:∀E1 E2 t,(∀r v q j,t≠ .view r v q j)->List.map (rst E1 E2 t) ts=ts:=by
   intro E1 E2 t ht;have:rst E1 E2 t=id:=by
    funext u;cases t<;>first|rfl|exact absurd rfl (ht _ _ _ _)
   rw [this,Sr]
  rw [PI];cases t<;>simp only [D6]<;>first|(rw [hr _ _ _ (by intros;simp)];simp only [ih])|(simp at h1;done)
theorem RR {α:Type} {f:α->List TV} (hf:∀x,ID (f x)=true):∀l:List α,ID (AT f l)=true
 |[]=>rfl
 |x::l=>by
  have:=RR hf l;rw [G7];unfold ID at*;rw [List.all_append,hf,this];rfl
def ap {α:Type} (by_:Nat) (l m:List α):Option (List α):=if(l.length+m.length)*by_<=140737488355328 then some (l++m)else none
def mk {α:Type} (by_:Nat) (z:α) (n:Int):Option (List α):=if 0<=n/\(by_:Int)*n<=281474976710656/\n<=9223372036854775807 then some (List.replicate n.toNat z)else none
section
variable {P:Program} {N:Nat} {E:St} {o:Oper} {d:Nat} {α β:Type} {f:α->List TV} {sz:Nat}
theorem AEn {by_:Nat} {l m u:List α} (h:ap by_ l m=some u):u=l++m/\(l.length+m.length)*by_<=140737488355328:=by
 unfold ap at h;split at h
 ·injection h with h;exact⟨h.symm,by assumption⟩
 cases h
theorem Qb {z:α} {zs:List TV} (h:f z=zs):∀n,(List.replicate n zs).flatten=AT f (List.replicate n z)
 |0=>rfl
 |n+1=>by rw [EP,Su,Qb h n,EP,G7,h]
theorem AGI (z:α) {by_:Nat} {n:Int} {u:List α} (h:mk by_ z n=some u) {t e:TypeId} {l c:Operand} {kl kc:IntKind} {zs:List TV} (ho:o.op= .makeSlice t l c:=by rfl) (hd:o.dst=some d:=by rfl) (hN:Nat.blt d N=true:=by rfl) (ht:P.underlying t=some (.slice e):=by rfl)
  (hl:E.cell1 P 0 l=some (.int kl n):=by rfl) (hc:E.cell1 P 0 c=some (.int kc n):=by rfl) (hz:KK P e=some zs:=by rfl) (hfz:f z=zs:=by rfl) (hb:P.bytesOf e=by_:=by rfl) (b:P.cellsOf e=sz:=by rfl):
  C7 P N false E o=some (E.put (some d) (.one (.sl true e sz (AT f u)))):=by
 have hN':d<N:=by simpa [Bz]using hN
 unfold mk at h;split at h
 ·rename_i a
  injection h with h
  subst h;unfold C7;rw [hd];simp only [A4 hN',ho,Ww,ht,hl,hc,hz];rw [A4 ⟨trivial,a.1,by rw [hb];exact a.2.1,a.2.2⟩,Qb hfz,b]
 cases h
structure At (cs:List TV) (q:List Nat) (row:List TV) (g:List TV->List TV) (cs':List TV):Prop where
 c:BY cs q=some row
 o:L5 cs q=true
 u:D5 cs q g=cs'
theorem At.one {cs row:List TV} {c:Nat} {e s:Nat} {g:List TV->List TV} {row' cs':List TV} (h:g row=row') (hc:cs[c]?=some (.sl true e s row):=by rfl) (hs:cs.set c (.sl true e s row')=cs':=by rfl):At cs [c] row g cs':=
 ⟨by simp [BY,hc],by simp [L5,hc],by simp [D5,hc,h,hs]⟩
theorem AGq (hf:∀x,(f x).length=sz) {cs row:List TV} {c k:Nat} {q:List Nat} {e s:Nat} {g:List TV->List TV} {cs':List TV} {l:List α} {n:Int} {x z:α} (hx:gi l n=some x) (h:At (f x) (k::q) row g (f z))
  (hk:Nat.blt k sz=true:=by rfl) (hc:cs[c]?=some (.sl true e s (AT f l)):=by rfl) (hs:cs.set c (.sl true e s (AT f (si l n z)))=cs':=by rfl):At cs (c::(n.toNat*sz+k)::q) row g cs':=by
 have hk':k<sz:=by simpa [Bz]using hk
 refine⟨?_,?_,?_⟩
 ·rw [<-h.c,<-AAl hf hx hk'];simp only [BY,hc]
 ·rw [<-h.o,<-ADJ hf hx hk'];simp only [L5,hc,C8]
 rw [<-hs,<-ADv hf hx hk' h.u];simp only [D5,hc]
theorem AFr (hf:∀x,(f x).length=sz) {l:List α} {n:Int} {x:α} (hx:gi l n=some x) {k m:Nat} (hk:Nat.ble (k+m) sz=true):n.toNat*sz+k+m<=(AT f l).length:=by
 have:=mR hf hx;rw [EH]at this;have h1:k+m<=sz:=by simpa [Rs]using hk
 omega
end
section
variable {P:Program} {N:Nat} {E:St} {ops:Array Oper} {oo:Oper} {rest l:List Oper} {Q:Exit->St->Prop} {α β:Type} {r:β}
theorem AFI {x:Option α} {k:α->Option β} (h:x.bind k=some r) (d:Nat) (enc:α->SV) {f:FuncId} {args:Array Operand} {tys:Array TypeId} {fn:Func} {l:List AV} {n:Nat} {c:Bool}
  (ho:oo.op= .call {callee:= .value (.func f),args:=args,argTypes:=tys}) (a:H8 P E ((tys.toList.zip args.toList).map λ(t,x)=>(false,t,x)) (List.replicate args.size none)=some (l,c))
  (b:∀v,x=some v->AP P f l (enc v) (List.replicate n .gone)) (hc:c=true\/∀v,BD (enc v)=false) (hk:∀v,x=some v->k v=some r->AC P N ops rest (E.put (some d) (enc v)) Q)
  (hf : P.funcs[f]? = some fn := by rfl) (hn : (fn.name == "runtime.NumGoroutine") = false := by rfl) (hb : fn.body.isNone = false := by rfl) (hd : oo.dst = some d := by rfl) (hN : Nat.blt d N = true := by rfl) (hz : tys.size = args.size := by rfl) (hg : B7 P ops E oo = some true := by rfl) : AC P N ops (oo :: rest) E Q := by
 obtain⟨v,hv,h⟩:=Ar.1 h;refine ABn ho hf ?_ hb hg hd ?_ hz (b v hv) a ?_ (hk v hv h)
 ·intro e;rw [e]at hn;simp at hn
 ·simpa [Bz]using hN
 rcases hc with hc|hc
 ·exact .inl hc
 exact .inr (hc v)
end
end Go.TI
namespace Go.TI
open Go Go.RowKit
def SV.comps:SV->List SV
 | .tup ss=>ss
 |_=>[]
def St.ex (E:St) (n ix:Nat):St:={E with slots:=Cp E.slots n (.tup ((E.slots n).comps.set ix (.one .junk)))}
section
variable {P:Program} {N:Nat} {E:St} {ops:Array Oper} {oo:Oper} {rest l:List Oper} {Q:Exit->St->Prop} {K:St->Prop} {α β:Type} {r:β}
theorem AHb (n ix d:Nat) (s:SV) (h:AC P N ops rest ((E.ex n ix).put (some d) s) Q) (hs:C7 P N false E oo=some ((E.ex n ix).put (some d) s):=by rfl) (hg:B7 P ops E oo=some true:=by rfl):AC P N ops (oo::rest) E Q:=AC.op false hg hs h
theorem HW.o (d:Nat) (s:SV) (h:HW P N ops rest (E.put (some d) s) K) (hs:IM P E oo=some s:=by rfl) (hg:B7 P ops E oo=some true:=by rfl) (hd:oo.dst=some d:=by rfl) (hN:Nat.blt d N=true:=by rfl):HW P N ops (oo::rest) E K:=
 HW.op s hg hd (by simpa [Bz]using hN) hs h
theorem AFz {tx ty:Option β} {b:Bool} (h:(bif b then tx else ty)=some r) (t:Nat) (ht:tx=some r->HW P N ops l (E.rs t true) K) (hf:ty=some r->HW P N ops l (E.rs t false) K) (hc:E.slots t=B b:=by rfl):HW P N ops l E K:=by
 cases b
 ·rw [dM hc]at hf;exact hf h
 rw [dM hc]at ht;exact ht h
end
theorem DJ {α:Type} {f g:α->List TV} (h:∀x,BK (f x)=g x):∀l:List α,BK (AT f l)=AT g l
 |[]=>rfl
 |x::l=>by
  have c:∀a b:List TV,BK (a++b)=BK a++BK b:=by
   intro a b
   induction a with
   |nil=>rfl
   |cons t ts ih=>simp only [BB,BK,ih]
  rw [G7,G7,c,h,DJ h l]
theorem KP {α:Type} {f:α->List TV} (h:∀x,AR (f x)=false):∀l:List α,AR (AT f l)=false
 |[]=>rfl
 |x::l=>by
  have c:∀a b:List TV,AR (a++b)=(AR a||AR b):=by
   intro a b
   induction a with
   |nil=>rfl
   |cons t ts ih=>simp only [BB,AR,ih,Bool.or_assoc]
  rw [G7,c,h,KP h l];rfl
def ad (a b:Int):Int:=IntKind.i64.wrap (a+b)
def sb (a b:Int):Int:=IntKind.i64.wrap (a-b)
def ml (a b:Int):Int:=IntKind.i64.wrap (a*b)
def qu (a b:Int):Int:=IntKind.i64.wrap (a.tdiv b)
def xr (a b:Int):Int:=IntKind.u32.wrap (BitVec.ofInt 32 a^^^BitVec.ofInt 32 b).toNat
def an (a b:Int):Int:=IntKind.u32.wrap (BitVec.ofInt 32 a&&&BitVec.ofInt 32 b).toNat
def bs (l:List UInt8):ByteArray:=⟨l.toArray⟩
end Go.TI
namespace Go.TI
open Go Go.RowKit
section
variable {P:Program} {md:Region.Mode} {ops:Array Oper} {Q:Exit->Act->World->Prop} {T:Nat->Bool}
variable (P md ops Q T)in
def W7:Nat->Array Bool->Act->World->Prop
 |0,listed,a,w=>Region.ready md ops listed=[]/\Q .normal a w
 |fuel+1,listed,a,w=>
  (Region.ready md ops listed=[]->Q .normal a w)/\
  ∀i∈Region.ready md ops listed,wpOp P ops Q i (λa' w'=>(T i=false->Ev w w')/\W7 fuel (listed.setIfInBounds i true) a' w') a w
theorem W6:∀(fuel:Nat) (listed:Array Bool) (a:Act) (w:World),W7 P md ops Q T fuel listed a w->wpAny P md ops Q fuel listed a w
 |0,_,_,_,h=>h
 |fuel+1,_,_,_,h=>⟨h.1,λi hi=>wpOp_mono (λa' w' h'=>W6 fuel _ a' w' h'.2) (h.2 i hi)⟩
variable (md ops)in
def WA (i:Nat):Nat->Nat->Bool
 |0,_=>false
 |n+1,j=>match ops[j]? with
  |some o=>o.after.any λe=>Region.binds md e&&(e.on==i||WA i n e.on)
  |none=>false
variable (md ops)in
def Zv (listed:Array Bool):Prop:=∀k o,ops[k]?=some o->listed.getD k false=true->∀e∈o.after,Region.binds md e=true->listed.getD e.on false=true
theorem Sx {i:Nat} {listed:Array Bool} (hc:Zv md ops listed):∀{n j:Nat} {o:Oper},ops[j]?=some o->(∀e∈o.after,Region.binds md e=true->listed.getD e.on false=true)->WA md ops i n j=true->listed.getD i false=true
 |0,j,o,_,_,h=>by cases h
 |n+1,j,o,ho,ha,h=>by
  simp only [WA,ho]at h;obtain⟨e,he,hb⟩:=Array.any_eq_true'.1 h;simp only [An,CN,Ci]at hb;have h1:=ha e he hb.1
  rcases hb.2 with h2|h2
  ·rw [<-h2];exact h1
  cases hk:ops[e.on]? with
  |none=>
   cases n with
   |zero=>cases h2
   |succ n=>simp [WA,hk]at h2
  |some ok=>exact Sx hc hk (hc e.on ok hk h1) h2
theorem KA {listed:Array Bool} {j:Nat} (hc:Zv md ops listed) (hr:j∈Region.ready md ops listed):Zv md ops (listed.setIfInBounds j true):=by
 intro k o hk hl e he hb
 have a:∀m,listed.getD m false=true->(listed.setIfInBounds j true).getD m false=true:=λm hm=>getD_set_true hm
 by_cases b:k=j
 ·subst b;obtain⟨_,o',ho',c⟩:=mem_ready.1 hr;rw [hk]at ho'
  injection ho' with ho'
  subst ho';exact a _ (c e he hb)
 rw [getD_set_ne false (ET b)]at hl;exact a _ (hc k o hk hl e he hb)
theorem LK {i:Nat} {oi:Oper} {v:Value} {n:Nat} (hi:ops[i]?=some oi) (l:∀(j:Nat) (o:Oper) cs b,ops[j]?=some o->o.op≠ .select cs b)
  (hQ:∀c a w,Q (.panic c) (a.put oi.dst v) w->Q (.panic c) a w) (h6:T i=false) (hT:∀j,T j=true->WA md ops i n j=true):
  ∀(fuel:Nat) (listed:Array Bool) (a:Act) (w:World),Zv md ops listed->
   (∀j oj,ops[j]?=some oj->j≠i->listed.getD j true=false->(∀e∈oj.after,Region.binds md e=true->e.on≠i)->oi.apart ops oj=true)->
   i∈Region.ready md ops listed->YieldsIf P ops (Ev w) oi v a->
   W7 P md ops Q T fuel (listed.setIfInBounds i true) (a.put oi.dst v) w->W7 P md ops Q T (fuel+1) listed a w:=by
 intro fuel
 induction fuel with
 |zero=>
  intro listed a w _ _ hr hy H;refine⟨λh=>(by rw [h]at hr;cases hr),λj hj=>?_⟩;by_cases d:j=i
  ·subst d;exact hy.wpOp hi Ev.refl ⟨λ_=>Ev.refl,H⟩
  have:=ready_mono hj d;rw [H.1]at this;cases this
 |succ fuel ih=>
  intro listed a w s f hr hy H;refine⟨λh=>(by rw [h]at hr;cases hr),λj hj=>?_⟩;by_cases d:j=i
  ·subst d;exact hy.wpOp hi Ev.refl ⟨λ_=>Ev.refl,H⟩
  have h1:=H.2 j (ready_mono hj d);obtain⟨m,oj,g,p⟩:=mem_ready.1 hj;have q:listed.getD i false=false:=by
   have h0:=(mem_ready.1 hr).1
   rcases CW i listed.size with h'|h'
   ·simpa [h']using h0
   simp [IL h']
  have r:T j=false:=by
   cases r:T j with
   |false=>rfl
   |true=>
    have:=Sx s g p (hT j r);rw [q]at this;cases this
  have t:∀e∈oj.after,Region.binds md e=true->e.on≠i:=λe he hb y=>by
   have h1:=p e he hb;rw [y,q]at h1;cases h1
  have h2:=wpOp_putIf g (f j oj g d m t) (λcs b=>l i oi cs b hi) (λcs b=>l j oj cs b g) hQ hy h1;have hfree':∀k ok,ops[k]?=some ok->k≠i->(listed.setIfInBounds j true).getD k true=false->
    (∀e∈ok.after,Region.binds md e=true->e.on≠i)->oi.apart ops ok=true:=λk ok hk z u h4=>by
   refine f k ok hk z ?_ h4;by_cases x:j=k
   ·subst x;exact m
   rw [getD_set_ne true x]at u;exact u
  refine wpOp_mono (λa' w' h3=>⟨h3.2.1,ih (listed.setIfInBounds j true) a' w' (KA s hj) hfree' (ready_mono hr (ET d)) ?_ ?_⟩) h2
  ·exact h3.1.imp (λ⟨p1,p2⟩=>⟨p1,λw2 h5=>p2 w2 ((h3.2.1 r).trans h5)⟩) id
  rw [Array.setIfInBounds_comm _ _ d];exact h3.2.2
end
def Vm (P:Program) (N:Nat) (ops:Array Oper) (ts:List Nat) (fuel:Nat) (listed:Array Bool) (E:St) (Q:Exit->St->Prop):Prop:=
 (∀c E,Q (.panic c) E->False)->Zv .any ops listed->∀(w0:Base) (FA UA:List Nat) (w:World) (a:Act) (blk:Root->Nat) (FS US:Root->List Nat),CR w0 FA UA N w a E blk FS US->FS .hand=[]->US .hand=[]->W7 P .any ops (tG w0 FA UA N Q) (λi=>ts.contains i) fuel listed a w
def fG (P:Program) (N:Nat) (ops:Array Oper) (ts:List Nat) (i:Nat) (E:St) (K:St->Prop) (Q:Exit->St->Prop):Prop:=
 ∀(w0:Base) (FA UA:List Nat) (w:World) (a:Act) (blk:Root->Nat) (FS US:Root->List Nat),CR w0 FA UA N w a E blk FS US->FS .hand=[]->US .hand=[]->
  wpOp P ops (tG w0 FA UA N Q) i (λa' w'=>(ts.contains i=false->Ev w w')/\∃E' blk' FS' US',K E'/\CR w0 FA UA N w' a' E' blk' FS' US'/\FS' .hand=[]/\US' .hand=[]) a w
section
variable {N:Nat} {E:St} {P:Program} {ops:Array Oper} {Q:Exit->St->Prop} {K:St->Prop} {ts:List Nat} {fuel:Nat} {listed:Array Bool} {α β:Type} {r:β}
theorem fG.op (i:Nat) {o:Oper} (mv:Bool) {E':St} (h:K E') (hs:C7 P N mv E o=some E') (ho:ops[i]?=some o) (hg:B7 P ops E o=some true) (hk:(kp o||ts.contains i)=true):fG P N ops ts i E K Q:=by
 intro w0 FA UA w a blk FS US hr hF hU;unfold wpOp;simp only [ho,C5 hr hg,Cc];refine .inl ((PN hr hF hU hs).wp λw' v blk' FS' US' k1 k2 k3 k4=>⟨λht=>k4 (by rw [ht,Oy]at hk;exact hk),_,_,_,_,h,k1,k2,k3⟩)
theorem fG.call (i:Nat) {o:Oper} {f:FuncId} {args:Array Operand} {tys:Array TypeId} (hi:ops[i]?=some o) (ho:o.op= .call {callee:= .value (.func f),args:=args,argTypes:=tys}) (hf:mN P f)
  (hg:B7 P ops E o=some true) (hN:∀d,o.dst=some d->d<N) (l:List (Bool×TypeId×Operand)) (hl:l.map (λx=>x.2.2)=args.toList) (b:(l.all (λx=>!x.1)||ts.contains i)=true) {as:List AV} {res:SV} {n:Nat} (c:AP P f as res (List.replicate n .gone)) {E':St} (he:Wx P E o.dst l as res E')
  (h:K E'):fG P N ops ts i E K Q:=by
 intro w0 FA UA w a blk FS US hr hF hU;unfold wpOp;simp only [hi,C5 hr hg,Cc];exact .inl (eY hr hF hU ho hf hN hl c he λw' v blk' FS' US' k1 k2 k3 k4=>⟨λht=>k4 (by rw [ht,Oy]at b;exact b),_,_,_,_,h,k1,k2,k3⟩)
theorem ADi (h:Q .normal E) (hr:Region.ready .any ops listed=[]:=by decide+kernel):Vm P N ops ts fuel listed E Q:=
 λ_ _ w0 FA UA w a blk FS US k1 k2 k3=>by
  have hq:tG w0 FA UA N Q .normal a w:=⟨E,blk,FS,US,h,k1,k2,k3⟩
  cases fuel with
  |zero=>exact⟨hr,hq⟩
  |succ n=>exact⟨λ_=>hq,by rw [hr];simp⟩
theorem Vm.all (rs:List Nat) (h:∀i∈rs,fG P N ops ts i E (λE'=>Vm P N ops ts fuel (listed.setIfInBounds i true) E' Q) Q) (hr:Region.ready .any ops listed=rs) (b:rs≠ []):Vm P N ops ts (fuel+1) listed E Q:=
 λhQ hc w0 FA UA w a blk FS US k1 k2 k3=>⟨λh0=>absurd (hr▸h0) b,λi hi=>by
  have hi':i∈rs:=hr▸hi
  exact wpOp_mono (λa' w' ⟨m0,E',blk',FS',US',m1,m2,m3,m4⟩=>⟨m0,m1 hQ (KA hc hi) _ _ _ _ _ _ _ _ m2 m3 m4⟩) (h i hi' _ _ _ _ _ _ _ _ k1 k2 k3)⟩
variable (ops ts)in
def Rd (n i:Nat) (listed:Array Bool):Bool:=Region.noSelect ops&&Region.free .any ops listed i&&(Region.ready .any ops listed).contains i&&!ts.contains i&&ts.all λj=>WA .any ops i n j
theorem Tk {n i:Nat} {listed:Array Bool} (h:Rd ops ts n i listed=true):Region.noSelect ops=true/\Region.free .any ops listed i=true/\i∈Region.ready .any ops listed/\ts.contains i=false/\∀j,ts.contains j=true->WA .any ops i n j=true:=by
 simp only [Rd,An,Dg,I1]at h;obtain⟨⟨⟨⟨h1,h2⟩,h3⟩,h4⟩,h5⟩:=h;exact⟨h1,h2,by simpa using h3,h4,λj hj=>h5 j (by simpa using hj)⟩
theorem Vm.take (n i:Nat) {o:Oper} (d:Nat) (s:SV) (h:Vm P N ops ts fuel (listed.setIfInBounds i true) (E.put (some d) s) Q) (hs:IM P E o=some s)
  (ho:ops[i]?=some o) (f:Rd ops ts n i listed=true) (hg:B7 P ops E o=some true) (hd:o.dst=some d) (hN:Nat.blt d N=true):Vm P N ops ts (fuel+1) listed E Q:=by
 intro hQ hc w0 FA UA w a blk FS US k1 k2 k3;obtain⟨e1,e2,e3,e4,e5⟩:=Tk f;obtain⟨v,U,h1,h2,h3⟩:=WR k1 hs;refine LK (v:=v) (n:=n) ho (Region.noSelect_spec e1) (λc a w hx=>?_) e4 e5 fuel listed a w hc (Region.free_spec ho e2) e3 (.inl ⟨C5 k1 hg,λw2 e=>?_⟩) ?_
 ·obtain⟨E',blk',FS',US',m1,_⟩:=hx;exact(hQ c E' m1).elim
 ·exact h1 w2 (λr hr=>⟨λb hb=>e.2 b (k1.inF r b hb).2,λb hb=>e.2 b (k1.inU r b hb).2⟩)
 rw [hd];refine h hQ (KA hc e3) _ _ _ _ _ _ _ _ (k1.put (by simpa [Bz]using hN) h2 (On k1 h3 _)) ?_ ?_
 ·rw [Bt (by simp),k2]
 rw [Bt (by simp),k3]
theorem nI (n i:Nat) {o:Oper} (d:Nat) (h:Vm P N ops ts fuel (listed.setIfInBounds i true) (E.put (some d) (.tup [])) Q)
  (ho:ops[i]?=some o) (b:Rd ops ts n i listed=true) (hg:B7 P ops E o=some false) (hd:o.dst=some d) (hN:Nat.blt d N=true):Vm P N ops ts (fuel+1) listed E Q:=by
 intro hQ hc w0 FA UA w a blk FS US k1 k2 k3;obtain⟨e1,e2,e3,e4,e5⟩:=Tk b;refine LK (v:=undef) (n:=n) ho (Region.noSelect_spec e1) (λc a w hx=>?_) e4 e5 fuel listed a w hc (Region.free_spec ho e2) e3 (.inr ⟨C5 k1 hg,rfl⟩) ?_
 ·obtain⟨E',blk',FS',US',m1,_⟩:=hx;exact(hQ c E' m1).elim
 rw [hd];refine h hQ (KA hc e3) _ _ _ _ _ _ _ _ (k1.put (F:=[]) (U:=[]) (by simpa [Bz]using hN) (by simp only [E8];exact⟨[],rfl,by simp [NO]⟩) cM.none) ?_ ?_
 ·rw [Bt (by simp),k2]
 rw [Bt (by simp),k3]
theorem yA {id:Nat} (n:Nat) (ts:List Nat) (hm:P.follows .mixedOrders=true) (hQ:∀c E,Q (.panic c) E->False) (h:Vm P N ops ts n (Array.replicate n false) E Q) (hn:ops.size=n:=by rfl):Wp P N (.region id ops true) E Q:=by
 subst hn;intro w0 FA UA w a blk FS US k1 k2 k3;refine wp_region_any hm (W6 (T:=λi=>ts.contains i) _ _ _ _ ?_);obtain⟨FS',US',m1,m2,m3⟩:=k1.drop (w':={w with drawn:=w.drawn+1}) (A0 _) rfl rfl rfl (λ_ _ _=>rfl);refine h hQ (λk o hk hl=>?_) _ _ _ _ _ _ _ _ m1 m2 m3;exfalso;rw [Ew]at hl
 rcases CW k ops.size with h'|h'
 ·simp [h']at hl
 simp [h']at hl
theorem Vm.o (n i d:Nat) (s:SV) {o:Oper} (h:Vm P N ops ts fuel (listed.setIfInBounds i true) (E.put (some d) s) Q) (ho:ops[i]?=some o:=by rfl) (hs:IM P E o=some s:=by rfl)
 (a:Rd ops ts n i listed=true:=by decide+kernel) (hg:B7 P ops E o=some true:=by rfl) (hd:o.dst=some d:=by rfl) (hN:Nat.blt d N=true:=by rfl):Vm P N ops ts (fuel+1) listed E Q:=Vm.take n i d s h hs ho a hg hd hN
theorem AFJ {tx ty:Option β} {b:Bool} (h:(bif b then tx else ty)=some r) (t:Nat) (ht:tx=some r->Vm P N ops ts fuel listed (E.rs t true) Q) (hf:ty=some r->Vm P N ops ts fuel listed (E.rs t false) Q) (hc:E.slots t=B b:=by rfl):Vm P N ops ts fuel listed E Q:=by
 cases b
 ·rw [dM hc]at hf;exact hf h
 rw [dM hc]at ht;exact ht h
theorem fG.o (i d:Nat) (s:SV) {o:Oper} (h:K (E.put (some d) s)) (ho:ops[i]?=some o:=by rfl) (hs:C7 P N false E o=some (E.put (some d) s):=by rfl) (hg:B7 P ops E o=some true:=by rfl) (hk:(kp o||ts.contains i)=true:=by rfl):fG P N ops ts i E K Q:=fG.op i false h hs ho hg hk
theorem AHe (i:Nat) (m:List (Root×List TV)) (d:Nat) (xs:List TV) {o:Oper} (h:K ((mvs E m).newBox d xs)) (ho:ops[i]?=some o:=by rfl) (hs:C7 P N false E o=some ((mvs E m).newBox d xs):=by rfl) (hg:B7 P ops E o=some true:=by rfl) (hk:(kp o||ts.contains i)=true:=by rfl):fG P N ops ts i E K Q:=fG.op i false h hs ho hg hk
theorem AHc (i:Nat) (mv:Bool) (m:List (Root×List TV)) (d:Nat) (s:SV) {o:Oper} (h:K ((mvs E m).put (some d) s)) (ho:ops[i]?=some o:=by rfl) (hs:C7 P N mv E o=some ((mvs E m).put (some d) s):=by rfl) (hg:B7 P ops E o=some true:=by rfl) (hk:(kp o||ts.contains i)=true:=by rfl):fG P N ops ts i E K Q:=fG.op i mv h hs ho hg hk
theorem AHd (i n ix d:Nat) (s:SV) {o:Oper} (h:K ((E.ex n ix).put (some d) s)) (ho:ops[i]?=some o:=by rfl) (hs:C7 P N false E o=some ((E.ex n ix).put (some d) s):=by rfl) (hg:B7 P ops E o=some true:=by rfl) (hk:(kp o||ts.contains i)=true:=by rfl):fG P N ops ts i E K Q:=fG.op i false h hs ho hg hk
end
def oI (n:Int):Prop:= -9223372036854775808<=n/\n<=9223372036854775807
def oK (k:IntKind) (n:Int):Prop:=k.min<=n/\n<=k.max
def ol {α:Type} (o:α->Prop) (l:List α):Prop:=l.length<=9223372036854775807/\∀x∈l,o x
end Go.TI
namespace Go.TI
open Go Go.RowKit
def fD (P:Program) (t:TypeId) {α:Type} (c:α->List TV) (o:α->Prop):Prop:=
 ∀{H:Type} (enc:TypeId×Value->H) (w:World) (base:Nat) (fuel:Nat) (cs:List Value) (x:DataW H×List MemPlace),DataW.trod enc P w base (λ_=>true) true fuel t cs=some x->
  ∃a U,o a/\B3 w (c a) cs [] U/\∀b∈U,b<w.heap.size
section
variable {P:Program}
theorem Ns {w:World} {t:TV} {v:Value} {F U:List Nat} (h:CB w t v F U):B3 w [t] [v] F U:=by
 simp only [B3];exact⟨v,[],F,[],U,[],rfl,by simp,by simp,h,rfl,rfl,rfl⟩
theorem AAO {t:TypeId} {k:IntKind} (ht:P.underlying t=some (.int k)):fD P t (λn:Int=>[.int k n]) (λn=>k.min<=n/\n<=k.max):=by
 intro H enc w base fuel cs x h
 cases fuel with
 |zero=>simp [DataW.trod]at h
 |succ fuel=>
  simp only [DataW.trod,ht]at h;split at h<;>rename_i h1<;>try (first|(injection h1 with h1;cases h1;done)|(cases h1;done))
  all_goals first|(cases h;done)|skip
  rename_i k' n;split at h
  ·rename_i hk;simp only [Ap,TypeDesc.int.injEq]at h1;subst h1;obtain⟨rfl,hw⟩:=hk;simp only [Lit.wf,An,A9]at hw;exact⟨n,[],hw,Ns (by simp [CB]),by simp⟩
  cases h
theorem qO {t e:TypeId} {sz:Nat} {α:Type} {c:α->List TV} {o:α->Prop} (ht:P.underlying t=some (.slice e)) (p:P.cellsOf e=sz) (h0:0<sz) (hc:∀a,(c a).length=sz) (h:fD P e c o):
  fD P t (λl:List α=>[.sl false e sz (AT c l)]) (λl=>l.length<=9223372036854775807/\∀a∈l,o a):=by
 intro H enc w base fuel cs x hx
 rcases Go.Deep.open_slice ht hx with⟨rfl,_⟩|⟨a,len,cap,m,n,D,Pl,rfl,hb,d,q,hm,_,f⟩
 ·refine⟨[],[],⟨by simp,by simp⟩,Ns ?_,by simp⟩;simp only [CB];exact⟨none,0,0,[],[],[],rfl,A0 _,by simp,λi u hi=>by simp at hi,by simp [AT,B3],by simp,by simp,by simp⟩
 simp only [Cc]at hm;have key:∀k,k<=len->∃(l:List α) (vs:List Value) (U:List Nat),l.length=k/\(∀a∈l,o a)/\vs.length=k*sz/\B3 w (AT c l) vs [] U/\(∀i u,vs[i]?=some u->w.cell? (a.add i)=some u)/\∀b∈U,b<w.heap.size:=by
  intro k
  induction k with
  |zero=>intro _;exact⟨[],[],[],rfl,by simp,by simp,by simp [AT,B3],by simp,by simp⟩
  |succ k ih=>
   intro hk;obtain⟨l,vs,U,h1,h2,h3,h4,h5,h6⟩:=ih (by omega);obtain⟨cs',k1,k2⟩:=f k (by omega);obtain⟨y,V,g1,g2,g3⟩:=h enc w base n cs' _ k2;obtain⟨_,k3,k4⟩:=World.cells?_some k1;rw [p]at k1 k3 k4;refine⟨l++ [y],vs++cs',U++V,by simp [h1],?_,?_,?_,?_,?_⟩
   ·intro a ha
    rcases Ak.1 ha with ha|ha
    ·exact h2 a ha
    rw [A3.1 ha];exact g1
   ·rw [Ag,h3,k3,EH]
   ·rw [Va];have:=HK h4 (show B3 w (AT c [y]) cs' [] V by simpa [AT]using g2);simpa using this
   ·intro i u hi;by_cases r:i<vs.length
    ·rw [AS r]at hi;exact h5 i u hi
    rw [AU (by omega)]at hi;have g:i-vs.length<sz:=by
     have:=(Ah.1 hi).1;omega
    have:=k4 (i-vs.length) g;rw [hi,TI.add_add]at this;rw [<-this];congr 2;omega
   intro b hb
   rcases Ak.1 hb with hb|hb
   ·exact h6 b hb
   exact g3 b hb
 obtain⟨l,vs,U,h1,h2,h3,h4,h5,h6⟩:=key len (A0 _);have v:len<=9223372036854775807:=by simp only [maxLen]at q;omega
 by_cases s:len=0
 ·subst s;have:vs=[]:=AB (by omega);subst this;refine⟨l,U,⟨by omega,h2⟩,Ns ?_,h6⟩;simp only [CB];exact⟨some a,0,cap,[],U,[],rfl,d,by simp,λi u hi=>by simp at hi,h4,by simp,by simp,by simp⟩
 have j:a.block<w.heap.size:=by
  obtain⟨cs',k1,_⟩:=f 0 (by omega);have:=World.cells?_block k1 (by omega)
  rwa [G9]at this
 refine⟨l,a.block::U,⟨by omega,h2⟩,Ns ?_,?_⟩
 ·simp only [CB];exact⟨some a,len,cap,vs,U,[a.block],rfl,d,h3,λi u hi=>⟨a,len,cap,rfl,h5 i u hi⟩,h4,by simp,.inl (by simp [C4,Value.ownBlock]),by simp⟩
 intro b hb
 rcases By.1 hb with rfl|hb
 ·exact j
 exact h6 b hb
theorem AEm {t:TypeId} {α:Type} {u:α->TV} {o:α->Prop} {H:Type} {enc:TypeId×Value->H} {w:World} {v:Value} {d:DataW H} {ps:List MemPlace} (h:fD P t (λa=>[u a]) o) (hv:v.cells= #[v]) (k:DataW.Trod enc P w 0 (λ_=>true) true t v d ps):
  ∃a U,o a/\Vr w (.one (u a)) v [] U/\∀b∈U,b<w.heap.size:=by
 obtain⟨n,hn⟩:=k;obtain⟨a,U,h1,h2,h3⟩:=h enc w 0 n _ _ hn;rw [hv]at h2;simp only [B3]at h2;obtain⟨v',vs',F1,F2,U1,U2,e,hF,hU,h4,rfl,rfl,rfl⟩:=h2
 injection e with e _
 subst e;obtain⟨rfl,_⟩:=II.1 hF.symm;refine⟨a,U1,h1,?_,by simpa [hU]using h3⟩;simp only [Vr];exact⟨h4,hv⟩
theorem ACd {w:World} {r:Reach} {base:Nat} {t:TypeId} {v:Value} (h:Value.okWide P w r base t v) (h1:∀fs,P.underlying t≠some (.struct fs)) (h2:∀n e,P.underlying t≠some (.array n e)):v.cells= #[v]:=by
 unfold Value.okWide at h;split at h
 ·rename_i fs a;exact absurd a (h1 fs)
 ·rename_i n e b;exact absurd b (h2 n e)
 unfold Cell.okWide at h;cases v<;>first|rfl|skip
 all_goals
  split at h<;>rename_i hv<;>first|(cases hv;done)|skip
  unfold Cell.ok at h;split at h<;>first|(exact h.elim)|skip
 all_goals rename_i c;cases c
end
end Go.TI
namespace Go.TI
open Go Go.RowKit
def St.without (E:St) (r:Root):St:={E with boxes:=Cp E.boxes r none,ver:=Cp E.ver r (E.ver r+1),gen:=Cp E.gen r (E.gen r+1)}
section
variable {w0:Base} {FA UA:List Nat} {N:Nat} {w:World} {a:Act} {E:St} {blk:Root->Nat} {FS US:Root->List Nat} {P:Program}
theorem fJ {r s:Root} (h:s≠r):(E.without r).root s=E.root s:=by
 cases s<;>simp [St.without,St.root,Cp,h]
theorem CR.without (h:CR w0 FA UA N w a E blk FS US) (hF:FS .hand=[]) (hU:US .hand=[]) {r:Root} (hm:r.mem=true):
  CR w0 FA UA N w a (E.without r) blk (Cp (Cp FS r []) .hand (FS r)) (Cp (Cp US r []) .hand (US r)):=by
 have c:r≠ .hand:=by rintro rfl;cases hm
 have d:∀s,Cu w w a a E (E.without r) blk blk s:=by
  intro s;by_cases hs:s=r
  ·subst hs;exact⟨.inl (by simp [St.without,Cp]),.inl (by simp [St.without,Cp])⟩
  by_cases hh:s= .hand
  ·subst hh;exact FW (by simp [St.without,Cp,hs]) (by simp [St.without,Cp,hs]) (by simp [St.root,h.nohand])
  exact DS h (by simp [St.without,Cp,hs]) (by simp [St.without,Cp,hs]) (fJ hs) (λ_ _=>rfl) (λ_=>rfl) (λ_ _=>rfl) (λ_ _=>rfl)
 refine h.two (r1:=r) (r2:= .hand) (L1:=[]) (L2:=FS r) (V1:=[]) (V2:=US r) c (by simpa using h.nodup r) (λb hb=>⟨.inl (by simpa using hb),(h.inF r b (by simpa using hb)).2⟩)
  (λb hb=> .inl ⟨r,by simpa using hb⟩) (A0 _) rfl rfl rfl (λ_ _ _ _=>rfl) d (λn _ _=>⟨rfl,rfl⟩) (λs _ hs _=>⟨by simp [St.without,Cp,hs],rfl⟩) ?_ trivial ?_ h.len h.nodef
 ·cases r with
  |slot n=>cases hm
  |hand=>cases hm
  |box n=>exact .inl ⟨by simp [St.without,Cp],rfl,rfl⟩
  |ext n=>exact .inl ⟨by simp [St.without,Cp],rfl,rfl⟩
 simp [St.without,Cp,ET c,h.nohand]
theorem Yp:∀{l:List (Bool×TypeId×Operand)},mvR w a l (List.replicate l.length none) [] []
 |[]=>⟨rfl,rfl⟩
 |_::l=>Yp (l:=l)
theorem sZ (h:CR w0 FA UA N w a E blk FS US) (hF:FS .hand=[]) (hU:US .hand=[]) {o:Oper} {f:FuncId} {args:Array Operand} {tys:Array TypeId} (ho:o.op= .call {callee:= .value (.func f),args:=args,argTypes:=tys}) (hf:mN P f)
  (hN:∀d,o.dst=some d->d<N) {x:Operand} {l:List (Bool×TypeId×Operand)} (hl:x::l.map (λx=>x.2.2)=args.toList) {r:Root} (hm:r.mem=true) (hx:E.ptr? x=some (r,[],0)) {cells cells':List TV} (hc:E.boxes r=some cells) (c0:cells'.length=cells.length)
  {as:List AV} {res:SV} {n:Nat} {c:Bool} (b1:H8 P (E.without r) l (List.replicate l.length none)=some (as,c)) (a2:c=true\/BD res=false/\AR cells'=false)
  (hg:AP P f (.ext cells::as) res (.ext cells'::List.replicate n .gone))
  {K:Act->World->Prop} {Q:Exit->Act->World->Prop} (hK:∀w' v blk' FS' US',CR w0 FA UA N w' (a.put o.dst v) (((E.setRoot r cells').bump r).put o.dst res) blk' FS' US'->FS' .hand=[]->US' .hand=[]->K (a.put o.dst v) w'):o.wp P a w K Q:=by
 have a5:r≠ .hand:=by rintro rfl;cases hm
 have k2:=h.without hF hU hm;obtain⟨U',k5,k6⟩:=Kk k2 Yp b1;have a6:∃cur T F,w.heap[blk r]?=some (.cells cur T (0,0))/\B3 w cells cur.toList F (US r)/\FS r=blk r::F:=by
  rcases h.box r hm with⟨h1,_⟩|⟨cs,cur,T,F,h1,h2,h3,h4⟩
  ·rw [hc]at h1;cases h1
  rw [hc]at h1;injection h1 with h1;subst h1;exact⟨cur,T,F,h2,h3,h4⟩
 obtain⟨cur,T,F,b2,b3,b4⟩:=a6;obtain⟨a7,ad,h0,a8⟩:=LW h hx;have b5:ad=⟨blk r,0,none⟩:=by
  cases r with
  |slot n=>cases hm
  |hand=>cases hm
  |box n=>simp [pa,Addr.add]at h0;exact h0.symm
  |ext n=>simp [pa,Addr.add]at h0;exact h0.symm
 subst b5;have a9:cells≠ []:=by
  rintro rfl
  cases r with
  |slot n=>cases hm
  |hand=>cases hm
  |box n=>simp [St.place,St.root,hc,BY]at a7
  |ext n=>simp [St.place,St.root,hc,BY]at a7
 have b0:a.eval x::l.map (λx=>a.eval x.2.2)=(args.map a.eval).toList:=by
  rw [Ow,<-hl,BV,EJ];rfl
 have m:JR w (.ext cells::as) (args.map a.eval).toList (FS r++ []) (US r++U'):=by
  rw [<-b0];exact⟨_,_,FS r,[],US r,U',rfl,rfl,rfl,⟨blk r,cur,T,F,a8,b2,b3,b4,a9⟩,k5⟩
 rw [Az]at m;have b6:∀s b,b∈Cp (Cp US r []) .hand (US r) s->∃s',b∈US s':=by
  intro s b hb;by_cases hs:s= .hand
  ·subst hs;rw [BW]at hb;exact⟨r,hb⟩
  rw [Bt hs]at hb;by_cases i:s=r
  ·subst i;rw [BW]at hb;cases hb
  rw [Bt i]at hb;exact⟨s,hb⟩
 have b7:∀s b,s≠ .hand->b∈Cp (Cp FS r []) .hand (FS r) s->s≠r/\b∈FS s:=by
  intro s b hs hb;rw [Bt hs]at hb;by_cases i:s=r
  ·subst i;rw [BW]at hb;cases hb
  rw [Bt i]at hb;exact⟨i,hb⟩
 have k6':∀b∈U',(∃s,b∈US s)\/(c=false/\∃s,s≠r/\b∈FS s):=by
  intro b hb
  rcases k6 b hb with h4|⟨s,h4⟩|⟨h5,s,h6,h4⟩
  ·cases h4
  ·exact .inl (b6 s b h4)
  exact .inr ⟨h5,s,b7 s b h6 h4⟩
 have a3:∀b∈FS r,b∉US r++U':=by
  intro b hb hb'
  rcases Ak.1 hb' with hb'|hb'
  ·exact h.disU r r b hb hb'
  rcases k6' b hb' with⟨s,h4⟩|⟨_,s,h5,h4⟩
  ·exact h.disU r s b hb h4
  exact h.dis r s (ET h5) b hb h4
 have p:=hg w _ (FS r) (US r++U') m (h.nodup r) a3 (by
  intro b hb
  rcases Ak.1 hb with hb|hb
  ·exact(h.inF r b hb).2
  rcases Ak.1 hb with hb|hb
  ·exact(h.inU r b hb).2
  rcases k6' b hb with⟨s,h4⟩|⟨_,s,h5,h4⟩
  ·exact(h.inU s b h4).2
  exact(h.inF s b h4).2)
 unfold Oper.wp;rw [Jn ho hf];simp only [Oper.upon];rw [P3]at p;refine Calls.mono p ?_;rintro e w' ⟨v,Fr,Ur,G,V,rfl,g⟩;have t:=g.fin;rw [<-b0]at t;simp only [JR]at t;obtain⟨v1,vs1,G1,G2,V1,V2,e1,rfl,rfl,⟨b,cur',T',F0,g1,g2,g3,rfl,g5⟩,a4⟩:=t;obtain⟨rfl,rfl⟩:=Sn a4
 injection e1 with e1 e2
 rw [<-e1,a8]at g1
 injection g1 with g1
 injection g1 with g1
 injection g1 with g1
 subst g1;have k:=g.nodup;have a0:=g.dis;have u:=g.inF;have a1:=g.inU;simp only [Az]at k a0 u a1;have hV:∀b∈Ur++V1,(∃s,b∈US s)\/((b∈FS r\/w.heap.size<=b)/\b<w'.heap.size):=by
  intro b hb;obtain⟨h4,h5⟩:=a1 b hb
  rcases h4 with h4|h4|h4
  ·rcases Ak.1 h4 with h4|h4
   ·exact .inl ⟨r,h4⟩
   rcases k6' b h4 with h6|⟨h6,s,h7,h8⟩
   ·exact .inl h6
   rcases a2 with a2|⟨c1,c2⟩
   ·rw [a2]at h6;cases h6
   have n1:=PJ g.res c1;have n2:=JI g3 c2;subst n1;subst n2;cases hb
  ·exact .inr ⟨.inl h4,h5⟩
  exact .inr ⟨.inr h4,h5⟩
 have h9:∀j,((E.setRoot r cells').bump r).place r [] j=cells'[j]? :=by
  intro j
  cases r with
  |slot n=>cases hm
  |hand=>cases hm
  |box n=>simp [St.place,St.bump,St.setRoot,St.root,Cp,BY]
  |ext n=>simp [St.place,St.bump,St.setRoot,St.root,Cp,BY]
 have z:∀j,E.place r [] j=cells[j]? :=by
  intro j
  cases r with
  |slot n=>cases hm
  |hand=>cases hm
  |box n=>simp [St.place,St.root,hc,BY]
  |ext n=>simp [St.place,St.root,hc,BY]
 let E1:St:=(E.setRoot r cells').bump r
 have ev:∀s,s≠r->E1.ver s=E.ver s:=by
  intro s hs;cases r<;>simp [E1,St.bump,St.setRoot,Cp,hs]
 have evr:E1.ver r=E.ver r+1:=by cases r<;>simp [E1,St.bump,St.setRoot,Cp]
 have eg:∀s,E1.gen s=E.gen s:=by intro s;cases r<;>rfl
 have er:∀s,s≠r->E1.root s=E.root s:=by
  intro s hs
  cases r with
  |slot n=>cases hm
  |hand=>cases hm
  |box n=>cases s<;>simp [E1,St.bump,St.setRoot,St.root,Cp,hs]
  |ext n=>cases s<;>simp [E1,St.bump,St.setRoot,St.root,Cp,hs]
 have es:∀n,E1.slots n=E.slots n:=by
  intro n
  cases r with
  |slot n=>cases hm
  |hand=>cases hm
  |box n=>rfl
  |ext n=>rfl
 have eb:∀s,E1.boxes s=if s=r then some cells' else E.boxes s:=by
  intro s
  cases r with
  |slot n=>cases hm
  |hand=>cases hm
  |box n=>rfl
  |ext n=>rfl
 have b8:∀s,Cu w w' a a E E1 blk blk s:=by
  intro s;by_cases hs:s=r
  ·subst hs;refine⟨.inl (by rw [evr];omega),.inr ⟨eg s,λj ad hv hp=>?_⟩⟩;refine⟨(by cases s<;>first|exact hv|(cases hm)),?_⟩;rw [z]at hp;rw [show E1.place s [] j=cells'[j]? from h9 j];have hj:j<cells.length:=by
    rcases CW j cells.length with q|q
    ·exact q
    rw [Dv q]at hp;cases hp
   rw [Ab (by omega)];rfl
  by_cases hh:s= .hand
  ·subst hh;exact FW (ev _ hs) (eg _) (by simp [St.root,h.nohand])
  exact DS h (ev s hs) (eg s) (er s hs) (λ_ _=>rfl) (λ_=>rfl)
   (λb hb=>g.keep b (h.inF s b hb).2 (h.dis s r hs b hb)) (λb hb=>g.keep b (h.inU s b hb).2 (λe=>h.disU r s b e hb))
 have k7:=h.two (w':=w') (a':=a) (E':=E1) (blk':=blk) (r1:=r) (r2:= .hand) (L1:=blk r::F0) (L2:=Fr) (V1:=V1) (V2:=Ur) a5
  (by
   rw [Bs]at k⊢
   exact⟨k.2.1,k.1,λx hx y hy e=>k.2.2 y hy x hx e.symm⟩)
  (λb hb=>by
   obtain⟨q1,q2⟩:=u b (by
    rcases Ak.1 hb with hb|hb
    ·exact AL _ hb
    exact AI _ hb)
   refine⟨?_,q2⟩
   rcases q1 with q1|q1
   ·exact .inl q1
   exact .inr (.inr q1))
  (λb hb=>by
   have hb':b∈Ur++V1:=by
    rcases Ak.1 hb with hb|hb
    ·exact AL _ hb
    exact AI _ hb
   rcases hV b hb' with q|⟨q1,q2⟩
   ·exact .inl q
   refine .inr ⟨?_,λe=>?_,q2⟩
   ·rcases q1 with q1|q1
    ·exact .inl q1
    exact .inr (.inr q1)
   refine a0 b ?_ hb'
   rcases Ak.1 e with e|e
   ·exact AL _ e
   exact AI _ e)
  g.size g.os g.tape g.output (λb hb q _=>g.keep b hb q) b8 (λn _ _=>⟨es n,rfl⟩) (λs _ hs _=>⟨by rw [eb,A5 hs],rfl⟩)
  (by
   have:G5 w' a E1 blk r (blk r::F0) V1:=by
    have:=eb r;rw [A4 rfl]at this
    cases r with
    |slot n=>cases hm
    |hand=>cases hm
    |box n=>exact .inr ⟨cells',cur',T',F0,this,g2,g3,rfl⟩
    |ext n=>exact .inr ⟨cells',cur',T',F0,this,g2,g3,rfl⟩
   exact this)
  trivial (by rw [eb,A5 (ET a5)];exact h.nohand) h.len h.nodef (hfz:=by
   intro n hn;have e:((E.setRoot r cells').bump r).fz=E.fz:=by rw [Pw,HA]
   exact h.frz n (e▸hn)) (hamb:=by show((E.setRoot r cells').bump r).amb=E.amb;rw [JP,Ej])
 have kh:(Cp (Cp FS r (blk r::F0)) .hand Fr) .hand=Fr:=BW _ _ _;have kh2:(Cp (Cp US r V1) .hand Ur) .hand=Ur:=BW _ _ _
 cases hd:o.dst with
 |some d=>
  obtain⟨FS',US',q1,q2,q3⟩:=k7.land (w':=w') (d:=d) (s:=res) (v:=v) (F:=Fr) (U:=Ur) (hN d hd) (My g.res) (Bs.1 k).1
   (λb hb=>⟨.inl (by rw [kh];exact hb),(u b (AI _ hb)).2⟩) (λb hb=> .inl ⟨.hand,by rw [kh2];exact hb⟩) (A0 _) rfl rfl rfl (λ_ _ _=>rfl)
  have:=hK w' v blk FS' US' (by rw [hd];exact q1) q2 q3;rw [hd]at this;exact this
 |none=>
  obtain⟨FS',US',q1,q2,q3⟩:=k7.drop (w':=w') (A0 _) rfl rfl rfl (λ_ _ _=>rfl);have:=hK w' v blk FS' US' (by rw [hd];exact q1) q2 q3;rw [hd]at this;exact this
end
theorem wV (A:Nat->Hz) (hA:∀b,(A b).B=[]/\(∀w,(A b).I w)/\∀c,(A b).pin=some c->c=b) {P:Program} {f:FuncId} {fn:Func} {c:Code} {cells cells':List TV} {as:List AV} {res:SV} (hf:P.funcs[f]?=some fn) (hb:fn.body=some c)
  (h:∀b,Wp P fn.ntmps c (Eo (.ext cells::as) (A b)) λe E=>(e= .normal\/e= .ret)/\∃ss E',EN P E fn.results.toList=some (ss,E')/\Gc ss=res/\E'.boxes (.ext 0)=some cells') (l:cells'.isEmpty=false):
  AP P f (.ext cells::as) res (.ext cells'::List.replicate as.length .gone):=by
 intro w vs FA UA ha m j o;have ha':=ha;obtain⟨v0,vs0,F1,F2,U1,U2,rfl,rfl,rfl,⟨b0,cur0,T0,F0,rfl,_,_,rfl,_⟩,p⟩:=ha;obtain⟨blk,FS,US,hr,hF,hU⟩:=Q8 (N:=fn.ntmps) ha' m j o (A:=A b0) ((hA b0).2.1 w) (λb hb=>by rw [(hA b0).1]at hb;cases hb) (hpin:=λc hc=>((hA b0).2.2 c hc).symm);refine calls_of_wp hf hb (wp_mono (h b0 _ _ _ _ _ _ _ _ hr hF hU) ?_);rintro e a w' ⟨E,blk',FS',US',⟨he,ss,E',h1,rfl,g⟩,h2,h3,h4⟩;obtain⟨us,FS2,US2,F,U,k1,k2,k3,k4,k5⟩:=Lm h2 h1;rw [h3,A7]at k4;rw [h4,A7]at k5;have i:∀(n:Nat) (vs:List Value),vs.length=n->JR w' (List.replicate n .gone) vs [] []:=by
  intro n
  induction n with
  |zero=>intro vs hv;simp at hv;subst hv;exact⟨rfl,rfl,rfl⟩
  |succ n ih=>
   intro vs hv
   cases vs with
   |nil=>simp at hv
   |cons v vs=>exact⟨v,vs,[],[],[],[],rfl,rfl,rfl,⟨rfl,rfl⟩,ih vs (by simpa using hv)⟩
 have r:vs0.length=as.length:=by
  obtain⟨_,_,_,_,h5,_⟩:=Rj p;exact h5
 have k:blk' (.ext 0)=b0:=by
  rw [k3.xblk];rfl
 obtain⟨cur,T,F3,b2,b3,b4⟩:∃cur T F3,w'.heap[b0]?=some (.cells cur T (0,0))/\B3 w' cells' cur.toList F3 (US2 (.ext 0))/\FS2 (.ext 0)=b0::F3:=by
  rcases k3.box (.ext 0) rfl with⟨q,_⟩|⟨cs,cur,T,F3,q1,q2,q3,q4⟩
  ·rw [g]at q;cases q
  rw [g]at q1
  injection q1 with q1
  subst q1;rw [k]at q2 q4;exact⟨cur,T,F3,q2,q3,q4⟩
 have hne':cells'≠ []:=by rintro rfl;cases l
 have d:a.defers=[]/\∃v,(results fn a.tmps).run P w'= .ok v w'/\∃v' F U G V,Ending.returned v= .returned v'/\ADh w w' ((b0::F0)++F2) (U1++U2) (Gc ss) (.ext cells'::List.replicate as.length .gone) (.pointer (some ⟨b0,0,none⟩)::vs0) v' F U G V:=by
  refine⟨h2.nodef,_,Nr k1,_,F,U,FS2 (.ext 0),US2 (.ext 0),rfl,?_⟩
  exact{
   res:=Qh k2
   fin:=⟨_,vs0,FS2 (.ext 0),[],US2 (.ext 0),[],rfl,by simp,by simp,⟨b0,cur,T,F3,rfl,b2,b3,b4,hne'⟩,i _ _ r⟩
   nodup:=by
    rw [<-k4,Bs];exact⟨k3.nodup _,k3.nodup _,λx hx y hy e=>k3.dis .hand (.ext 0) (by simp) x hx (e▸hy)⟩
   dis:=by
    intro b hb hb';rw [<-k4]at hb;rw [<-k5]at hb'
    rcases Ak.1 hb with hb|hb<;>rcases Ak.1 hb' with hb'|hb'
    ·exact k3.disU .hand .hand b hb hb'
    ·exact k3.disU .hand (.ext 0) b hb hb'
    ·exact k3.disU (.ext 0) .hand b hb hb'
    exact k3.disU (.ext 0) (.ext 0) b hb hb'
   inF:=by
    intro b hb;rw [<-k4]at hb
    rcases Ak.1 hb with hb|hb
    ·exact k3.inF .hand b hb
    exact k3.inF (.ext 0) b hb
   inU:=by
    intro b hb;rw [<-k5]at hb
    rcases Ak.1 hb with hb|hb
    ·exact k3.inU .hand b hb
    exact k3.inU (.ext 0) b hb
   os:=k3.os
   tape:=k3.tape
   output:=k3.output
   size:=k3.size
   keep:=λb hb hF=>k3.keep b hb hF (λe=>by rw [show b∈(A b0).B↔b∈([]:List Nat) by rw [(hA b0).1]]at e;cases e)}
 rcases he with rfl|rfl
 ·exact d
 exact d
theorem ABb {P:Program} {f:FuncId} {fn:Func} {c:Code} {cells cells':List TV} {as:List AV} {res:SV} (hf:P.funcs[f]?=some fn) (hb:fn.body=some c)
 (h:Wp P fn.ntmps c (Eo (.ext cells::as)) λe E=>(e= .normal\/e= .ret)/\∃ss E',EN P E fn.results.toList=some (ss,E')/\Gc ss=res/\E'.boxes (.ext 0)=some cells') (a:cells'.isEmpty=false):
 AP P f (.ext cells::as) res (.ext cells'::List.replicate as.length .gone):=wV (λ_=>Hz.none) (λ_=>⟨rfl,λ_=>trivial,λ_ h=>by cases h⟩) hf hb (λ_=>h) a
section
variable {N:Nat} {E:St} {P:Program} {ops:Array Oper} {oo:Oper} {rest:List Oper} {Q:Exit->St->Prop} {α β:Type} {rr:β}
end
theorem AGN {P:Program} {E:St} {o:Oper} {n:Int} {m:Nat} (r:Root) (q:List Nat) (j:Nat) (hn:n=(m:Int)) {t e:TypeId} {a i:Operand} {k:IntKind} {len:Nat} (ho:o.op= .indexAddr t a i:=by rfl) (ht:P.underlying t=some (.array len e):=by rfl) (hi:E.cell1 P 0 i=some (.int k n):=by rfl) (hp:E.ptr? a=some (r,q,j):=by rfl)
  (hc:P.cellsOf e=1:=by rfl) (hl:Nat.blt m len=true:=by rfl) (hs:(E.place r q (j+m)).isSome=true:=by rfl):Bl P E o=some (.one (.ptr r (E.stamp r q) q (j+m))):=by
 subst hn;have hl':m<len:=by simpa [Bz]using hl
 simp only [Bl,ho,ht,hi,hp,hc,BA,cK];rw [A4 ⟨by omega,by omega,by omega,hs⟩]
def E9 (l:List Int):ByteArray:=strOfNums l
theorem Ts {f:Int->List TV} (hf:∀n,f n=[.int .u8 n]):∀l,N5 (AT f l)=some l
 |[]=>rfl
 |n::l=>by
  have:AT f (n::l)=f n++AT f l:=by simp [AT]
  rw [this,hf];simp only [Cq,N5,Ts hf l,Bv]
theorem AGS {P:Program} {E:St} {o:Oper} {f:Int->List TV} (hf:∀n,f n=[.int .u8 n]) (l:List Int) {s d e e':TypeId} {x:Operand} {own:Bool} {r:Root} {q:List Nat} {j:Nat} (ho:o.op= .convert s d x:=by rfl) (hs:P.underlying s=some (.slice e):=by rfl) (hd:P.underlying d=some .string:=by rfl) (he:P.underlying e=some (.int .u8):=by rfl)
  (hr:E.ref x=some (r,q,j):=by rfl) (hp:E.place r q j=some (.sl own e' 1 (AT f l)):=by rfl):Bl P E o=some (.one (.str (E9 l))):=by
 simp only [Bl,ho,hs,hd,he,hr,hp,Cc,Ts hf,Bv];rfl
def shl (k:IntKind) (a b:Int):Option Int:=if b<0 then none else some (k.wrap (a*2^(min b.toNat k.bits)))
theorem AF4 {P:Program} {E:St} {o:Oper} {k k2:IntKind} {a b v:Int} (h:shl k a b=some v) {t t2:TypeId} {x y:Operand} (ho:o.op= .binOp .shl t x y t2:=by rfl) (hx:E.cell1 P t x=some (.int k a):=by rfl) (hy:E.cell1 P t y=some (.int k2 b):=by rfl):Bl P E o=some (.one (.int k v)):=by
 unfold shl at h;split at h
 ·cases h
 rename_i hb
 injection h with h
 subst h;simp only [Bl,ho,hx,hy,Uo,Cc,Vf,A5 hb,Bv]
def dr {α:Type} (l:List α) (lo hi:Int):Option (List α):=if 0<=lo/\lo<=hi/\hi<=l.length then some ((l.drop lo.toNat).take (hi.toNat-lo.toNat))else none
section
variable {α:Type} {f:α->List TV} {sz:Nat}
theorem Uf (hf:∀x,(f x).length=sz):∀(l:List α) (n:Nat),(AT f l).take (n*sz)=AT f (l.take n)
 |l,0=>by simp [AT]
 |[],n+1=>by simp [AT]
 |x::l,n+1=>by
  have h1:AT f (x::l)=f x++AT f l:=by simp [AT]
  have h2:AT f (x::l.take n)=f x++AT f (l.take n):=by simp [AT]
  rw [h1,EH,Na,List.take_append,hf x,Nat.add_sub_cancel_left,Uf hf l n,Lx,h2,Bb (by rw [hf x];omega)]
theorem AGR {P:Program} {E:St} {o:Oper} (hf:∀x,(f x).length=sz) {l v:List α} {a b:Int} (h:dr l a b=some v) {t e e':TypeId} {x oh:Operand} {lo:Option Operand} {k1 k2:IntKind} {r:Root} {q:List Nat} {j:Nat} (ho:o.op= .slice t x lo (some oh) none:=by rfl) (ht:P.underlying t=some (.slice e):=by rfl)
  (hr:E.ref x=some (r,q,j):=by rfl) (hp:E.place r q j=some (.sl false e' sz (AT f l)):=by rfl) (hl:(match lo with|some o=>E.cell1 P 0 o|none=>some (.int .i64 0))=some (.int k1 a):=by rfl) (hh:E.cell1 P 0 oh=some (.int k2 b):=by rfl)
  (c:P.cellsOf e=sz:=by rfl) (h0:Nat.blt 0 sz=true:=by rfl):Bl P E o=some (.one (.sl false e' sz (AT f v))):=by
 have h0':0<sz:=by simpa [Bz]using h0
 unfold dr at h;split at h
 ·rename_i hc
  injection h with h
  subst h;have hl':∀lo':Option TV,lo'=some (.int k1 a)->(match lo',E.cell1 P 0 oh with|some (.int _ l0),some (.int _ h0)=>if sz=P.cellsOf e/\0<sz/\0<=l0/\l0<=h0/\h0.toNat*sz<=(AT f l).length then some (SV.one (.sl false e' sz (((AT f l).drop (l0.toNat*sz)).take ((h0.toNat-l0.toNat)*sz))))else none|_,_=>none)=some (SV.one (.sl false e' sz (AT f ((l.drop a.toNat).take (b.toNat-a.toNat))))):=by
   rintro _ rfl;rw [hh];simp only;rw [A4 ⟨c.symm,h0',hc.1,hc.2.1,by rw [Gf hf];exact Cv _ (by omega)⟩,Mt hf,Uf hf]
  simp only [Bl,ho,ht,hr,hp];exact hl' _ hl
 cases h
theorem AF7 {P:Program} {E:St} {o:Oper} (hf:∀x,(f x).length=sz) {l v:List α} {a:Int} (h:dr l a (ln l)=some v) {t e e':TypeId} {x:Operand} {lo:Option Operand} {k1:IntKind} {r:Root} {q:List Nat} {j:Nat} (ho:o.op= .slice t x lo none none:=by rfl) (ht:P.underlying t=some (.slice e):=by rfl)
  (hr:E.ref x=some (r,q,j):=by rfl) (hp:E.place r q j=some (.sl false e' sz (AT f l)):=by rfl) (hl:(match lo with|some o=>E.cell1 P 0 o|none=>some (.int .i64 0))=some (.int k1 a):=by rfl)
  (c:P.cellsOf e=sz:=by rfl) (h0:Nat.blt 0 sz=true:=by rfl):Bl P E o=some (.one (.sl false e' sz (AT f v))):=by
 have h0':0<sz:=by simpa [Bz]using h0
 have b:(AT f l).length/sz=l.length:=by rw [Gf hf];exact Fk _ h0'
 unfold dr at h;split at h
 ·rename_i hc
  injection h with h
  subst h;simp only [ln]at hc⊢;have hl':∀lo':Option TV,lo'=some (.int k1 a)->(match lo',some (TV.int .i64 (((AT f l).length/sz:Nat):Int))with|some (.int _ l0),some (.int _ h0)=>if sz=P.cellsOf e/\0<sz/\0<=l0/\l0<=h0/\h0.toNat*sz<=(AT f l).length then some (SV.one (.sl false e' sz (((AT f l).drop (l0.toNat*sz)).take ((h0.toNat-l0.toNat)*sz))))else none|_,_=>none)=some (SV.one (.sl false e' sz (AT f ((l.drop a.toNat).take (((l.length:Nat):Int).toNat-a.toNat))))):=by
   rintro _ rfl;rw [b];simp only;rw [A4 ⟨c.symm,h0',hc.1,hc.2.1,by rw [Gf hf];exact Cv _ (by omega)⟩,Mt hf,Uf hf]
  simp only [Bl,ho,ht,hr,hp];exact hl' _ hl
 cases h
end
theorem mZ {β:Type} {b:Bool} {x y:Option β} {r:β} {G:Prop} (h:(bif b then x else y)=some r) (h1:b=true->x=some r->G) (h2:y=some r->G):G:=by
 cases b with
 |true=>exact h1 rfl h
 |false=>exact h2 h
def uK (b:ByteArray):List Int:=b.data.toList.map λc=>(c.toNat:Int)
def aps (l:List Int) (b:ByteArray):Option (List Int):=if l.length+b.size<=140737488355328 then some (l++uK b)else none
theorem n7 {f:Int->List TV} (hf:∀n,f n=[.int .u8 n]) (b:ByteArray):T7 b=AT f (uK b):=by
 unfold T7 uK
 induction b.data.toList with
 |nil=>rfl
 |cons c l ih=>
  have e:∀(x:Int) (m:List Int),AT f (x::m)=f x++AT f m:=λx m=>by simp [AT]
  rw [BV,BV,e,hf,ih];rfl
section
variable {P:Program} {N:Nat} {E:St} {o:Oper} {d:Nat}
theorem AGH {f:Int->List TV} (hf:∀n,f n=[.int .u8 n]) {b:ByteArray} {src dst e:TypeId} {x:Operand} (ho:o.op= .convert src dst x:=by rfl) (hd:o.dst=some d:=by rfl) (hN:Nat.blt d N=true:=by rfl) (hs:P.underlying src=some .string:=by rfl) (a:P.underlying dst=some (.slice e):=by rfl)
  (hx:E.cell1 P src x=some (.str b):=by rfl) (c:rF P e=true:=by rfl):C7 P N false E o=some (E.put (some d) (.one (.sl false e 1 (AT f (uK b))))):=by
 have hN':d<N:=by simpa [Bz]using hN
 unfold C7;rw [hd];simp only [A4 hN',ho,Rf,hs,a,hx];rw [A4 c,n7 hf]
end
end Go.TI
namespace Go.TI
open Go Go.RowKit
structure Hv (w w':World) (B:List Nat):Prop where
 os:w'.os=w.os
 tape:w'.tape=w.tape
 output:w'.output=w.output
 size:w.heap.size<=w'.heap.size
 keep:∀b,b<w.heap.size->b∉B->w'.heap[b]?=w.heap[b]?
section
variable {w0:Base} {FA UA:List Nat} {N:Nat} {w:World} {a:Act} {E:St} {blk:Root->Nat} {FS US:Root->List Nat} {P:Program}
theorem CR.beside (h:CR w0 FA UA N w a E blk FS US) {w':World} {A':Hz} (hb:Hv w w' w0.B) (hB:A'.B=E.amb.B) (hI:A'.I w') (hP:∀b,A'.pin=some b->E.amb.pin=some b):CR w0 FA UA N w' a {E with amb:=A'} blk FS US:=by
 have hF:∀r,∀b∈FS r,w'.heap[b]?=w.heap[b]? :=λr b hx=>hb.keep b (h.inF r b hx).2 (λe=>by
  obtain⟨h1,h2,h3⟩:=h.ambF b e
  rcases(h.inF r b hx).1 with h4|h4
  ·exact h2 h4
  omega)
 have hU:∀r,∀b∈US r,w'.heap[b]?=w.heap[b]? :=λr b hx=>hb.keep b (h.inU r b hx).2 (λe=>by
  obtain⟨h1,h2,h3⟩:=h.ambF b e
  rcases(h.inU r b hx).1 with h4|h4|h4
  ·exact h3 h4
  ·exact h2 h4
  omega)
 have c:∀s,Cu w w' a a E {E with amb:=A'} blk blk s:=λs=>
  DS h rfl rfl (by cases s<;>rfl) (λ_ _=>rfl) (λ_=>rfl) (hF s) (hU s)
 have hr:∀r,G5 w' a {E with amb:=A'} blk r (FS r) (US r):=λr=>
  PZ c (h.root r) (λn _=>⟨rfl,rfl⟩) (λ_=>⟨rfl,rfl⟩) (hF r) (hU r)
 constructor
 ·exact λn=>hr (.slot n)
 ·intro r hm
  cases r with
  |slot n=>cases hm
  |hand=>cases hm
  |box n=>exact hr (.box n)
  |ext n=>exact hr (.ext n)
 ·exact h.nohand
 ·exact h.nodup
 ·exact h.dis
 ·exact h.disU
 ·exact λr b hx=>⟨(h.inF r b hx).1,Bj (h.inF r b hx).2 hb.size⟩
 ·exact λr b hx=>⟨(h.inU r b hx).1,Bj (h.inU r b hx).2 hb.size⟩
 ·exact h.disA
 ·exact hb.os.trans h.os
 ·exact hb.tape.trans h.tape
 ·exact hb.output.trans h.output
 ·exact Hs h.size hb.size
 ·exact λb h1 h2 h3=>(hb.keep b (Bj h1 h.size) h3).trans (h.keep b h1 h2 h3)
 ·exact h.len
 ·exact h.nodef
 ·exact h.xblk
 ·rw [hB];exact h.ambB
 ·exact hI
 ·exact h.frz
 ·exact h.ambF
 exact λb hp=>h.pin b (hP b hp)
end
def NJ (P:Program) (f:FuncId) (A:Hz) (as:List AV) (A':Hz):Prop:=
 ∀(w:World) (vs:List Value),JR w as vs [] []->(∀b∈A.B,b<w.heap.size)->A.I w->Calls P f vs.toArray w λe w'=>e= .returned (.tuple #[])/\Hv w w' A.B/\A'.I w'
theorem Ms {P:Program} {f:FuncId} {fn:Func} {c:Code} {as:List AV} {A A':Hz} (hf:P.funcs[f]?=some fn) (hb:fn.body=some c) (hr:fn.results= #[]) (hp:A.pin=none)
  (h:Wp P fn.ntmps c (Eo as A) λe E=>(e= .normal\/e= .ret)/\E.amb=A'):NJ P f A as A':=by
 intro w vs ha hB hA;obtain⟨blk,FS,US,g,hF,hU⟩:=Q8 (N:=fn.ntmps) ha CO (by simp) (by simp) (A:=A) hA (λb hb=>⟨hB b hb,by simp,by simp⟩) (hpin:=λb h=>by rw [hp]at h;cases h);refine calls_of_wp hf hb (wp_mono (h _ _ _ _ _ _ _ _ g hF hU) ?_);rintro e a w' ⟨E,blk',FS',US',⟨he,rfl⟩,h2,h3,h4⟩;have i:(results fn a.tmps).run P w'= .ok (.tuple #[]) w':=by
  rw [XX (P:=P),hr];simp
 have d:a.defers=[]/\∃v,(results fn a.tmps).run P w'= .ok v w'/\Ending.returned v= .returned (.tuple #[])/\Hv w w' A.B/\E.amb.I w':=
  ⟨h2.nodef,_,i,rfl,⟨h2.os,h2.tape,h2.output,h2.size,λb h5 h6=>h2.keep b h5 (by simp) h6⟩,h2.ambI⟩
 rcases he with rfl|rfl
 ·exact d
 exact d
section
variable {N:Nat} {E:St} {P:Program} {ops:Array Oper} {oo:Oper} {rest:List Oper} {Q:Exit->St->Prop} {α β γ:Type} {rr:β}
theorem PM {w0:Base} {FA UA:List Nat} {w w':World} {a:Act} {blk:Root->Nat} {FS US:Root->List Nat} (h:CR w0 FA UA N w a E blk FS US) (hF:FS .hand=[]) (hU:US .hand=[]) {A':Hz} {d:Nat} (hd:d<N) {s:SV} {v:Value}
  (hb:Hv w w' w0.B) (hB:A'.B=E.amb.B) (hI:A'.I w') (hs:Vr w' s v [] []) (hP:∀b,A'.pin=some b->E.amb.pin=some b):
  ∃FS' US',CR w0 FA UA N w' (a.put (some d) v) (({E with amb:=A'}:St).put (some d) s) blk FS' US'/\FS' .hand=[]/\US' .hand=[]:=by
 have k:=h.beside hb hB hI hP;exact k.land (w':=w') (F:=[]) (U:=[]) hd (My hs) CO (by simp) (by simp) (A0 _) rfl rfl rfl (λ_ _ _=>rfl)
theorem MU {x:Option α} {k:α->Option β} (h:x.bind k=some rr) (d:Nat) (Am:α->Hz) {A:Hz} {f:FuncId} {args:Array Operand} {tys:Array TypeId} {fn:Func} {l:List AV}
  (ho:oo.op= .call {callee:= .value (.func f),args:=args,argTypes:=tys}) (hA:E.amb=A) (hB:∀v,(Am v).B=A.B/\(Am v).pin=none) (m:H8 P E ((tys.toList.zip args.toList).map λ(t,x)=>(false,t,x)) (List.replicate args.size none)=some (l,true)) (n:∀w vs F U,JR w l vs F U->F=[]/\U=[])
  (o:∀v,x=some v->NJ P f A l (Am v)) (hk:∀v,x=some v->k v=some rr->AC P N ops rest (({E with amb:=Am v}:St).put (some d) (.tup [])) Q)
  (hf : P.funcs[f]? = some fn := by rfl) (hn : (fn.name == "runtime.NumGoroutine") = false := by rfl) (hb : fn.body.isNone = false := by rfl) (hd : oo.dst = some d := by rfl) (hN : Nat.blt d N = true := by rfl) (hz : tys.size = args.size := by rfl) (hg : B7 P ops E oo = some true := by rfl) : AC P N ops (oo :: rest) E Q := by
 obtain⟨v,hv,h⟩:=Ar.1 h;have hN':d<N:=by simpa [Bz]using hN
 intro w0 FA UA w a blk FS US hr hF hU;simp only [wpList,C5 hr hg,Cc];refine .inl ?_;have i:((tys.toList.zip args.toList).map λ(t,x)=>(false,t,x)).length=args.size:=by simp [hz]
 obtain⟨U',k5,k6⟩:=Kk hr (Yp (l:=(tys.toList.zip args.toList).map λ(t,x)=>(false,t,x))) (by rw [i];exact m);have p:((tys.toList.zip args.toList).map λ(t,x)=>(false,t,x)).map (λx=>a.eval x.2.2)=(args.map a.eval).toList:=by
  rw [Ow,EJ];have:((λx:Bool×TypeId×Operand=>a.eval x.2.2)∘λ(x:TypeId×Operand)=>(false,x.1,x.2))=a.eval∘Prod.snd:=rfl;refine(BH (λg=>List.map g (tys.toList.zip args.toList)) this).trans ?_;rw [<-EJ,List.map_snd_zip (by simp [hz])]
 rw [p]at k5;obtain⟨_,rfl⟩:=n _ _ _ _ k5;have j:w0.B=A.B:=hr.ambB.trans (by rw [hA])
 have c:=o v hv w _ k5 (λb hb=>by
  rw [<-j]at hb
  exact Bj (hr.ambF b hb).1 hr.size) (by rw [<-hA];exact hr.ambI)
 unfold Oper.wp;rw [Jn ho ⟨fn,hf,by intro e;rw [e]at hn;simp at hn,hb⟩];simp only [Oper.upon];rw [P3]at c;refine Calls.mono c ?_;rintro e w' ⟨rfl,q,hI⟩;obtain⟨FS',US',q1,q2,q3⟩:=PM (s:= .tup []) (v:= .tuple #[]) hr hF hU hN' (by rw [j];exact q) (by rw [(hB _).1,hA]) hI ⟨[],rfl,rfl,rfl,rfl⟩ (λb hb=>by rw [(hB _).2]at hb;cases hb);rw [hd];exact hk v hv h _ _ _ _ _ _ _ _ q1 q2 q3
def JS (P:Program) (Am:List γ->Hz) (lt:γ->γ->Bool) (g:FuncId) (cap:Array Value):Prop:=
 (∀(args:Array Value) (w:World),(callFunc g args).run P w= .ok (.enter g args) w)/\∀(l:List γ) (i j:Int) (x y:γ),gi l i=some x->gi l j=some y->∀w,(Am l).I w->(∀b∈(Am l).B,b<w.heap.size)->Calls P g (#[.int .i64 i,.int .i64 j]++cap) w λe w'=>e= .returned (.bool (lt x y))/\Hv w w' (Am l).B/\(Am l).I w'
def NI (P:Program) (Am:List γ->Hz) (sf:FuncId) (cap:Array Value):Prop:=
 ∀(l:List γ) (i j:Int) (x y:γ),gi l i=some x->gi l j=some y->∀w,(Am l).I w->(∀b∈(Am l).B,b<w.heap.size)->∃w',(callFunc sf (#[.int .i64 i,.int .i64 j]++cap)).run P w= .ok (.value (.tuple #[])) w'/\Hv w w' (Am l).B/\(Am (si (si l i y) j x)).I w'
theorem SK {a:Act} {w:World} {o:Oper} {t:Nat} {args:Array Operand} {tys:Array TypeId} {g:FuncId} {cap:Array Value} (ho:o.op= .call {callee:= .value (.tmp t),args:=args,argTypes:=tys}) (hv:a.eval (.tmp t)= .func (.func g) #[] cap):
  (execOp a.eval o).run P w=(callFunc g (args.map a.eval++cap)).run P w:=by
 simp [execOp,ho,resolve,hv,Deferred.ofValue,invoke]
theorem ACN {w0:Base} {FA UA:List Nat} {w:World} {a:Act} {blk:Root->Nat} {FS US:Root->List Nat} (h:CR w0 FA UA N w a E blk FS US) {t:Nat} {f:Fn} {ta cap:Array Value} (hs:E.slots t= .one (.fn f ta cap)):a.eval (.tmp t)= .func f ta cap:=by
 have:=h.slot t;rw [hs]at this;simp only [E8,CL,CB]at this;exact this.1.1
theorem AFH {Am:List γ->Hz} {lt:γ->γ->Bool} {g:FuncId} {cap:Array Value} (c:JS P Am lt g cap) {l:List γ} {x y:γ} {i j:Int} (hx:gi l i=some x) (hy:gi l j=some y) (d:Nat) {t:Nat} {o1 o2:Operand} {tys:Array TypeId}
  (hk:AC P N ops rest (E.put (some d) (.one (.bool (lt x y)))) Q) (hA:E.amb=Am l:=by rfl) (ho:oo.op= .call {callee:= .value (.tmp t),args:= #[o1,o2],argTypes:=tys}:=by rfl) (hs:E.slots t= .one (.fn (.func g) #[] cap):=by rfl) (h1:E.cell1 P 0 o1=some (.int .i64 i):=by rfl) (h2:E.cell1 P 0 o2=some (.int .i64 j):=by rfl)
  (hd:oo.dst=some d:=by rfl) (hN:Nat.blt d N=true:=by rfl) (hg:B7 P ops E oo=some true:=by rfl):AC P N ops (oo::rest) E Q:=by
 have hN':d<N:=by simpa [Bz]using hN
 intro w0 FA UA w a blk FS US hr hF hU;simp only [wpList,C5 hr hg,Cc];refine .inl ?_;have h:w0.B=(Am l).B:=hr.ambB.trans (by rw [hA])
 have m:∀b∈(Am l).B,b<w.heap.size:=λb hb=>by
  rw [<-h]at hb;exact Bj (hr.ambF b hb).1 hr.size
 have hI:(Am l).I w:=by rw [<-hA];exact hr.ambI
 have f:=c.2 l i j x y hx hy w hI m;unfold Oper.wp;have e1:=Dj hr h1;have e2:=Dj hr h2;have k:(execOp a.eval oo).run P w= .ok (.enter g (#[.int .i64 i,.int .i64 j]++cap)) w:=by
  rw [SK ho (ACN hr hs)];rw [c.1];simp [e1,e2]
 rw [k];simp only [Oper.upon];refine Calls.mono f ?_;rintro e w' ⟨rfl,n,hI'⟩
 obtain⟨FS',US',q1,q2,q3⟩:=PM (A':=E.amb) (s:= .one (.bool (lt x y))) (v:= .bool (lt x y)) hr hF hU hN' (by rw [h];exact n) rfl (by
  rw [hA]
  exact hI') ⟨⟨rfl,rfl,rfl⟩,rfl⟩ (λ_ hb=>hb)
 rw [hd];exact hk _ _ _ _ _ _ _ _ q1 q2 q3
theorem AFF {Am:List γ->Hz} {sf:FuncId} {cap:Array Value} (c:NI P Am sf cap) (hB:∀l l',(Am l).B=(Am l').B/\(Am l).pin=none) {l:List γ} {x y:γ} {i j:Int} (hx:gi l i=some x) (hy:gi l j=some y) (d:Nat) {t:Nat} {o1 o2:Operand} {tys:Array TypeId}
  (hk:AC P N ops rest (({E with amb:=Am (si (si l i y) j x)}:St).put (some d) (.tup [])) Q) (hA:E.amb=Am l:=by rfl) (ho:oo.op= .call {callee:= .value (.tmp t),args:= #[o1,o2],argTypes:=tys}:=by rfl) (hs:E.slots t= .one (.fn (.func sf) #[] cap):=by rfl) (h1:E.cell1 P 0 o1=some (.int .i64 i):=by rfl) (h2:E.cell1 P 0 o2=some (.int .i64 j):=by rfl)
  (hd:oo.dst=some d:=by rfl) (hN:Nat.blt d N=true:=by rfl) (hg:B7 P ops E oo=some true:=by rfl):AC P N ops (oo::rest) E Q:=by
 have hN':d<N:=by simpa [Bz]using hN
 intro w0 FA UA w a blk FS US hr hF hU;simp only [wpList,C5 hr hg,Cc];refine .inl ?_;have f:w0.B=(Am l).B:=hr.ambB.trans (by rw [hA])
 have h:∀b∈(Am l).B,b<w.heap.size:=λb hb=>by
  rw [<-f]at hb;exact Bj (hr.ambF b hb).1 hr.size
 have hI:(Am l).I w:=by rw [<-hA];exact hr.ambI
 obtain⟨w',e,k,hI'⟩:=c l i j x y hx hy w hI h;unfold Oper.wp;have e1:=Dj hr h1;have e2:=Dj hr h2;have g:(execOp a.eval oo).run P w= .ok (.value (.tuple #[])) w':=by
  rw [SK ho (ACN hr hs)];simpa [e1,e2]using e
 rw [g];rw [Oper.upon_value];obtain⟨FS',US',q1,q2,q3⟩:=PM (s:= .tup []) (v:= .tuple #[]) hr hF hU hN' (by rw [f];exact k) (by rw [hA];exact(hB _ _).1) hI' ⟨[],rfl,rfl,rfl,rfl⟩ (λb hb=>by rw [(hB _ []).2]at hb;cases hb);rw [hd];exact hk _ _ _ _ _ _ _ _ q1 q2 q3
def gi2 {γ:Type} (l:List γ) (i j:Int):Option (γ×γ):=(gi l i).bind λx=>(gi l j).bind λy=>some (x,y)
theorem W3 {Am:List γ->Hz} {lt:γ->γ->Bool} {g:FuncId} {cap:Array Value} (a:JS P Am lt g cap) {l:List γ} {i j:Int} {k:γ×γ->Option β} (h:(gi2 l i j).bind k=some rr) (d:Nat) {t:Nat} {o1 o2:Operand} {tys:Array TypeId}
  (hk:∀v,k v=some rr->AC P N ops rest (E.put (some d) (.one (.bool (lt v.1 v.2)))) Q) (hA:E.amb=Am l:=by rfl) (ho:oo.op= .call {callee:= .value (.tmp t),args:= #[o1,o2],argTypes:=tys}:=by rfl) (hs:E.slots t= .one (.fn (.func g) #[] cap):=by rfl) (h1:E.cell1 P 0 o1=some (.int .i64 i):=by rfl) (h2:E.cell1 P 0 o2=some (.int .i64 j):=by rfl)
  (hd:oo.dst=some d:=by rfl) (hN:Nat.blt d N=true:=by rfl) (hg:B7 P ops E oo=some true:=by rfl):AC P N ops (oo::rest) E Q:=by
 obtain⟨v,hv,h⟩:=Ar.1 h;obtain⟨x,hx,hv⟩:=Ar.1 hv;obtain⟨y,hy,hv⟩:=Ar.1 hv
 injection hv with hv
 subst hv;exact AFH a hx hy d (hk _ h) hA ho hs h1 h2 hd hN hg
def y9 {γ:Type} (l:List γ) (i j:Int):Option (List γ):=(gi l i).bind λx=>(gi l j).bind λy=>some (si (si l i y) j x)
theorem W2 {Am:List γ->Hz} {sf:FuncId} {cap:Array Value} (a:NI P Am sf cap) (hB:∀l l',(Am l).B=(Am l').B/\(Am l).pin=none) {l:List γ} {i j:Int} {k:List γ->Option β} (h:((y9 l i j).bind k)=some rr) (d:Nat) {t:Nat} {o1 o2:Operand} {tys:Array TypeId}
  (hk:∀l',k l'=some rr->AC P N ops rest (({E with amb:=Am l'}:St).put (some d) (.tup [])) Q) (hA:E.amb=Am l:=by rfl) (ho:oo.op= .call {callee:= .value (.tmp t),args:= #[o1,o2],argTypes:=tys}:=by rfl) (hs:E.slots t= .one (.fn (.func sf) #[] cap):=by rfl) (h1:E.cell1 P 0 o1=some (.int .i64 i):=by rfl) (h2:E.cell1 P 0 o2=some (.int .i64 j):=by rfl)
  (hd:oo.dst=some d:=by rfl) (hN:Nat.blt d N=true:=by rfl) (hg:B7 P ops E oo=some true:=by rfl):AC P N ops (oo::rest) E Q:=by
 obtain⟨l',hl',h⟩:=Ar.1 h;obtain⟨x,hx,hl'⟩:=Ar.1 hl';obtain⟨y,hy,hl'⟩:=Ar.1 hl'
 injection hl' with hl'
 subst hl';exact AFF a hB hx hy d (hk _ h) hA ho hs h1 h2 hd hN hg
def EZ (ls:List (Nat×SV)) (bs:List (Root×List TV)) (A:Hz):St:={AA ls bs with amb:=A}
end
def TV.flat:TV->Bool
 | .int .. | .bool _| .str _| .fn .. =>true
 |_=>false
def AFv:AV->Bool
 | .sv (.one t)=>t.flat
 | .sv (.agg cs)=>cs.all TV.flat
 |_=>false
theorem qK {w:World} {t:TV} {v:Value} {F U:List Nat} (h:CB w t v F U) (ht:t.flat=true):F=[]/\U=[]:=by
 cases t<;>first|(cases ht;done)|(simp only [CB]at h;exact h.2)
theorem NX {w:World}:∀{ts:List TV} {vs:List Value} {F U:List Nat},B3 w ts vs F U->ts.all TV.flat=true->F=[]/\U=[]
 |[],vs,F,U,h,_=>by simp only [B3]at h;exact h.2
 |t::ts,vs,F,U,h,ht=>by
  simp only [EG,An]at ht;simp only [B3]at h;obtain⟨v,vs',F1,F2,U1,U2,rfl,rfl,rfl,h1,h2⟩:=h;obtain⟨rfl,rfl⟩:=qK h1 ht.1;obtain⟨rfl,rfl⟩:=NX h2 ht.2;exact⟨rfl,rfl⟩
theorem ER:∀{l:List AV},l.all AFv=true->∀(w:World) (vs:List Value) (F U:List Nat),JR w l vs F U->F=[]/\U=[]
 |[],_,w,vs,F,U,h=>h.2
 |s::l,hl,w,vs,F,U,h=>by
  simp only [EG,An]at hl;obtain⟨v,vs',F1,F2,U1,U2,rfl,rfl,rfl,h1,h2⟩:=h;obtain⟨rfl,rfl⟩:=ER hl.2 w vs' F2 U2 h2;have:F1=[]/\U1=[]:=by
   match s,hl.1,h1 with
   | .sv (.one t),ht,h1=>exact qK h1.1 ht
   | .sv (.agg cs),ht,h1=>obtain⟨_,_,h1⟩:=h1;exact NX h1 ht
  obtain⟨rfl,rfl⟩:=this;exact⟨rfl,rfl⟩
end Go.TI
namespace Go.TI
open Go Go.RowKit
def TV.val:TV->Value
 | .int k n=> .int k n
 | .bool b=> .bool b
 | .str s=> .string s
 | .fn f ta c=> .func f ta c
 |_=> .bool false
theorem ADH {w:World} {t:TV} {v:Value} {F U:List Nat} (h:CB w t v F U) (ht:t.flat=true):v=t.val:=by
 cases t<;>first|(cases ht;done)|(simp only [CB]at h;exact h.1)
theorem XY {w:World}:∀{ts:List TV} {vs:List Value} {F U:List Nat},B3 w ts vs F U->ts.all TV.flat=true->vs=ts.map TV.val
 |[],vs,F,U,h,_=>by simp only [B3]at h;exact h.1
 |t::ts,vs,F,U,h,ht=>by
  simp only [EG,An]at ht;simp only [B3]at h;obtain⟨v,vs',F1,F2,U1,U2,rfl,_,_,h1,h2⟩:=h;rw [ADH h1 ht.1,XY h2 ht.2];rfl
theorem ADu {w:World} {t:TV} (ht:t.flat=true):CB w t t.val [] []:=by
 cases t<;>first|(cases ht;done)|(simp [CB,TV.val])
theorem WF {w:World}:∀{ts:List TV},ts.all TV.flat=true->B3 w ts (ts.map TV.val) [] []
 |[],_=>by simp [B3]
 |t::ts,ht=>by
  simp only [EG,An]at ht;simp only [B3,BV];exact⟨_,_,[],[],[],[],rfl,rfl,rfl,ADu ht.1,WF ht.2⟩
theorem yW {t:TV}:t.val.oneCell'=true:=by cases t<;>rfl
theorem NE (e:TypeId) (fz:Nat×Nat) (g:Nat):∀(vs:List Value) (o:Nat) (cur:Array Value) (w:World),w.heap[g]?=some (.cells cur e fz)->o+vs.length<=cur.size->(w.setCells g o vs).heap[g]?=some (.cells (setRow cur.toList o vs).toArray e fz)
 |[],o,cur,w,h,_=>by
  simp only [World.setCells];rw [h];congr 2;apply tT;simp [setRow]
 |v::vs,o,cur,w,h,hl=>by
  simp only [Ay]at hl;simp only [World.setCells];have h1:(w.setCell ⟨g,o,none⟩ v).heap[g]?=some (.cells (cur.setIfInBounds o v) e fz):=by
   simp only [World.setCell,Array.getElem?_modify,Cc,h,Bv];rfl
  rw [NE e fz g vs (o+1) (cur.setIfInBounds o v) _ h1 (by simp;omega)];congr 2;apply tT;simp only [Array.toList_setIfInBounds];apply Df;intro k;have l1:(cur.toList.take o).length=o:=by simp;omega
  have l2:((cur.toList.set o v).take (o+1)).length=o+1:=by simp;omega
  simp only [setRow,Aq]
  rcases MZ k o with hk|hk|hk
  ·rw [AS (by omega),AS (by omega),Ck,Ck,A4 (by omega),A4 hk,List.getElem?_set_ne (by omega)]
  ·subst hk;rw [AS (by omega),AU (by omega),Ck,A4 (by omega),List.getElem?_set_self (by simp;omega),l1];simp
  have eL:(List.take (o+1) (cur.toList.set o v)++(vs++List.drop (o+1+vs.length) (cur.toList.set o v)))[k]?=(vs++List.drop (o+1+vs.length) (cur.toList.set o v))[k-(o+1)]? :=by
   rw [AU (by omega),l2]
  have eR:(List.take o cur.toList++(v::vs++List.drop (o+(v::vs).length) cur.toList))[k]?=(vs++List.drop (o+(v::vs).length) cur.toList)[k-(o+1)]? :=by
   rw [AU (by omega),l1,show k-o=(k-(o+1))+1 by omega,BB,List.getElem?_cons_succ]
  rw [eL,eR];by_cases hv:k-(o+1)<vs.length
  ·rw [AS hv,AS hv]
  rw [AU (by omega),AU (by omega),Cl,Cl,List.getElem?_set_ne (by omega),Ay];congr 1;omega
section
variable {γ:Type}
structure fC (n b g cap:Nat) (e T:TypeId) (sz:Nat) (enc:γ->List TV) (w:World) (l:List γ):Prop where
 ne:b≠g
 len:l.length=n
 box:w.heap[b]?=some (.cells #[.slice (some ⟨g,0,none⟩) l.length cap] T (0,0))
 row:∃cur,w.heap[g]?=some (.cells cur e (0,0))/\cur.size=cap*sz/\cur.toList.take (l.length*sz)=(AT enc l).map TV.val
 le:l.length<=cap/\cap<=maxLen
def Ky (n b g cap:Nat) (e T:TypeId) (sz:Nat) (enc:γ->List TV) (l:List γ):Hz where
 B:=[b,g]
 I:=λw=>fC n b g cap e T sz enc w l
 st:=λw w' h hk=>⟨h.ne,h.len,by rw [hk b (by simp)];exact h.box,by rw [hk g (by simp)];exact h.row,h.le⟩
 rd:=λad=>if ad.spot.isSome=true then none else if ad.block=b then(if ad.off=0 then some (.slice (some ⟨g,0,none⟩) n cap)else none)else if ad.block=g then(if ad.off<l.length*sz then((AT enc l).map TV.val)[ad.off]? else none)else none
 rdI:=λw ad v h hr=>by
  obtain⟨bl,off,spot⟩:=ad
  cases spot with
  |some s=>simp at hr
  |none=>
   simp only [GD,BR,GB]at hr;split at hr
   ·rename_i hb;subst hb;split at hr
    ·rename_i ho;subst ho
     injection hr with hr
     subst hr;simp [World.cell?,h.box,h.len]
    cases hr
   split at hr
   ·rename_i hg;subst hg;split at hr
    ·rename_i ho;obtain⟨cur,h1,h2,h3⟩:=h.row;rw [<-h3,Ck,A4 ho]at hr;simpa [World.cell?,h1]using hr
    cases hr
   cases hr
theorem YV (f:γ->List TV) (x:γ) (l:List γ):AT f (x::l)=f x++AT f l:=by simp [AT]
theorem KM (g:Nat):∀(vs:List Value) (o:Nat) (w:World),(w.setCells g o vs).heap.size=w.heap.size
 |[],_,_=>rfl
 |v::vs,o,w=>by
  simp only [World.setCells];rw [KM g vs,World.size_setCell]
theorem N8 (g:Nat):∀(vs:List Value) (o:Nat) (w:World),(w.setCells g o vs).tape=w.tape
 |[],_,_=>rfl
 |v::vs,o,w=>by
  simp only [World.setCells];rw [N8 g vs,World.tape_setCell]
theorem Yt {α β:Type} (f:α->β) (A B:List α) (j:Nat):(setRow A j B).map f=setRow (A.map f) j (B.map f):=by
 simp [setRow,List.map_take,List.map_drop]
theorem fV {enc:γ->List TV} {sz:Nat} (a:∀x,(enc x).length=sz) (x z:γ):setRow (enc x) 0 (enc z)=enc z:=by
 simp only [setRow,Iy,A7,KG];rw [CP (by rw [a,a];exact A0 _),Az]
theorem dD {enc:γ->List TV} {sz:Nat} (a:∀x,(enc x).length=sz) {l:List γ} {i:Int} {x z:γ} (h:gi l i=some x):setRow (AT enc l) (i.toNat*sz) (enc z)=AT enc (si l i z):=
 TA a h (k:=0) (by rw [a];simp) (fV a x z)
theorem N1 {α:Type} {l:List α} {i:Int} {x:α} (h:gi l i=some x):0<=i/\l[i.toNat]?=some x:=by
 unfold gi at h;split at h
 ·exact⟨by assumption,h⟩
 cases h
theorem WN {P:Program} {b g cap:Nat} {e T:TypeId} {sz:Nat} {enc:γ->List TV} (d:∀x,(enc x).length=sz) (n:Nat) {sf:FuncId} (gS:Bool) (hx:∀args W,(callFunc sf args).run P W=((Extern.ReflectliteSwapper.swap gS args).run P W).andThen λv w'=> .ok (.value v) w')
  {ie:TypeInfo} (h7:P.info? e=some ie) (f:ie.size=sz) (r:∀w,(isAgg e).run P w= .ok true w):
  NI P (Ky n b g cap e T sz enc) sf #[.slice (some ⟨g,0,none⟩) n cap,typeHandle P e]:=by
 intro l i j x y hi hj w hI hB;obtain⟨s,hn,u,⟨cur,hg,h0,h3⟩,h4⟩:=hI;obtain⟨i0,i1⟩:=N1 hi;obtain⟨j0,j1⟩:=N1 hj;obtain⟨a,rfl⟩:=CZ i0;obtain⟨c,rfl⟩:=CZ j0;simp only [BA]at i1 j1;have la:=(Ah.1 i1).1;have lc:=(Ah.1 j1).1;have hX:((enc x).map TV.val).length=sz:=by rw [Bo];exact d x
 have hY:((enc y).map TV.val).length=sz:=by rw [Bo];exact d y
 have a5:(AT enc l).length=l.length*sz:=Gf d l;have o:l.length*sz<=cur.size:=by rw [h0];exact Cv _ h4.1
 have h8:(a+1)*sz<=l.length*sz:=Cv _ la;have h9:(c+1)*sz<=l.length*sz:=Cv _ lc;rw [EH]at h8 h9;have cell:∀(m:Nat) (z:γ),l[m]?=some z->∀k v,((enc z).map TV.val)[k]?=some v->w.cell? ⟨g,0+m*ie.size+k,none⟩=some v:=by
  intro m z hm k v hk;have h5:=(Ah.1 hk).1;rw [Bo,d]at h5;have lm:=(Ah.1 hm).1;have a0:(m+1)*sz<=l.length*sz:=Cv _ lm;rw [EH]at a0;rw [f,KG];have e1:(AT enc l)[m*sz+k]?=(enc z)[k]? :=by
   have:=Mt d l m;have h2:(AT enc l)[m*sz+k]?=((AT enc l).drop (m*sz))[k]? :=by rw [Cl]
   rw [h2,this,Bh lm];have e3:AT enc (l[m]::l.drop (m+1))=enc l[m]++AT enc (l.drop (m+1)):=YV _ _ _;have e4:l[m]=z:=by rw [Ab lm]at hm;injection hm
   rw [e3,e4,AS (by rw [d];exact h5)]
  have e2:cur.toList[m*sz+k]?=some v:=by
   have:(cur.toList.take (l.length*sz))[m*sz+k]?=cur.toList[m*sz+k]? :=by rw [Ck,A4 (by omega)]
   rw [<-this,h3,Bf,e1,<-Bf,hk]
  simp only [World.cell?,hg,Aa];simpa using e2
 have frz:∀(m k:Nat),w.frozen? ⟨g,0+m*ie.size+k,none⟩=false:=by
  intro m k;simp [World.frozen?,hg]
 have p:=Go.Lib.run_swap_cells (P:=P) gS e ie h7 r g 0 n cap a c (by omega) (by omega) ((enc x).map TV.val) ((enc y).map TV.val) (by rw [hX,f]) (by rw [hY,f]) (λv hv=>by obtain⟨t,_,rfl⟩:=AO.1 hv;exact yW) (λv hv=>by obtain⟨t,_,rfl⟩:=AO.1 hv;exact yW) w (cell a x i1) (cell c y j1) (λk _=>frz a k) (λk _=>frz c k);simp only [KG,f]at p;have h1:=NE e (0,0) g ((enc y).map TV.val) (a*sz) cur w hg (by rw [hY];omega);have a1:(setRow cur.toList (a*sz) ((enc y).map TV.val)).toArray.size=cur.size:=by
  rw [List.size_toArray,Gk (by rw [hY];simp;omega)];simp
 have h2:=NE e (0,0) g ((enc x).map TV.val) (c*sz) _ _ h1 (by rw [a1,hX];omega);have kB:∀k,k<w.heap.size->k≠g->((w.setCells g (a*sz) ((enc y).map TV.val)).setCells g (c*sz) ((enc x).map TV.val)).heap[k]?=w.heap[k]? :=by
  intro k hk h6;have s1:(w.setCells g (a*sz) ((enc y).map TV.val)).heap.size=w.heap.size:=KM g _ _ _;rw [World.heap_setCells_other _ g _ _ (by rw [s1];exact hk) h6,World.heap_setCells_other _ g _ _ hk h6]
 refine⟨(w.setCells g (a*sz) ((enc y).map TV.val)).setCells g (c*sz) ((enc x).map TV.val),?_,⟨?_,?_,?_,?_,?_⟩,?_⟩
 ·rw [hx];have ea:(#[Value.int .i64 (a:Int),Value.int .i64 (c:Int)]++ #[Value.slice (some ⟨g,0,none⟩) n cap,typeHandle P e])= #[.int .i64 (a:Int),.int .i64 (c:Int),.slice (some ⟨g,0,none⟩) n cap,typeHandle P e]:=rfl;rw [ea,p];rfl
 ·rw [World.os_setCells,World.os_setCells]
 ·rw [N8,N8]
 ·rw [World.output_setCells,World.output_setCells]
 ·rw [KM,KM];exact A0 _
 ·intro k hk a2;exact kB k hk (λe=>a2 (by rw [e];simp [Ky]))
 have h:(si (si l (a:Int) y) (c:Int) x).length=l.length:=by simp [si]
 have lcur:cur.toList.length=cur.size:=by simp
 have q:(setRow cur.toList (a*sz) ((enc y).map TV.val)).length=cur.size:=by rw [Gk (by rw [hY,lcur];omega),lcur]
 have a3:(setRow (setRow cur.toList (a*sz) ((enc y).map TV.val)) (c*sz) ((enc x).map TV.val)).length=cur.size:=by rw [Gk (by rw [hX,q];omega),q]
 show fC n b g cap e T sz enc _ (si (si l (a:Int) y) (c:Int) x);refine⟨s,h.trans hn,?_,⟨_,h2,?_,?_⟩,by rw [h];exact h4⟩
 ·rw [kB b (hB b (by simp [Ky])) s,h];exact u
 ·rw [List.size_toArray];exact a3.trans h0
 rw [h];show((setRow (setRow cur.toList (a*sz) ((enc y).map TV.val)) (c*sz) ((enc x).map TV.val))).take (l.length*sz)=_;rw [PH (by rw [hX];omega) (by rw [q];exact o),PH (by rw [hY];omega) (by rw [lcur];exact o),h3,<-Yt,<-Yt];have e1:setRow (AT enc l) (a*sz) (enc y)=AT enc (si l (a:Int) y):=by
  have:=dD d (z:=y) hi
  rwa [BA]at this
 obtain⟨z0,a4⟩:∃z0,gi (si l (a:Int) y) (c:Int)=some z0:=by
  have lc2:c<(si l (a:Int) y).length:=by simp only [si,Gj];exact lc
  refine⟨(si l (a:Int) y)[c],?_⟩;unfold gi;rw [A4 (by omega),BA];exact Ab lc2
 have e2:=dD d (z:=x) a4;rw [BA]at e2;rw [e1,e2]
end
end Go.TI
namespace Go.TI
open Go Go.RowKit
section
variable {N:Nat} {E:St} {P:Program} {ops:Array Oper} {o:Oper} {rest:List Oper} {K:St->Prop}
theorem AAn {w0:Base} {FA UA:List Nat} {w:World} {a:Act} {blk:Root->Nat} {FS US:Root->List Nat} (h:CR w0 FA UA N w a E blk FS US) {t:Nat} {ad:Addr} (hs:E.slots t= .one (.adr ad)):a.eval (.tmp t)= .pointer (some ad):=by
 have:=h.slot t;rw [hs]at this;simp only [E8,CL,CB]at this;exact this.1.1
theorem AD7 {w0:Base} {FA UA:List Nat} {w:World} {a:Act} {blk:Root->Nat} {FS US:Root->List Nat} (h:CR w0 FA UA N w a E blk FS US) {t:Nat} {ad:Addr} {n c:Nat} (hs:E.slots t= .one (.hdr ad n c)):a.eval (.tmp t)= .slice (some ad) n c:=by
 have:=h.slot t;rw [hs]at this;simp only [E8,CL,CB]at this;exact this.1.1
theorem HW.any (d:Nat) (t:TV) (hk:HW P N ops rest (E.put (some d) (.one t)) K)
  (b:∀(w0:Base) (FA UA:List Nat) (w:World) (a:Act) (blk:Root->Nat) (FS US:Root->List Nat),CR w0 FA UA N w a E blk FS US->∃v,(execOp a.eval o).run P w= .ok (.value v) w/\CB w t v [] []/\v.cells= #[v])
  (hd:o.dst=some d:=by rfl) (hN:Nat.blt d N=true:=by rfl) (hg:B7 P ops E o=some true:=by rfl):HW P N ops (o::rest) E K:=by
 have hN':d<N:=by simpa [Bz]using hN
 intro w0 FA UA w a blk FS US k1 k2 k3;obtain⟨v,h1,h2,h3⟩:=b w0 FA UA w a blk FS US k1;simp only [wpStill,C5 k1 hg,Cc,Oper.still,h1,Oper.stillUpon_value];rw [hd];refine hk _ _ _ _ _ _ _ _ (k1.put (F:=[]) (U:=[]) hN' (by simp only [E8];exact⟨Gh h2,λ_=>h3⟩) cM.none) ?_ ?_
 ·rw [Bt (by simp),k2]
 rw [Bt (by simp),k3]
theorem Q7 (d:Nat) (t:TV) (v:Value) {ad:Addr} {ty:TypeId} {x:Nat} (hk:HW P N ops rest (E.put (some d) (.one t)) K) (hs:E.slots x= .one (.adr ad)) (b:E.amb.rd ad=some v) (hv:∀w,CB w t v [] []) (hc:v.cells= #[v]) (ha:cG P ty=false) (hu:(P.underlying ty).isSome=true)
  (ho:o.op= .load ty (.tmp x):=by rfl) (hd:o.dst=some d:=by rfl) (hN:Nat.blt d N=true:=by rfl) (hg:B7 P ops E o=some true:=by rfl):HW P N ops (o::rest) E K:=
 HW.any d t hk (λw0 FA UA w a blk FS US h=>by
  have h1:=AAn h hs;have h2:=E.amb.rdI w ad v h.ambI b;have c:P.underlying ty≠none:=by intro e;rw [e]at hu;cases hu
  refine⟨v,?_,hv w,hc⟩
  simp [execOp,ho,h1,Instr.loadAt,Instr.sureAddr,loadVar,TN c,ha,h2]) hd hN hg
theorem Ut (d:Nat) {ad:Addr} {st:TypeId} {x f:Nat} {fs:Array Field} {fd:Field} (hk:HW P N ops rest (E.put (some d) (.one (.adr (ad.add fd.offset)))) K) (hs:E.slots x= .one (.adr ad)) (c:P.underlying st=some (.struct fs)) (hf:fs[f]?=some fd) (b:P.cellsOf fd.type≠0)
  (ho:o.op= .fieldAddr st (.tmp x) f:=by rfl) (hd:o.dst=some d:=by rfl) (hN:Nat.blt d N=true:=by rfl) (hg:B7 P ops E o=some true:=by rfl):HW P N ops (o::rest) E K:=
 HW.any d (.adr (ad.add fd.offset)) hk (λw0 FA UA w a blk FS US h=>by
  have h1:=AAn h hs;obtain⟨i,hi,_⟩:=Gl b;refine⟨.pointer (some (ad.add fd.offset)),?_,by simp [CB],rfl⟩
  simp [execOp,ho,h1,Instr.fieldAt,run_underlying c,hf,Instr.sureAddr,fieldPlace,run_sizeOf w hi,b]) hd hN hg
theorem nF (d:Nat) {ad:Addr} {n c:Nat} {t e:TypeId} {x:Nat} {i:Operand} {k:IntKind} {m:Int} (hk:HW P N ops rest (E.put (some d) (.one (.adr (ad.add (m.toNat*P.cellsOf e))))) K) (hs:E.slots x= .one (.hdr ad n c)) (ht:P.underlying t=some (.slice e)) (hi:E.cell1 P 0 i=some (.int k m)) (h0:0<=m) (hm:m<n) (f:P.cellsOf e≠0)
  (ho:o.op= .indexAddr t (.tmp x) i:=by rfl) (hd:o.dst=some d:=by rfl) (hN:Nat.blt d N=true:=by rfl) (hg:B7 P ops E o=some true:=by rfl):HW P N ops (o::rest) E K:=
 HW.any d (.adr (ad.add (m.toNat*P.cellsOf e))) hk (λw0 FA UA w a blk FS US h=>by
  have h1:=AD7 h hs;have h2:=Dj h hi;obtain⟨inf,b,_⟩:=Gl f;refine⟨.pointer (some (ad.add (m.toNat*P.cellsOf e))),?_,by simp [CB],rfl⟩
  simp [execOp,ho,h1,h2,Instr.indexAt,run_underlying ht,asIntOf,h0,hm,run_sizeOf w b]) hd hN hg
end
def Tw (P:Program) (f:FuncId) (A:Hz) (as:List AV) (t:TV):Prop:=
 ∀(w:World) (vs:List Value),JR w as vs [] []->(∀b∈A.B,b<w.heap.size)->A.I w->Calls P f vs.toArray w λe w'=>e= .returned (Tw.val t)/\Hv w w' A.B/\A.I w'
where
 val:TV->Value
 | .int k n=> .int k n
 | .bool b=> .bool b
 | .str s=> .string s
 | .fn f ta c=> .func f ta c
 |_=> .bool false
theorem AB0 {w:World} {t:TV} {v:Value} {F U:List Nat} (h:CB w t v F U) (ht:t.flat=true):v=Tw.val t:=by
 cases t<;>first|(cases ht;done)|(simp only [CB]at h;exact h.1)
theorem sF {P:Program} {f:FuncId} {fn:Func} {c:Code} {as:List AV} {A:Hz} {t:TV} (hf:P.funcs[f]?=some fn) (hb:fn.body=some c) (ht:t.flat=true)
  (h:Wp P fn.ntmps c (Eo as A) λe E=>(e= .normal\/e= .ret)/\E.amb=A/\∃E',EN P E fn.results.toList=some ([.one t],E')) (hp:A.pin=none:=by rfl):Tw P f A as t:=by
 intro w vs ha hB hA;obtain⟨blk,FS,US,g,hF,hU⟩:=Q8 (N:=fn.ntmps) ha CO (by simp) (by simp) (A:=A) hA (λb hb=>⟨hB b hb,by simp,by simp⟩) (hpin:=λb h=>by rw [hp]at h;cases h);refine calls_of_wp hf hb (wp_mono (h _ _ _ _ _ _ _ _ g hF hU) ?_);rintro e a w' ⟨E,blk',FS',US',⟨he,i,E',h1⟩,h2,h3,h4⟩;obtain⟨us,FS2,US2,F,U,k1,k2,k3,k4,k5⟩:=Lm h2 h1;have k6:=Qh k2;have hv:=AB0 k6.1 ht;have hI:A.I w':=by rw [<-i];exact h2.ambI
 have d:a.defers=[]/\∃v,(results fn a.tmps).run P w'= .ok v w'/\Ending.returned v= .returned (Tw.val t)/\Hv w w' A.B/\A.I w':=
  ⟨h2.nodef,_,Nr k1,by rw [hv],⟨h2.os,h2.tape,h2.output,h2.size,λb h5 h6=>h2.keep b h5 (by simp) h6⟩,hI⟩
 rcases he with rfl|rfl
 ·exact d
 exact d
theorem eG {P : Program} {γ : Type} {Am : List γ → Hz} {lt : γ → γ → Bool} {g : FuncId} {fn : Func} {ad : Addr} (hf : P.funcs[g]? = some fn) (hn : (fn.name == "runtime.NumGoroutine") = false) (hb : fn.body.isNone = false)
  (h:∀(l:List γ) (i j:Int) (x y:γ),gi l i=some x->gi l j=some y->(∃w,(Am l).I w)->Tw P g (Am l) [.sv (.one (.int .i64 i)),.sv (.one (.int .i64 j)),.sv (.one (.adr ad))] (.bool (lt x y))):JS P Am lt g #[.pointer (some ad)]:=by
 refine⟨λargs w=>?_,λl i j x y hx hy w hI hB=>?_⟩
 ·have a:fn.body≠none:=by intro e;simp [e]at hb
  have b : fn.name ≠ "runtime.NumGoroutine" := by intro e; rw [e] at hn; simp at hn
  simp [callFunc,hf,b,a]
 exact h l i j x y hx hy ⟨w,hI⟩ w [.int .i64 i,.int .i64 j,.pointer (some ad)]
  ⟨_,_,[],[],[],[],rfl,rfl,rfl,⟨by simp [CB],rfl⟩,⟨_,_,[],[],[],[],rfl,rfl,rfl,⟨by simp [CB],rfl⟩,⟨_,_,[],[],[],[],rfl,rfl,rfl,⟨by simp [CB],rfl⟩,⟨rfl,rfl,rfl⟩⟩⟩⟩ hB hI
end Go.TI
namespace Go.TI
open Go Go.RowKit
def Rk {γ:Type} (P:Program) (f:FuncId) (t e sz:Nat) (enc:γ->List TV) (g:FuncId) (l l':List γ):Prop:=
 ∀(w:World) (b:Nat) (v:Value) (T:TypeId),w.heap[b]?=some (.cells #[v] T (0,0))->w.ownsRow 0 e sz v l.length ((AT enc l).map TV.val)->b∉C4 v->
  Calls P f #[.iface t v,.func (.func g) #[] #[.pointer (some ⟨b,0,none⟩)]] w λr w'=>r= .returned (.tuple #[])/\Hv w w' (b::C4 v)/\w'.heap[b]?=some (.cells #[v] T (0,0))/\w'.ownsRow 0 e sz v l'.length ((AT enc l').map TV.val)
section
variable {w0:Base} {FA UA:List Nat} {N:Nat} {w:World} {a:Act} {E:St} {blk:Root->Nat} {FS US:Root->List Nat} {P:Program}
theorem CR.turn (h:CR w0 FA UA N w a E blk FS US) (hF:FS .hand=[]) (hU:US .hand=[]) {r:Root} (hm:r.mem=true) {cells cells':List TV} (hc:E.boxes r=some cells) (k:cells'.length=cells.length) {w':World} (hb:Hv w w' (FS r))
  (f:∃cur T F,w'.heap[blk r]?=some (.cells cur T (0,0))/\B3 w' cells' cur.toList F (US r)/\FS r=blk r::F):
  ∃FS' US',CR w0 FA UA N w' a ((E.setRoot r cells').bump r) blk FS' US'/\FS' .hand=[]/\US' .hand=[]:=by
 have g:r≠ .hand:=by rintro rfl;cases hm
 have d:∀j,((E.setRoot r cells').bump r).place r [] j=cells'[j]? :=by
  intro j
  cases r with
  |slot n=>cases hm
  |hand=>cases hm
  |box n=>simp [St.place,St.bump,St.setRoot,St.root,Cp,BY]
  |ext n=>simp [St.place,St.bump,St.setRoot,St.root,Cp,BY]
 have c:∀j,E.place r [] j=cells[j]? :=by
  intro j
  cases r with
  |slot n=>cases hm
  |hand=>cases hm
  |box n=>simp [St.place,St.root,hc,BY]
  |ext n=>simp [St.place,St.root,hc,BY]
 let E1:St:=(E.setRoot r cells').bump r
 have ev:∀s,s≠r->E1.ver s=E.ver s:=by
  intro s hs;cases r<;>simp [E1,St.bump,St.setRoot,Cp,hs]
 have evr:E1.ver r=E.ver r+1:=by cases r<;>simp [E1,St.bump,St.setRoot,Cp]
 have eg:∀s,E1.gen s=E.gen s:=by intro s;cases r<;>rfl
 have er:∀s,s≠r->E1.root s=E.root s:=by
  intro s hs
  cases r with
  |slot n=>cases hm
  |hand=>cases hm
  |box n=>cases s<;>simp [E1,St.bump,St.setRoot,St.root,Cp,hs]
  |ext n=>cases s<;>simp [E1,St.bump,St.setRoot,St.root,Cp,hs]
 have es:∀n,E1.slots n=E.slots n:=by
  intro n
  cases r with
  |slot n=>cases hm
  |hand=>cases hm
  |box n=>rfl
  |ext n=>rfl
 have eb:∀s,E1.boxes s=if s=r then some cells' else E.boxes s:=by
  intro s
  cases r with
  |slot n=>cases hm
  |hand=>cases hm
  |box n=>rfl
  |ext n=>rfl
 have i:∀s,Cu w w' a a E E1 blk blk s:=by
  intro s;by_cases hs:s=r
  ·subst hs;refine⟨.inl (by rw [evr];omega),.inr ⟨eg s,λj ad hv hp=>?_⟩⟩;refine⟨(by cases s<;>first|exact hv|(cases hm)),?_⟩;rw [c]at hp;rw [show E1.place s [] j=cells'[j]? from d j];have hj:j<cells.length:=by
    rcases CW j cells.length with q|q
    ·exact q
    rw [Dv q]at hp;cases hp
   rw [Ab (by omega)];rfl
  by_cases hh:s= .hand
  ·subst hh;exact FW (ev _ hs) (eg _) (by simp [St.root,h.nohand])
  exact DS h (ev s hs) (eg s) (er s hs) (λ_ _=>rfl) (λ_=>rfl)
   (λb hx=>hb.keep b (h.inF s b hx).2 (h.dis s r hs b hx)) (λb hx=>hb.keep b (h.inU s b hx).2 (λe=>h.disU r s b e hx))
 have k7:=h.two (w':=w') (a':=a) (E':=E1) (blk':=blk) (r1:=r) (r2:= .hand) (L1:=FS r) (L2:=[]) (V1:=US r) (V2:=[]) g
  (by simpa using h.nodup r)
  (λb hx=>⟨.inl (by simpa using hx),Bj (h.inF r b (by simpa using hx)).2 hb.size⟩)
  (λb hx=> .inl ⟨r,by simpa using hx⟩)
  hb.size hb.os hb.tape hb.output (λb hx q _=>hb.keep b hx q) i (λn _ _=>⟨es n,rfl⟩) (λs _ hs _=>⟨by rw [eb,A5 hs],rfl⟩)
  (by
   obtain⟨cur,T,F,g1,g2,g3⟩:=f;have:G5 w' a E1 blk r (FS r) (US r):=by
    have e1:=eb r;rw [A4 rfl]at e1
    cases r with
    |slot n=>cases hm
    |hand=>cases hm
    |box n=>exact .inr ⟨cells',cur,T,F,e1,g1,g2,g3⟩
    |ext n=>exact .inr ⟨cells',cur,T,F,e1,g1,g2,g3⟩
   exact this)
  trivial (by rw [eb,A5 (ET g)];exact h.nohand) h.len h.nodef (hfz:=by
   intro n hn;have e:((E.setRoot r cells').bump r).fz=E.fz:=by rw [Pw,HA]
   exact h.frz n (e▸hn)) (hamb:=by show((E.setRoot r cells').bump r).amb=E.amb;rw [JP,Ej])
 exact⟨_,_,k7,BW _ _ _,BW _ _ _⟩
theorem rD (h:CR w0 FA UA N w a E blk FS US) (hF:FS .hand=[]) (hU:US .hand=[]) {d:Nat} (hd:d<N) (v:Value):∃FS' US',CR w0 FA UA N w (a.put (some d) v) (E.put (some d) (.one .junk)) blk FS' US'/\FS' .hand=[]/\US' .hand=[]:=
 h.land (w':=w) (F:=[]) (U:=[]) hd (by simp [E8,CL,TV.isJunk]) CO (by simp) (by simp) (A0 _) rfl rfl rfl (λ_ _ _=>rfl)
theorem Jq {γ:Type} {enc:γ->List TV} (a:∀x,(enc x).all TV.flat=true):∀l:List γ,(AT enc l).all TV.flat=true
 |[]=>rfl
 |x::l=>by
  have:AT enc (x::l)=enc x++AT enc l:=by simp [AT]
  rw [this,List.all_append,a,Jq a l];rfl
end
section
variable {N:Nat} {E:St} {P:Program} {ops:Array Oper} {rest:List Oper} {Q:Exit->St->Prop} {γ:Type}
theorem Pm {o:Oper} (h:o.guard=none):B7 P ops E o=some true:=by unfold B7;rw [h]
theorem AC.srt {enc:γ->List TV} {sz e t:Nat} {f lfn:FuncId} {l l':List γ} {r:Root} {o1 o2 o3:Oper} {d1 d2 d3 x p:Nat} {ver:Nat} {tys:Array TypeId} (hs:Rk P f t e sz enc lfn l l')
  (hk:AC P N ops rest (((((E.put (some d1) (.one .junk)).put (some d2) (.one .junk)).setRoot r [.sl true e sz (AT enc l')]).bump r).put (some d3) (.tup [])) Q)
  (h:∀x,(enc x).length=sz) (b:∀x,(enc x).all TV.flat=true)
  (hx:E.slots x= .one (.view r ver [] 0):=by rfl) (i:E.ver r=ver:=by rfl) (hp:E.ptr? (.tmp p)=some (r,[],0):=by rfl) (hc:E.boxes r=some [.sl true e sz (AT enc l)]:=by rfl) (hm:r.mem=true:=by rfl)
  (h1:o1.op= .makeInterface t (.tmp x):=by rfl) (h2:o2.op= .makeFunc (.func lfn) #[] #[.tmp p]:=by rfl) (h3:o3.op= .call {callee:= .value (.func f),args:= #[.tmp d1,.tmp d2],argTypes:=tys}:=by rfl)
  (k1:o1.dst=some d1:=by rfl) (k2:o2.dst=some d2:=by rfl) (k3:o3.dst=some d3:=by rfl) (g1:o1.guard=none:=by rfl) (g2:o2.guard=none:=by rfl) (g3:o3.guard=none:=by rfl)
  (m:Nat.blt d1 N=true:=by rfl) (o:Nat.blt d2 N=true:=by rfl) (u:Nat.blt d3 N=true:=by rfl) (y:Nat.beq d1 d2=false:=by rfl) (j:Nat.beq p d1=false:=by rfl) (z:Nat.blt 0 sz=true:=by rfl)
  (ht:P.underlying t=some (.slice e):=by rfl) (hf:mN P f):AC P N ops (o1::o2::o3::rest) E Q:=by
 have hN1':d1<N:=by simpa [Bz]using m
 have hN2':d2<N:=by simpa [Bz]using o
 have hN3':d3<N:=by simpa [Bz]using u
 have hne':d1≠d2:=by intro e;subst e;simp at y
 have hne2':p≠d1:=by intro e;subst e;simp at j
 have hsz':0<sz:=by simpa [Bz]using z
 intro w0 FA UA w a blk FS US hr hF hU;have k:∃v T F,w.heap[blk r]?=some (.cells #[v] T (0,0))/\CB w (.sl true e sz (AT enc l)) v F (US r)/\FS r=blk r::F:=by
  rcases hr.box r hm with⟨q1,_⟩|⟨cs,cur,T,F,q1,q2,q3,q4⟩
  ·rw [hc]at q1;cases q1
  rw [hc]at q1
  injection q1 with q1
  subst q1;simp only [B3]at q3;obtain⟨v,vs',F1,F2,U1,U2,e1,rfl,e3,q5,rfl,rfl,rfl⟩:=q3;have:cur= #[v]:=by apply tT;simpa using e1
  subst this;rw [Az]at q4;rw [e3,Az];exact⟨v,T,F1,q2,q5,q4⟩
 obtain⟨v,T,F,b1,b2,b3⟩:=k;simp only [CB]at b2;obtain⟨n,vs,F',b4,b5,rfl⟩:=b2;have h0:=XY b5 (Jq b l);obtain⟨rfl,a1⟩:=NX b5 (Jq b l);subst h0;have h4:n=l.length:=by
  have q:=b4.1;rw [Bo,Gf h l]at q;exact(Nat.eq_of_mul_eq_mul_right hsz' q).symm
 subst h4;rw [Az]at b3;have h5:blk r∉C4 v:=by
  have:=hr.nodup r;rw [b3]at this;exact(Dr.1 this).1
 have evx:a.eval (.tmp x)=v:=by
  have q:=hr.slot x;rw [hx]at q;simp only [E8,CL]at q;obtain⟨⟨_,_,_,q4⟩,_⟩:=q;obtain⟨q5,_⟩:=q4 i
  cases r with
  |slot n=>cases hm
  |hand=>cases hm
  |box n=>simpa [pv,Ca,Addr.add,World.cell?,b1]using q5.symm
  |ext n=>simpa [pv,Ca,Addr.add,World.cell?,b1]using q5.symm
 have evp:a.eval (.tmp p)= .pointer (some ⟨blk r,0,none⟩):=by
  obtain⟨_,ad,q1,q2⟩:=LW hr hp;rw [q2]
  cases r with
  |slot n=>cases hm
  |hand=>cases hm
  |box n=>simp [pa,Addr.add]at q1;rw [<-q1]
  |ext n=>simp [pa,Addr.add]at q1;rw [<-q1]
 obtain⟨FS1,US1,r1,r2,r3⟩:=rD hr hF hU hN1' (.iface t v);have e1:(execOp a.eval o1).run P w= .ok (.value (.iface t v)) w:=by
  simp [execOp,h1,Instr.makeInterface,run_underlying ht,evx]
 simp only [wpList,C5 hr (Pm (P:=P) (ops:=ops) g1),Cc];refine .inl ?_
 try unfold Oper.wp
 rw [e1,Oper.upon_value,k1];have evp1:(a.put (some d1) (.iface t v)).eval (.tmp p)= .pointer (some ⟨blk r,0,none⟩):=by rw [DL hne2',evp]
 obtain⟨FS2,US2,s1,s2,s3⟩:=rD r1 r2 r3 hN2' (.func (.func lfn) #[] #[.pointer (some ⟨blk r,0,none⟩)]);have e2:(execOp (a.put (some d1) (.iface t v)).eval o2).run P w= .ok (.value (.func (.func lfn) #[] #[.pointer (some ⟨blk r,0,none⟩)])) w:=by
  simp [execOp,h2,Instr.makeFunc,evp1]
 simp only [wpList,C5 r1 (Pm (P:=P) (ops:=ops) g2),Cc];refine .inl ?_
 try unfold Oper.wp
 rw [e2,Oper.upon_value,k2];simp only [wpList,C5 s1 (Pm (P:=P) (ops:=ops) g3),Cc];refine .inl ?_;have h6:d1<a.tmps.size:=Bj hN1' hr.len;have h7:d2<(a.put (some d1) (.iface t v)).tmps.size:=Bj hN2' r1.len
 try unfold Oper.wp
 rw [Jn h3 hf];have ea: #[Operand.tmp d1,.tmp d2].map ((a.put (some d1) (.iface t v)).put (some d2) (.func (.func lfn) #[] #[.pointer (some ⟨blk r,0,none⟩)])).eval= #[.iface t v,.func (.func lfn) #[] #[.pointer (some ⟨blk r,0,none⟩)]]:=by
  simp [HS h7,DL hne',HS h6]
 rw [ea];simp only [Oper.upon];refine Calls.mono (hs w (blk r) v T b1 b4 h5) ?_;rintro ee w' ⟨rfl,h8,h9,a0⟩;have c:((E.put (some d1) (.one .junk)).put (some d2) (.one .junk)).boxes r=some [.sl true e sz (AT enc l)]:=hc;have g:∃F2,FS2 r=blk r::F2/\F2=C4 v/\US2 r=[]:=by
  rcases s1.box r hm with⟨q1,_⟩|⟨cs,cur,T2,F2,q1,q2,q3,q4⟩
  ·rw [c]at q1;cases q1
  rw [c]at q1
  injection q1 with q1
  subst q1;rw [b1]at q2
  injection q2 with q2
  injection q2 with q2
  subst q2;simp only [B3]at q3;obtain⟨v2,vs',F3,F4,U1,U2,e1,rfl,e3,q5,rfl,rfl,rfl⟩:=q3;simp at e1;subst e1;simp only [CB]at q5;obtain⟨n,vs,F',c4,c5,rfl⟩:=q5;obtain⟨rfl,rfl⟩:=NX c5 (Jq b l);rw [Az]at e3;exact⟨_,q4,by simp,e3⟩
 obtain⟨F2,f1,rfl,f3⟩:=g;obtain⟨FS3,US3,t1,t2,t3⟩:=s1.turn s2 s3 hm c (cells':=[.sl true e sz (AT enc l')]) rfl (w':=w') (by rw [f1];exact h8)
  ⟨#[v],T,C4 v,h9,by
   rw [f3];simp only [B3];refine⟨v,[],C4 v,[],[],[],rfl,by simp,rfl,?_,rfl,rfl,rfl⟩;simp only [CB]
   exact⟨l'.length,_,[],a0,WF (Jq b l'),by simp⟩,f1⟩
 obtain⟨FS4,US4,u1,u2,u3⟩:=t1.land (w':=w') (d:=d3) (s:= .tup []) (v:= .tuple #[]) (F:=[]) (U:=[]) hN3' (by simp [E8,NO]) CO (by simp) (by simp) (A0 _) rfl rfl rfl (λ_ _ _=>rfl);rw [k3];exact hk _ _ _ _ _ _ _ _ u1 u2 u3
end
def zZ (b:Nat) (v:Value) (T:TypeId) (e sz n:Nat) (xs:List Value):Hz where
 B:=b::C4 v
 I:=λw=>w.heap[b]?=some (.cells #[v] T (0,0))/\w.ownsRow 0 e sz v n xs
 st:=λw w' h hk=>⟨by rw [hk b (by simp)];exact h.1,h.2.1,by
  rcases h.2.2 with q|⟨g,cap,cur,rfl,q1,q2,q3⟩
  ·exact .inl q
  exact .inr ⟨g,cap,cur,rfl,q1,by rw [hk g (by simp [C4,Value.ownBlock])];exact q2,q3⟩⟩
theorem j8 {γ:Type} {n b g cap:Nat} {e T:TypeId} {sz:Nat} {enc:γ->List TV} (a:∀x,(enc x).length=sz) {l:List γ} {i:Int} {x:γ} {k:Nat} {t:TV} {ad:Addr} (hi:gi l i=some x) (hk:(enc x)[k]?=some t) (hb:b≠g) (d:ad=⟨g,i.toNat*sz+k,none⟩):(Ky n b g cap e T sz enc l).rd ad=some t.val:=by
 subst d;obtain⟨i0,i1⟩:=N1 hi;have lm:=(Ah.1 i1).1;have c:=(Ah.1 hk).1;rw [a]at c;have f:(i.toNat+1)*sz<=l.length*sz:=Cv _ lm;rw [EH]at f;have e1:(AT enc l)[i.toNat*sz+k]?=(enc x)[k]? :=by
  have h2:(AT enc l)[i.toNat*sz+k]?=((AT enc l).drop (i.toNat*sz))[k]? :=by rw [Cl]
  rw [h2,Mt a l i.toNat,Bh lm,YV];have e4:l[i.toNat]=x:=by rw [Ab lm]at i1;injection i1
  rw [e4,AS (by rw [a];exact c)]
 simp only [Ky,GD,BR,GB];rw [A5 (λe=>hb e.symm),Cc,A4 (by omega),Bf,e1,hk];rfl
theorem j9 {γ:Type} {n b g cap:Nat} {e T:TypeId} {sz:Nat} {enc:γ->List TV} {l:List γ}:(Ky n b g cap e T sz enc l).rd ⟨b,0,none⟩=some (.slice (some ⟨g,0,none⟩) n cap):=by
 simp [Ky]
theorem AAo {g m:Nat}:((⟨g,0,none⟩:Addr).add m)=⟨g,m,none⟩:=by
 unfold Addr.add;split
 ·rename_i h;subst h;rfl
 simp
theorem AAh {α:Type} {l:List α} {i:Int} {x:α} (h:gi l i=some x):0<=i/\i<l.length:=by
 obtain⟨i0,i1⟩:=N1 h;have lm:=(Ah.1 i1).1;exact⟨i0,by omega⟩
end Go.TI
