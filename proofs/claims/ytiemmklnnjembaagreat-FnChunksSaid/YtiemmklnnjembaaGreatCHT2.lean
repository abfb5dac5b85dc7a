/- What walks of Go code need. No condition. -/
import Derived.Test.YtiemmklnnjembaaGreatCHT1
import Derived.Orders
import Derived.Still
import Derived.StillTail
import Derived.OrdersHeld
import Derived.Deep.Slices
import Derived.ChangeOld
import Derived.DataReads
import Derived.Lib.ReflectliteSwap
import Derived.Deep.Upon
namespace Go.TI
open Go Go.RowKit
variable (P:Program)in
def Ew (E:St):List ResultVar->Option (List SV×St)
 |[]=>some ([],E)
 | .tmp t::rs=>match E.val P 0 (.tmp t)with
  |some s=>match KI E s with
   |some (xs,E1)=>match Ew E1 rs with
    |some (ss,E2)=>some (s.withCells xs::ss,E2)
    |none=>none
   |none=>none
  |none=>none
 | .cell t ty :: rs => match Bh P E { dst := none, op := .load ty (.tmp t), type := ty, pos := "", after := #[], guard := none } with
  |some s=>match KI E s with
   |some (xs,E1)=>match Ew E1 rs with
    |some (ss,E2)=>some (s.withCells xs::ss,E2)
    |none=>none
   |none=>none
  |none=>none
def EU:List SV->SV
 |[s]=>s
 |ss=> .tup ss
section
variable {w0:Base} {FA UA:List Nat} {N:Nat} {w:World} {a:Act} {E:St} {blk:Root->Nat} {FS US:Root->List Nat} {P:Program}
def MU (P:Program) (tmps:Array Value):ResultVar->Sem Value
 | .tmp t=>pure (tmps.getD t undef)
 | .cell a t=>do loadVar t (<-asAddr (tmps.getD a undef))
theorem W6 (fn:Func) (tmps:Array Value):results fn tmps=(do
  let vs<-fn.results.mapM (MU P tmps)
  pure (if h:vs.size=1 then vs[0]else .tuple vs)):=by
 unfold results;congr 1
theorem IF:∀{rs:List ResultVar} {ss:List SV} {E E':St} {FS US:Root->List Nat},CB w0 FA UA N w a E blk FS US->Ew P E rs=some (ss,E')->
  ∃vs FS' US' F U,(rs.mapM (MU P a.tmps)).run P w= .ok vs w/\LG w ss vs F U/\CB w0 FA UA N w a E' blk FS' US'/\FS' .hand=FS .hand++F/\US' .hand=US .hand++U
 |[],ss,E,E',FS,US,h,ht=>by
  simp only [Ew,Ao,By]at ht;obtain⟨rfl,rfl⟩:=ht;exact⟨[],FS,US,[],[],by simp,by simp [LG],h,by simp,by simp⟩
 | .tmp t::rs,ss,E,E',FS,US,h,ht=>by
  simp only [Ew]at ht;split at ht
  ·rename_i s hs;split at ht
   ·rename_i xs E1 hx;split at ht
    ·rename_i ss' E2 d;simp only [Ao,By]at ht;obtain⟨rfl,rfl⟩:=ht;obtain⟨U,h1,h2⟩:=Lf h hs;obtain⟨FS1,US1,F1,U1,h3,h4,h5,h6,_,_⟩:=JA h h1 h2 hx;obtain⟨vs,FS2,US2,F2,U2,k1,k2,k3,k4,k5⟩:=IF h4 d;obtain⟨hp,hl⟩:=QA hx;refine⟨a.eval (.tmp t)::vs,FS2,US2,F1++F2,U1++U2,?_,?_,k3,by rw [k4,h5,Ap],by rw [k5,h6,Ap]⟩
     ·rw [List.mapM_cons];simp [MU,k1,Act.eval]
     ·simp only [LG];exact⟨_,vs,F1,F2,U1,U2,rfl,rfl,rfl,Lg h1 hp hl h3,k2⟩
    ·cases ht
   ·cases ht
  ·cases ht
 | .cell t ty::rs,ss,E,E',FS,US,h,ht=>by
  simp only [Ew]at ht;split at ht
  ·rename_i s hs;split at ht
   ·rename_i xs E1 hx;split at ht
    ·rename_i ss' E2 d;simp only [Ao,By]at ht;obtain⟨rfl,rfl⟩:=ht;obtain⟨v,U,h0,h1,h2⟩:=QO h hs;obtain⟨FS1,US1,F1,U1,h3,h4,h5,h6,_,_⟩:=JA h h1 h2 hx;obtain⟨vs,FS2,US2,F2,U2,k1,k2,k3,k4,k5⟩:=IF h4 d;obtain⟨hp,hl⟩:=QA hx;have b:=h0 w (fun r _=>⟨fun _ _=>rfl,fun _ _=>rfl⟩);have e:(MU P a.tmps (.cell t ty)).run P w= .ok v w:=by
      have c:∃r q j,E.ptr? (.tmp t)=some (r,q,j):=by
       simp only [Bh]at hs;split at hs
       ·rename_i r q j c;exact⟨r,q,j,c⟩
       ·cases hs
      obtain⟨r,q,j,c⟩:=c;obtain⟨_,ad,_,f⟩:=Lp h c;simp only [execOp,Instr.loadAt,f,Instr.sureAddr]at b;simp only [Act.eval]at f;simp only [MU,f,asAddr];simp only [Sem.run_bind,Sem.run_pure,Result.andThen_ok]at b⊢
      cases hl:(loadVar ty ad).run P w with
      |ok u w2=>
       rw [hl]at b;simp only [Result.andThen_ok,Result.ok.injEq,Next.value.injEq]at b;obtain⟨rfl,rfl⟩:=b;rfl
      |halt x w2=>
       rw [hl]at b;simp at b
     refine⟨v::vs,FS2,US2,F1++F2,U1++U2,?_,?_,k3,by rw [k4,h5,Ap],by rw [k5,h6,Ap]⟩
     ·rw [List.mapM_cons];simp [e,k1]
     ·simp only [LG];exact⟨_,vs,F1,F2,U1,U2,rfl,rfl,rfl,Lg h1 hp hl h3,k2⟩
    ·cases ht
   ·cases ht
  ·cases ht
theorem K8 {fn:Func} {vs:List Value} (h:(fn.results.toList.mapM (MU P a.tmps)).run P w= .ok vs w):(results fn a.tmps).run P w= .ok (if h:vs.length=1 then vs[0]else .tuple vs.toArray) w:=by
 rw [W6 (P:=P)];have:fn.results.mapM (MU P a.tmps)=List.toArray<$>fn.results.toList.mapM (MU P a.tmps):=by
  rw [<-List.mapM_toArray]
 rw [this];simp [h]
theorem MC {ss:List SV} {vs:List Value} {F U:List Nat} (h:LG w ss vs F U):Qn w (EU ss) (if h:vs.length=1 then vs[0]else .tuple vs.toArray) F U:=by
 unfold EU;split
 ·rename_i s;simp only [LG]at h;obtain⟨v,vs',F1,F2,U1,U2,rfl,rfl,rfl,h1,rfl,rfl,rfl⟩:=h;simpa using h1
 ·rename_i a;have hl:vs.length=ss.length:=by
   have:∀{ss:List SV} {vs:List Value} {F U:List Nat},LG w ss vs F U->vs.length=ss.length:=by
    intro ss
    induction ss with
    |nil=>intro vs F U h;simp only [LG]at h;simp [h.1]
    |cons s ss ih=>
     intro vs F U h;simp only [LG]at h;obtain⟨v,vs',F1,F2,U1,U2,rfl,rfl,rfl,h1,h2⟩:=h;simp [ih h2]
   exact this h
  have:¬vs.length=1:=by
   intro h1;rw [h1]at hl
   match ss,hl with
   |[s],_=>exact a s rfl
  rw [dif_neg this];simp only [Qn];exact⟨vs,rfl,h⟩
end
theorem WW {P:Program} {f:FuncId} {fn:Func} {c:Code} {as:List AV} {res:SV} (hf:P.funcs[f]?=some fn) (hb:fn.body=some c)
  (h:Wp P fn.ntmps c (DT as) fun e E=>(e= .normal\/e= .ret)/\∃ss E',Ew P E fn.results.toList=some (ss,E')/\EU ss=res):
  AW P f as res (List.replicate as.length .gone):=by
 intro w vs FA UA ha j i k;obtain⟨blk,FS,US,hr,hF,hU⟩:=NC (N:=fn.ntmps) ha j i k (A:=HL.none) trivial (fun b hb=>by cases hb);refine calls_of_wp hf hb (wp_mono (h _ _ _ _ _ _ _ _ hr hF hU) ?_);rintro e a w' ⟨E,blk',FS',US',⟨he,ss,E',h1,rfl⟩,h2,h3,h4⟩;obtain⟨us,FS2,US2,F,U,k1,k2,k3,k4,k5⟩:=IF h2 h1;rw [h3,A7]at k4;rw [h4,A7]at k5;have g:∀(n:Nat) (vs:List Value),vs.length=n->Ic w' (List.replicate n .gone) vs [] []:=by
  intro n
  induction n with
  |zero=>intro vs hv;simp at hv;subst hv;exact⟨rfl,rfl,rfl⟩
  |succ n ih=>
   intro vs hv
   cases vs with
   |nil=>simp at hv
   |cons v vs=>exact⟨v,vs,[],[],[],[],rfl,rfl,rfl,⟨rfl,rfl⟩,ih vs (by simpa using hv)⟩
 have l:vs.length=as.length:=by
  obtain⟨_,_,_,_,h5,_⟩:=NA ha;exact h5
 have d:a.defers=[]/\∃v,(results fn a.tmps).run P w'= .ok v w'/\∃v' F U G V,Ending.returned v= .returned v'/\Zx w w' FA UA (EU ss) (List.replicate as.length .gone) vs v' F U G V:=by
  refine⟨h2.nodef,_,K8 k1,_,F,U,[],[],rfl,?_⟩
  exact{
   res:=MC k2
   fin:=g _ _ l
   nodup:=by simpa [<-k4]using k3.nodup .hand
   dis:=by
    intro b hb hb';simp only [As]at hb hb';rw [<-k4]at hb;rw [<-k5]at hb';exact k3.disU .hand .hand b hb hb'
   inF:=by
    intro b hb;simp only [As]at hb;rw [<-k4]at hb;exact k3.inF .hand b hb
   inU:=by
    intro b hb;simp only [As]at hb;rw [<-k5]at hb;exact k3.inU .hand b hb
   os:=k3.os
   tape:=k3.tape
   output:=k3.output
   size:=k3.size
   keep:=fun b hb hF=>k3.keep b hb hF (fun e=>by cases e)}
 rcases he with rfl|rfl
 ·exact d
 ·exact d
end Go.TI
namespace Go.TI
open Go
section
variable {E:St} {d n:Nat} {s:SV} {r:Root} {xs:List TV} {P:Program} {N:Nat}
theorem ADf {ops:Array Oper} {l:List Oper} {Q:Exit->St->Prop} (t:Nat) {b:Bool} (_:E.cell1 P 0 (.tmp t)=some (.bool b)) (ht:b=true->A3 P N ops l E Q) (hf:b=false->A3 P N ops l E Q):A3 P N ops l E Q:=by
 cases b
 ·exact hf rfl
 ·exact ht rfl
theorem wQ {ops : Array Oper} {Q : Exit → St → Prop} {o : Oper} {rest : List Oper} {f : FuncId} {args : Array Operand} {tys : Array TypeId} (ho : o.op = .call { callee := .value (.func f), args := args, argTypes := tys }) {fn : Func} (hf : P.funcs[f]? = some fn) (hn : fn.name ≠ "runtime.NumGoroutine") (hb : fn.body.isNone = false)
  (hg:Bm P ops E o=some true) {d:Nat} (hd:o.dst=some d) (hN:d<N) (hz:tys.size=args.size) {l:List AV} {res:SV} {n:Nat} (b:AW P f l res (List.replicate n .gone)) {c:Bool}
  (e:Hb P E ((tys.toList.zip args.toList).map fun(t,x)=>(false,t,x)) (List.replicate args.size none)=some (l,c)) (hc:c=true\/BE res=false)
  (h:A3 P N ops rest (E.put (some d) res) Q):A3 P N ops (o::rest) E Q:=by
 have i:∀(l:List (TypeId×Operand)),Jn P E (l.map fun(t,x)=>(false,t,x))=some (List.replicate l.length none,E):=by
  intro l
  induction l with
  |nil=>rfl
  |cons x l ih=>
   obtain⟨t,x⟩:=x;simp only [BN,Jn,ih,Ax,Ey]
 have a:(tys.toList.zip args.toList).length=args.size:=by simp [hz]
 refine A3.call ho ⟨fn,hf,hn,hb⟩ hg (fun d' hd'=>by rw [hd]at hd';injection hd' with hd';subst hd';exact hN) ((tys.toList.zip args.toList).map fun(t,x)=>(false,t,x)) ?_ b ⟨_,E,c,i _,by rw [a];exact e,hc,by rw [hd]⟩ h;rw [Es];have:((fun x:Bool×TypeId×Operand=>x.2.2)∘fun(x:TypeId×Operand)=>(false,x.1,x.2))=Prod.snd:=rfl;exact(BH (fun g=>List.map g _) this).trans (List.map_snd_zip (by simp [hz]))
end
end Go.TI
namespace Go.TI
open Go Go.RowKit
def A9 (ls:List (Nat×SV)) (bs:List (Root×List TV)):St where
 slots:=fun n=>(ls.lookup n).getD (.one .junk)
 boxes:=fun r=>bs.lookup r
 ver:=fun _=>0
 gen:=fun _=>0
def tS (ls:List Nat) (bs:List Root):Root->Bool
 | .slot n=>ls.contains n
 |r=>bs.contains r
def RJ (E:St) (ls:List Nat) (bs:List Root):TV->TV
 | .view r v q j=>if E.ver r=v/\tS ls bs r=true then .view r 0 q j else .junk
 | .ptr r v q j=>if E.stamp r q=v/\tS ls bs r=true then .ptr r 0 q j else .junk
 |t=>t
def nSV (E:St) (ls:List Nat) (bs:List Root):SV->SV
 | .one t=> .one (RJ E ls bs t)
 | .agg cs=> .agg (cs.map (RJ E ls bs))
 | .tup _=> .one .junk
def Ff (E:St) (ls:List Nat) (bs:List Root):St:={A9 (ls.map fun n=>(n,nSV E ls bs (E.slots n))) (bs.map fun r=>(r,(E.boxes r).getD []))with amb:=E.amb,fz:=E.fz}
theorem RN {f:Nat->SV}:∀{ls:List Nat} {n:Nat},((ls.map fun n=>(n,f n)).lookup n)=if ls.contains n=true then some (f n)else none
 |[],n=>rfl
 |m::ls,n=>by
  simp only [BN,List.lookup_cons,List.contains_cons];by_cases h:n=m
  ·subst h;simp
  ·have:(n==m)=false:=by simpa using h
   rw [this,RN];simp
theorem Jo {f:Root->List TV}:∀{bs:List Root} {r:Root},((bs.map fun r=>(r,f r)).lookup r)=if bs.contains r=true then some (f r)else none
 |[],r=>rfl
 |s::bs,r=>by
  simp only [BN,List.lookup_cons,List.contains_cons];by_cases h:r=s
  ·subst h;simp
  ·have:(r==s)=false:=by simpa using h
   rw [this,Jo];simp
section
variable {w0:Base} {FA UA:List Nat} {N:Nat} {w:World} {a:Act} {E:St} {blk:Root->Nat} {FS US:Root->List Nat} {P:Program}
theorem zP {ls:List Nat} {bs:List Root} {o:Bool} {e sz:Nat} {cells:List TV}:RJ E ls bs (.sl o e sz cells)= .sl o e sz cells:=rfl
theorem AAr {ls:List Nat} {bs:List Root} {cs row:List TV} {c:Nat} {q:List Nat} (h:BQ cs (c::q)=some row):BQ (cs.map (RJ E ls bs)) (c::q)=some row:=by
 simp only [BQ,Bc]at h⊢;split at h
 ·rename_i o e sz cells hc;simp only [hc,Bz,zP];exact h
 ·cases h
theorem vH {ls:List Nat} {bs:List Root} {r:Root} (hk:tS ls bs r=true) (hb:∀r∈bs,r.mem=true/\(E.boxes r).isSome=true) (c:E.boxes .hand=none):
  (∀n,r≠ .slot n)->(Ff E ls bs).root r=E.root r:=by
 intro hn;have a:∀r,bs.contains r=true->(bs.map fun r=>(r,(E.boxes r).getD [])).lookup r=E.boxes r:=by
  intro r hr;rw [Jo,Ay hr];obtain⟨cs,b⟩:=ER.1 (hb r (by simpa using hr)).2;rw [b];rfl
 cases r with
 |slot n=>exact absurd rfl (hn n)
 |box n=>exact a _ hk
 |ext n=>exact a _ hk
 |hand=>exact a _ hk
theorem aA {ls:List Nat} {bs:List Root} {n:Nat}:(Ff E ls bs).slots n=if ls.contains n=true then nSV E ls bs (E.slots n)else .one .junk:=by
 simp only [Ff,A9];rw [RN];split<;>rfl
theorem WE {ls:List Nat} {bs:List Root} {r:Root} {q:List Nat} {j:Nat} (hk:tS ls bs r=true) (hb:∀r∈bs,r.mem=true/\(E.boxes r).isSome=true) (d:E.boxes .hand=none)
  (hq:q=[]->r.mem=true\/J9 (E.place r q j)=true) (hs:(E.place r q j).isSome=true):(Ff E ls bs).place r q j=E.place r q j:=by
 by_cases b:∃n,r= .slot n
 ·obtain⟨n,rfl⟩:=b;have hk':ls.contains n=true:=hk;simp only [St.place,St.root,Aa]at hs hq⊢;rw [aA,Ay hk'];have a:(nSV E ls bs (E.slots n)).cells=(E.slots n).cells.map (RJ E ls bs)\/(E.slots n).cells=[]:=by
   cases E.slots n with
   |one t=>exact .inl rfl
   |agg cs=>exact .inl rfl
   |tup ss=>exact .inr rfl
  rcases a with hc|hc
  ·rw [hc]
   cases q with
   |nil=>
    rcases hq rfl with h1|h1
    ·cases h1
    ·simp only [BQ,Aa]at h1⊢;rw [Bc]
     cases hx:(E.slots n).cells[j]? with
     |none=>rw [hx]at h1;cases h1
     |some t=>
      rw [hx]at h1;cases t<;>first|rfl|cases h1
   |cons c q=>
    cases hx:BQ (E.slots n).cells (c::q)with
    |none=>rw [hx]at hs;cases hs
    |some row=>rw [AAr hx]
  ·rw [hc]at hs;exfalso
   cases q with
   |nil=>simp [BQ]at hs
   |cons c q=>simp [BQ]at hs
 ·simp only [St.place,vH hk hb d (fun n e=>b ⟨n,e⟩)]
theorem Xq {ls:List Nat} {bs:List Root} (hb:∀r∈bs,r.mem=true/\(E.boxes r).isSome=true) (d:E.boxes .hand=none) {t:TV} {v:Value} {F U:List Nat} (h:CE w a E blk t v F U):CE w a (Ff E ls bs) blk (RJ E ls bs t) v F U:=by
 cases t with
 |view r ver q j=>
  obtain⟨rfl,rfl,_,hc⟩:=h;simp only [RJ];split
  ·rename_i c;obtain⟨h1,h2⟩:=hc c.1;refine⟨rfl,rfl,LC _,fun _=>⟨h1,?_⟩⟩;rw [WE c.2 hb d (fun _=> .inr h2) (by cases hx:E.place r q j with|none=>rw [hx]at h2;cases h2|some _=>rfl)];exact h2
  ·exact⟨rfl,rfl⟩
 |ptr r ver q j=>
  obtain⟨rfl,rfl,_,hc⟩:=h;simp only [RJ];split
  ·rename_i c;obtain⟨h1,ad,h2,h3⟩:=hc c.1;refine⟨rfl,rfl,LC _,fun _=>⟨?_,ad,h2,h3⟩⟩;rw [WE c.2 hb d (fun hq=> .inl (by subst hq;cases r<;>first|rfl|(simp [pa]at h2;done))) h1];exact h1
  ·exact⟨rfl,rfl⟩
 |junk=>exact h
 |int k n=>exact h
 |bool b=>exact h
 |str s=>exact h
 |fn _ _ _=>exact h
 |adr _=>exact h
 |hdr _ _ _=>exact h
 |sl o e sz cells=>exact h
theorem TR {ls:List Nat} {bs:List Root} (hb:∀r∈bs,r.mem=true/\(E.boxes r).isSome=true) (b:E.boxes .hand=none):∀{ts:List TV} {vs:List Value} {F U:List Nat},C9 w a E blk ts vs F U->C9 w a (Ff E ls bs) blk (ts.map (RJ E ls bs)) vs F U
 |[],_,_,_,h=>h
 |t::ts,vs,F,U,h=>by
  obtain⟨v,vs',F1,F2,U1,U2,h1,h2,h3,h4,h5⟩:=h;exact⟨v,vs',F1,F2,U1,U2,h1,h2,h3,Xq hb b h4,TR hb b h5⟩
theorem CB.norm (h:CB w0 FA UA N w a E blk FS US) (ls:List Nat) (bs:List Root) (hb:∀r∈bs,r.mem=true/\(E.boxes r).isSome=true):
  ∃FS' US',CB w0 FA UA N w a (Ff E ls bs) blk FS' US'/\FS' .hand=[]/\US' .hand=[]:=by
 have e:=h.nohand
 let st:Root->Bool:=fun r=>match r with
  | .slot n=>ls.contains n&&(match E.slots n with| .tup _=>false|_=>true)
  | .hand=>false
  |r=>bs.contains r
 let FS':Root->List Nat:=fun r=>if st r=true then FS r else []
 let US':Root->List Nat:=fun r=>if st r=true then US r else []
 have hF:∀r b,b∈FS' r->b∈FS r:=by intro r b hx;simp only [FS']at hx;split at hx;exact hx;cases hx
 have hU:∀r b,b∈US' r->b∈US r:=by intro r b hx;simp only [US']at hx;split at hx;exact hx;cases hx
 refine⟨FS',US',?_,by simp [FS',st],by simp [US',st]⟩;constructor
 ·intro n;rw [aA];have hs:=h.slot n
  cases hc:ls.contains n with
  |false=>
   have:st (.slot n)=false:=by show(ls.contains n&&_)=false;rw [hc];rfl
   simp [Eq,CE,TV.isJunk,FS',US',this]
  |true=>
   rw [Ay rfl]
   cases c:E.slots n with
   |one t=>
    have:st (.slot n)=true:=by show(ls.contains n&&_)=true;rw [hc,c];rfl
    rw [c]at hs;simp only [Eq]at hs;simp only [nSV,Eq,FS',US',this,Cd];refine⟨Xq hb e hs.1,fun hj=>hs.2 ?_⟩;cases t<;>first|rfl|cases hj
   |agg cs=>
    have:st (.slot n)=true:=by show(ls.contains n&&_)=true;rw [hc,c];rfl
    rw [c]at hs;simp only [Eq]at hs;obtain⟨vs,h1,h2⟩:=hs;simp only [nSV,Eq,FS',US',this,Cd];exact⟨vs,h1,TR hb e h2⟩
   |tup ss=>
    have:st (.slot n)=false:=by show(ls.contains n&&_)=false;rw [hc,c];rfl
    simp [nSV,Eq,CE,TV.isJunk,FS',US',this]
 ·intro r hr
  cases hc:bs.contains r with
  |false=>
   have d:st r=false:=by cases r<;>first|exact hc|cases hr
   refine .inl ⟨?_,by simp [FS',d],by simp [US',d]⟩;show(bs.map fun r=>(r,(E.boxes r).getD [])).lookup r=none;rw [Jo,A0 (by rw [hc];simp)]
  |true=>
   have d:st r=true:=by cases r<;>first|exact hc|cases hr
   have f:(Ff E ls bs).boxes r=E.boxes r:=by
    show(bs.map fun r=>(r,(E.boxes r).getD [])).lookup r=_;rw [Jo,Ay hc];obtain⟨cs,g⟩:=ER.1 (hb r (by simpa using hc)).2;rw [g];rfl
   rw [f];simp only [FS',US',d,Cd];exact h.box r hr
 ·show(bs.map fun r=>(r,(E.boxes r).getD [])).lookup .hand=none;rw [Jo,A0];intro hx;have:=(hb .hand (by simpa using hx)).1;cases this
 ·intro r;simp only [FS'];split
  ·exact h.nodup r
  ·exact CJ
 ·exact fun r s i b hx hy=>h.dis r s i b (hF r b hx) (hF s b hy)
 ·exact fun r s b hx hy=>h.disU r s b (hF r b hx) (hU s b hy)
 ·exact fun r b hx=>h.inF r b (hF r b hx)
 ·exact fun r b hx=>h.inU r b (hU r b hx)
 ·exact h.disA
 ·exact h.os
 ·exact h.tape
 ·exact h.output
 ·exact h.size
 ·exact h.keep
 ·exact h.len
 ·exact h.nodef
 ·exact h.xblk
 ·exact h.ambB
 ·exact h.ambI
 ·exact h.frz
 ·exact h.ambF
theorem Wp.norm {c:Code} {Q:Exit->St->Prop} (ls:List Nat) (bs:List Root) (E':St) (hb:bs.all (fun r=>r.mem&&(E.boxes r).isSome)=true) (hE:Ff E ls bs=E') (h:Wp P N c E' Q):Wp P N c E Q:=by
 intro w0 FA UA w a blk FS US hr hF hU
 obtain⟨FS',US',h1,h2,h3⟩:=hr.norm ls bs (fun r hm=>by
  have:=HI.1 hb r hm
  simpa using this)
 rw [hE]at h1;exact h _ _ _ _ _ _ _ _ h1 h2 h3
end
end Go.TI
namespace Go.TI
open Go Go.RowKit
def AWp (P:Program) (N:Nat) (ops:Array Oper) (fuel:Nat) (listed:Array Bool) (E:St) (Q:Exit->St->Prop):Prop:=
 ∀(w0:Base) (FA UA:List Nat) (w:World) (a:Act) (blk:Root->Nat) (FS US:Root->List Nat),CB w0 FA UA N w a E blk FS US->FS .hand=[]->US .hand=[]->wpAny P .any ops (nP w0 FA UA N Q) fuel listed a w
def AOp (P:Program) (N:Nat) (ops:Array Oper) (i:Nat) (E:St) (K:St->Prop) (Q:Exit->St->Prop):Prop:=
 ∀(w0:Base) (FA UA:List Nat) (w:World) (a:Act) (blk:Root->Nat) (FS US:Root->List Nat),CB w0 FA UA N w a E blk FS US->FS .hand=[]->US .hand=[]->
  wpOp P ops (nP w0 FA UA N Q) i (fun a' w'=>∃E' blk' FS' US',K E'/\CB w0 FA UA N w' a' E' blk' FS' US'/\FS' .hand=[]/\US' .hand=[]) a w
section
variable {N:Nat} {E:St} {P:Program} {ops:Array Oper} {Q:Exit->St->Prop} {K:St->Prop} {i:Nat} {o:Oper} {fuel:Nat} {listed:Array Bool}
theorem ADI (hr:Region.ready .any ops listed=[]) (h:Q .normal E):AWp P N ops fuel listed E Q:=
 fun w0 FA UA w a blk FS US k1 k2 k3=>wpAny_done hr ⟨E,blk,FS,US,h,k1,k2,k3⟩ fuel
theorem AWp.all (rs:List Nat) (hr:Region.ready .any ops listed=rs) (b:rs≠ []) (h:∀i∈rs,AOp P N ops i E (fun E'=>AWp P N ops fuel (listed.setIfInBounds i true) E' Q) Q):AWp P N ops (fuel+1) listed E Q:=
 fun w0 FA UA w a blk FS US k1 k2 k3=>wpAny_all hr b fun i hi=>wpOp_mono (fun a' w' ⟨E',blk',FS',US',m1,m2,m3,m4⟩=>m1 _ _ _ _ _ _ _ _ m2 m3 m4) (h i hi _ _ _ _ _ _ _ _ k1 k2 k3)
theorem AWp.one (i:Nat) (hr:Region.ready .any ops listed=[i]) (h:AOp P N ops i E (fun E'=>AWp P N ops fuel (listed.setIfInBounds i true) E' Q) Q):AWp P N ops (fuel+1) listed E Q:=
 AWp.all [i] hr (by simp) fun j hj=>by
  have:j=i:=by simpa using hj
  subst this;exact h
end
end Go.TI
namespace Go.TI
open Go Go.RowKit
def Js (P:Program) (N:Nat) (ops:Array Oper) (l:List Oper) (E:St) (K:St->Prop):Prop:=
 ∀(w0:Base) (FA UA:List Nat) (w:World) (a:Act) (blk:Root->Nat) (FS US:Root->List Nat),CB w0 FA UA N w a E blk FS US->FS .hand=[]->US .hand=[]->
  wpStill P ops w (fun a'=>∃E' blk' FS' US',K E'/\CB w0 FA UA N w a' E' blk' FS' US'/\FS' .hand=[]/\US' .hand=[]) l a
def Ik (P:Program) (E:St) (o:Oper):Option SV:=match o.op with
 | .build t parts=>Ve P E t parts.toList
 |_=>Bh P E o
section
variable {w0:Base} {FA UA:List Nat} {N:Nat} {w:World} {a:Act} {E:St} {blk:Root->Nat} {FS US:Root->List Nat} {P:Program} {ops:Array Oper} {Q:Exit->St->Prop} {K:St->Prop} {o:Oper} {rest:List Oper}
theorem V0 (h:CB w0 FA UA N w a E blk FS US) {s:SV} (hs:Ik P E o=some s):EA P w a E blk FS US o s:=by
 unfold Ik at hs;split at hs
 ·rename_i ho;exact lO h ho hs
 ·exact QO h hs
theorem Js.nil (h:K E):Js P N ops [] E K:=fun w0 FA UA w a blk FS US k1 k2 k3=>⟨E,blk,FS,US,h,k1,k2,k3⟩
theorem Js.op (s:SV) {d:Nat} (hg:Bm P ops E o=some true) (hd:o.dst=some d) (hN:d<N) (hs:Ik P E o=some s) (h:Js P N ops rest (E.put (some d) s) K):Js P N ops (o::rest) E K:=by
 intro w0 FA UA w a blk FS US k1 k2 k3;obtain⟨v,U,h1,h2,h3⟩:=V0 k1 hs;have hr:=h1 w (fun r _=>⟨fun _ _=>rfl,fun _ _=>rfl⟩);simp only [wpStill,Ct k1 hg,Cd,Oper.still,hr,Oper.stillUpon_value];rw [hd];refine h _ _ _ _ _ _ _ _ (k1.put hN h2 (N4 k1 h3 _)) ?_ ?_
 ·rw [Bs (by simp),k2]
 ·rw [Bs (by simp),k3]
theorem AAM {d:Nat} (hd:o.dst=some d) (hN:d<N) (hg:Bm P ops E o=some false) (h:Js P N ops rest (E.put (some d) (.tup [])) K):Js P N ops (o::rest) E K:=by
 intro w0 FA UA w a blk FS US hr hF hU;simp only [wpStill,Ct hr hg];rw [A0 (by simp),hd];refine h _ _ _ _ _ _ _ _ (hr.put (F:=[]) (U:=[]) hN (by simp only [Eq];exact⟨[],rfl,by simp [Nd]⟩) Zz.none) ?_ ?_
 ·rw [Bs (by simp),hF]
 ·rw [Bs (by simp),hU]
theorem ADe {l:List Oper} (t:Nat) {b:Bool} (_:E.cell1 P 0 (.tmp t)=some (.bool b)) (ht:b=true->Js P N ops l E K) (hf:b=false->Js P N ops l E K):Js P N ops l E K:=by
 cases b
 ·exact hf rfl
 ·exact ht rfl
theorem X1 {id:Nat} {l:List Oper} (hm:P.follows .mixedOrders=true) (hB:Region.lexB .any l.toArray=true) (h:Js P N l.toArray l E (fun E'=>Q .normal E')):Wp P N (.region id l.toArray true) E Q:=by
 intro w0 FA UA w a blk FS US k1 k2 k3;obtain⟨FS',US',m1,m2,m3⟩:=k1.drop (w':={w with drawn:=w.drawn+1}) (A4 _) rfl rfl rfl (fun _ _ _=>rfl);exact wp_region_still_lit hm hB (h _ _ _ _ _ _ _ _ m1 m2 m3)
theorem NI {Q1 Q2:Act->Prop} (hq:∀a,Q1 a->Q2 a):∀{l:List Oper} {a:Act},wpStill P ops w Q1 l a->wpStill P ops w Q2 l a
 |[],a,h=>hq a h
 |o::l,a,h=>by
  simp only [wpStill]at h⊢;split
  ·rename_i hw;rw [Ay hw]at h;exact Oper.still_mono (fun a k=>NI hq k) h
  ·rename_i hw;rw [A0 hw]at h;exact NI hq h
theorem rX {id:Nat} {l:List Oper} (n:Nat) (hm:P.follows .mixedOrders=true) (hB:Region.lexTailB .any l.toArray n=true) (h:Js P N l.toArray (l.take n) E (fun E'=>A3 P N l.toArray (l.drop n) E' Q)):Wp P N (.region id l.toArray true) E Q:=by
 intro w0 FA UA w a blk FS US k1 k2 k3;obtain⟨FS',US',m1,m2,m3⟩:=k1.drop (w':={w with drawn:=w.drawn+1}) (A4 _) rfl rfl rfl (fun _ _ _=>rfl);refine wp_region_still_tail n hm hB (NI ?_ (h _ _ _ _ _ _ _ _ m1 m2 m3));rintro a' ⟨E',blk',FS2,US2,h1,h2,h3,h4⟩;exact h1 _ _ _ _ _ _ _ _ h2 h3 h4
end
end Go.TI
namespace Go.TI
open Go Go.RowKit
def AN {α:Type} (f:α->List TV) (l:List α):List TV:=(l.map f).flatten
def gi {α:Type} (l:List α) (i:Int):Option α:=if 0<=i then l[i.toNat]? else none
def si {α:Type} (l:List α) (i:Int) (x:α):List α:=l.set i.toNat x
def ln {α:Type} (l:List α):Int:=(l.length:Nat)
section
variable {α:Type} {f:α->List TV} {sz:Nat}
theorem E5 (hf:∀x,(f x).length=sz):∀l:List α,(AN f l).length=l.length*sz
 |[]=>by simp [AN]
 |x::l=>by
  have:=E5 hf l;simp only [AN,BN,Ri,Ag,Ax,hf]at this⊢;rw [this,DR,UH]
theorem Ga (x:α) (l:List α):AN f (x::l)=f x++AN f l:=rfl
theorem MJ (l m:List α):AN f (l++m)=AN f l++AN f m:=by simp [AN]
theorem Qd {l:List α} {i:Int} {x:α} (h:gi l i=some x):0<=i/\i.toNat<l.length/\l[i.toNat]?=some x:=by
 unfold gi at h;split at h
 ·exact⟨by assumption,(Ah.1 h).1,h⟩
 ·cases h
theorem LB (hf:∀x,(f x).length=sz):∀(l:List α) (n:Nat),(AN f l).drop (n*sz)=AN f (l.drop n)
 |l,0=>by simp
 |[],n+1=>by simp [AN]
 |x::l,n+1=>by
  rw [Ga,List.drop_succ_cons,<-LB hf l n,DR,UH,<-Cy,E4 (hf x)]
theorem rD (hf:∀x,(f x).length=sz) {l:List α} {i:Int} {x:α} (h:gi l i=some x):((AN f l).drop (i.toNat*sz)).take sz=f x:=by
 obtain⟨_,h1,h2⟩:=Qd h;rw [LB hf,Bq h1,Ga,ON (hf _)];rw [Ab h1]at h2
 injection h2 with h2
 rw [h2]
theorem MI (hf:∀x,(f x).length=sz) {l:List α} {i:Int} {x:α} (h:gi l i=some x) {k:Nat} (hk:k<sz):(AN f l)[i.toNat*sz+k]?=(f x)[k]? :=by
 rw [<-rD hf h,BZ,Ay hk,Ca]
theorem WX (hf:∀x,(f x).length=sz) {l:List α} {i:Int} {x:α} (h:gi l i=some x):(i.toNat+1)*sz<=(AN f l).length:=by
 rw [E5 hf];exact Cl _ (Qd h).2.1
theorem Pb (hf:∀x,(f x).length=sz):∀(l:List α) (n:Nat) (y:List TV) (z:α) {k:Nat} {x:α},l[n]?=some x->k+y.length<=sz->setRow (f x) k y=f z->setRow (AN f l) (n*sz+k) y=AN f (l.set n z)
 |[],n,y,z,k,x,h,_,_=>by simp at h
 |x0::l,0,y,z,k,x,h,hk,he=>by
  simp at h;subst h;rw [Dy,Ga,Ga,<-he];have h1:=hf x0;simp only [setRow,Nat.zero_mul,Kf];rw [HQ (by omega),List.drop_append_of_le_length (by omega)];simp
 |x0::l,n+1,y,z,k,x,h,hk,he=>by
  have ih:=Pb hf l n y z (by simpa using h) hk he;rw [Lz,Ga,Ga,<-ih];have h1:=hf x0;simp only [setRow,DR];rw [show n*sz+sz+k=(f x0).length+(n*sz+k) by omega,GT,List.take_append,List.drop_append,AZ (by omega),C8 (by omega)];simp
theorem S7 (hf:∀x,(f x).length=sz) {l:List α} {i:Int} {x z:α} (h:gi l i=some x) {k:Nat} {y:List TV} (hk:Nat.ble (k+y.length) sz=true) (he:setRow (f x) k y=f z):setRow (AN f l) (i.toNat*sz+k) y=AN f (si l i z):=
 Pb hf l _ y z (Qd h).2.2 (by simpa [Qr]using hk) he
theorem i7 (hf:∀x,(f x).length=sz) {l:List α} {n:Nat} {x z:α} (h:l[n]?=some x) {k:Nat} {t:TV} (hk:k<sz) (he:(f x).set k t=f z):(AN f l).set (n*sz+k) t=AN f (l.set n z):=by
 have hl:(n*sz+k)<(AN f l).length:=by
  rw [E5 hf];have:=(Ah.1 h).1;have:(n+1)*sz<=l.length*sz:=Cl _ this;rw [DR]at this;omega
 have a:∀{c:List TV} {m:Nat},m<c.length->c.set m t=setRow c m [t]:=by
  intro c m hm;rw [List.set_eq_take_append_cons_drop,Ay hm];simp [setRow]
 rw [a hl];refine Pb hf l n [t] z h hk ?_;rw [<-a (by rw [hf];exact hk)];exact he
theorem uB (hf:∀x,(f x).length=sz) {l:List α} {i:Int} {x:α} (h:gi l i=some x) {k:Nat} (hk:k<sz) {q:List Nat}:BQ (AN f l) ((i.toNat*sz+k)::q)=BQ (f x) (k::q):=by
 simp only [BQ,MI hf h hk]
theorem ABf (hf:∀x,(f x).length=sz) {l:List α} {i:Int} {x:α} (h:gi l i=some x) {k:Nat} (hk:k<sz) {q:List Nat}:KM (AN f l) ((i.toNat*sz+k)::q)=KM (f x) (k::q):=by
 simp only [KM,MI hf h hk]
theorem AA1 (hf:∀x,(f x).length=sz) {l:List α} {i:Int} {x z:α} (h:gi l i=some x) {k:Nat} (hk:k<sz) {q:List Nat} {g:List TV->List TV} (he:Du (f x) (k::q) g=f z):Du (AN f l) ((i.toNat*sz+k)::q) g=AN f (si l i z):=by
 rw [Du]at he⊢;rw [MI hf h hk];split
 ·rename_i o e sz' cells hc;rw [hc]at he;exact i7 hf (Qd h).2.2 hk he
 ·rename_i hc;split at he
  ·rename_i o e sz' cells a;exact absurd a (hc _ _ _ _)
  ·have:(AN f l).set (i.toNat*sz+k) ((f x)[k]?.getD .junk)=AN f (si l i z):=by
    refine i7 hf (Qd h).2.2 hk ?_;rw [<-he];have:k<(f x).length:=by rw [hf];exact hk
    rw [Ab this];simp
   rw [<-this];have h2:=MI hf h hk;have h3:k<(f x).length:=by rw [hf];exact hk
   rw [Ab h3]at h2⊢;exact(Nf h2).symm
end
end Go.TI
namespace Go.TI
open Go Go.RowKit
abbrev I (n:Int):SV:= .one (.int .i64 n)
abbrev B (b:Bool):SV:= .one (.bool b)
abbrev Y (s:ByteArray):SV:= .one (.str s)
def Od {S α:Type} (body:S->Option (S⊕α)):Nat->S->Option α
 |0,_=>none
 |n+1,s=>match body s with
  |none=>none
  |some (.inl s')=>Od body n s'
  |some (.inr a)=>some a
theorem SK {S α:Type} {body:S->Option (S⊕α)} {a:α}:∀{n m:Nat} {s:S},Od body n s=some a->n<=m->Od body m s=some a
 |0,_,_,h,_=>by cases h
 |n+1,0,_,_,h=>by omega
 |n+1,m+1,s,h,hm=>by
  simp only [Od]at h⊢;split at h
  ·cases h
  ·exact SK h (by omega)
  ·exact h
open Classical in
noncomputable def Az {S α:Type} (body:S->Option (S⊕α)) (s:S):Option α:=
 if h:∃a n,Od body n s=some a then some h.choose else none
theorem GK {S α:Type} {body:S->Option (S⊕α)} {s:S} {a:α}:Az body s=some a↔∃n,Od body n s=some a:=by
 unfold Az;constructor
 ·intro h;split at h
  ·rename_i he
   injection h with h
   rw [<-h];exact he.choose_spec
  ·cases h
 ·rintro⟨n,h⟩;have he:∃a n,Od body n s=some a:=⟨a,n,h⟩;rw [dif_pos he];obtain⟨m,hm⟩:=he.choose_spec;have h1:=SK hm (Nat.le_max_left m n);have h2:=SK h (Nat.le_max_right m n);rw [h1]at h2;exact h2
theorem AB {S α:Type} (body:S->Option (S⊕α)) (s:S):Az body s=match body s with
  |none=>none
  |some (.inl s')=>Az body s'
  |some (.inr a)=>some a:=by
 have key:∀a,Az body s=some a↔(match body s with|none=>none|some (.inl s')=>Az body s'|some (.inr a)=>some a)=some a:=by
  intro a;rw [GK];constructor
  ·rintro⟨n,h⟩
   cases n with
   |zero=>cases h
   |succ n=>
    simp only [Od]at h;split at h
    ·cases h
    ·rename_i s' hb;exact GK.2 ⟨n,h⟩
    ·rename_i a' hb;simpa only [hb]using h
  ·intro h;split at h
   ·cases h
   ·rename_i s' hb;obtain⟨n,hn⟩:=GK.1 h;exact⟨n+1,by simp only [Od,hb];exact hn⟩
   ·rename_i a' hb;exact⟨1,by simp only [Od,hb];exact h⟩
 cases hx:Az body s with
 |some a=>exact((key a).1 hx).symm
 |none=>
  cases hy:(match body s with|none=>none|some (.inl s')=>Az body s'|some (.inr a)=>some a:Option α)with
  |none=>rfl
  |some a=>rw [(key a).2 hy]at hx;cases hx
def nt (ls:List Nat) (bs:List Root) (E E':St):Prop:=bs.all (fun r=>r.mem&&(E.boxes r).isSome)=true/\Ff E ls bs=E'
def UV (E:St) (l:List (Root×List TV)):St:=l.foldl (fun E x=>(E.setRoot x.1 x.2).bump x.1) E
def St.rs (E:St) (t:Nat) (b:Bool):St:={E with slots:=Cc E.slots t (B b)}
theorem ZO {E:St} {t:Nat} {b:Bool} (h:E.slots t=B b):E.rs t b=E:=by
 have:Cc E.slots t (B b)=E.slots:=by
  funext n;simp only [Cc];split
  ·rename_i hn;rw [hn,h]
  ·rfl
 unfold St.rs;rw [this]
section
variable {P:Program} {N:Nat} {E:St} {ops:Array Oper} {oo:Oper} {rest l:List Oper} {Q:Exit->St->Prop} {α β:Type} {r:β}
theorem A3.o (d:Nat) (s:SV) (h:A3 P N ops rest (E.put (some d) s) Q) (hs:BX P N false E oo=some (E.put (some d) s):=by rfl) (hg:Bm P ops E oo=some true:=by rfl):A3 P N ops (oo::rest) E Q:=A3.op false hg hs h
theorem DY (d:Nat) (h:A3 P N ops rest (E.put (some d) (.tup [])) Q) (hd:oo.dst=some d:=by rfl) (hN:Nat.blt d N=true:=by rfl) (hg:Bm P ops E oo=some false:=by rfl):A3 P N ops (oo::rest) E Q:=nU hd (by simpa [Bv]using hN) hg h
theorem Ld (m:List (Root×List TV)) (d:Nat) (xs:List TV) (h:A3 P N ops rest ((UV E m).newBox d xs) Q) (hs:BX P N false E oo=some ((UV E m).newBox d xs):=by rfl) (hg:Bm P ops E oo=some true:=by rfl):A3 P N ops (oo::rest) E Q:=A3.op false hg hs h
theorem X8 (mv:Bool) (m:List (Root×List TV)) (d:Nat) (s:SV) (h:A3 P N ops rest ((UV E m).put (some d) s) Q) (hs:BX P N mv E oo=some ((UV E m).put (some d) s):=by rfl) (hg:Bm P ops E oo=some true:=by rfl):A3 P N ops (oo::rest) E Q:=A3.op mv hg hs h
theorem A3.s (m:List (Root×List TV)) (rt:Root) (cs:List TV) (h:A3 P N ops rest ((UV E m).setRoot rt cs) Q) (hs:BX P N false E oo=some ((UV E m).setRoot rt cs):=by rfl) (hg:Bm P ops E oo=some true:=by rfl):A3 P N ops (oo::rest) E Q:=A3.op false hg hs h
theorem sF (m:List (Root×List TV)) (rt:Root) (cs:List TV) (h:A3 P N ops rest (((UV E m).setRoot rt cs).bump rt) Q) (hs:BX P N false E oo=some (((UV E m).setRoot rt cs).bump rt):=by rfl) (hg:Bm P ops E oo=some true:=by rfl):A3 P N ops (oo::rest) E Q:=A3.op false hg hs h
theorem uI {x:Option α} {k:α->Option β} (h:x.bind k=some r) (d:Nat) (f:α->SV) (hk:∀a,x=some a->k a=some r->A3 P N ops rest (E.put (some d) (f a)) Q) (hs:∀a,x=some a->BX P N false E oo=some (E.put (some d) (f a))) (hg:Bm P ops E oo=some true:=by rfl):A3 P N ops (oo::rest) E Q:=by
 obtain⟨a,ha,h⟩:=Aq.1 h;exact A3.op false hg (hs a ha) (hk a ha h)
theorem PB {tx ty:Option β} {b:Bool} (h:(bif b then tx else ty)=some r) (t:Nat) (ht:tx=some r->A3 P N ops l (E.rs t true) Q) (hf:ty=some r->A3 P N ops l (E.rs t false) Q) (hc:E.slots t=B b:=by rfl):A3 P N ops l E Q:=by
 cases b
 ·rw [ZO hc]at hf;exact hf h
 ·rw [ZO hc]at ht;exact ht h
theorem Wp.c {c:Operand} {x y:Code} {tx ty:Option β} {b:Bool} (h:(bif b then tx else ty)=some r) (ht:tx=some r->Wp P N x E Q) (hf:ty=some r->Wp P N y E Q) (hc:E.cell1 P 0 c=some (.bool b):=by rfl):Wp P N (.cond c x y) E Q:=by
 refine Wp.cond hc (fun hb=>?_) (fun hb=>?_)
 ·subst hb;exact ht h
 ·subst hb;exact hf h
theorem ADC {c:Operand} {x y:Code} (ht:Wp P N x E Q) (hc:E.cell1 P 0 c=some (.bool true):=by rfl):Wp P N (.cond c x y) E Q:=Wp.cond hc (fun _=>ht) (fun h=>by cases h)
theorem ACl {c:Operand} {x y:Code} (hf:Wp P N y E Q) (hc:E.cell1 P 0 c=some (.bool false):=by rfl):Wp P N (.cond c x y) E Q:=Wp.cond hc (fun h=>by cases h) (fun _=>hf)
def jQ {V:Type} (ls:List Nat) (bs:List Root) (H:V->St) (v:Option V) (Q:Exit->St->Prop):Exit->St->Prop
 | .normal,E=>∃a,v=some a/\nt ls bs E (H a)
 |e,E=>Q e E
theorem AY {c:Code} {E':St} {ls:List Nat} {bs:List Root} (h:nt ls bs E E') (hw:Wp P N c E' Q):Wp P N c E Q:=Wp.norm ls bs E' h.1 h.2 hw
theorem Gd {V:Type} {c:Code} {x:Option V} {k:V->Option β} (h:x.bind k=some r) (ls:List Nat) (bs:List Root) (H:V->St)
  (h1:∀a,x=some a->Wp P N c E (jQ ls bs H (some a) Q)) (h2:∀a,k a=some r->∀E',nt ls bs E' (H a)->Q .normal E'):Wp P N c E Q:=by
 obtain⟨a,ha,h⟩:=Aq.1 h
 refine Wp.mono (h1 a ha) fun e E' hq=>?_
 cases e<;>try exact hq
 obtain⟨a',h3,h4⟩:=hq
 injection h3 with h3
 subst h3;exact h2 a h E' h4
theorem nI {V W:Type} {c:Code} {x:Option (V⊕W)} {k:V⊕W->Option β} (h:x.bind k=some r) (ls:List Nat) (bs:List Root) (H:V->St)
  (h1:∀a,x=some a->k a=some r->Wp P N c E (jQ ls bs H a.getLeft? Q)) (h2:∀a,k (.inl a)=some r->∀E',nt ls bs E' (H a)->Q .normal E'):Wp P N c E Q:=by
 obtain⟨a,ha,h⟩:=Aq.1 h
 refine Wp.mono (h1 a ha h) fun e E' hq=>?_
 cases e<;>try exact hq
 obtain⟨a',h3,h4⟩:=hq
 cases a with
 |inl a=>
  injection h3 with h3
  subst h3;exact h2 a h E' h4
 |inr w=>cases h3
def lQ {S V W:Type} (id:Nat) (ls:List Nat) (bs:List Root) (H:S->St) (ls2:List Nat) (bs2:List Root) (H2:V->St) (o:S⊕(V⊕W)) (Q:Exit->St->Prop):Exit->St->Prop
 | .normal,E=>∃s,o= .inl s/\nt ls bs E (H s)
 | .exit i,E=>if i=id then∃v,o= .inr (.inl v)/\nt ls2 bs2 E (H2 v)else Q (.exit i) E
 |e,E=>Q e E
theorem Pi {S A:Type} {c:Code} {body:S->Option (S⊕A)} {ls:List Nat} {bs:List Root} {H:S->St} {a:A} {Q':Exit->St->Prop}
  (hb:∀s o,body s=some o->(∀a',o= .inr a'->a'=a)->Wp P N c (H s) (fun e E=>match e with| .normal=>∃s,o= .inl s/\nt ls bs E (H s)|e=>Q' e E)):
  ∀{n:Nat} {s:S} {E:St},nt ls bs E (H s)->Od body n s=some a->X4 P N c Q' n E
 |0,s,E,_,h=>by cases h
 |n+1,s,E,hn,h=>by
  simp only [Od]at h;simp only [X4];refine AY hn ?_;split at h
  ·cases h
  ·rename_i s' hs
   refine Wp.mono (hb s _ hs (fun a' h=>by cases h)) fun e E' hq=>?_
   cases e<;>try exact hq
   obtain⟨s2,h2,h3⟩:=hq
   injection h2 with h2
   subst h2;exact Pi hb h3 h
  ·rename_i a' hs
   injection h with h
   refine Wp.mono (hb s _ hs (fun a2 h2=>by injection h2 with h2;rw [<-h2,h])) fun e E' hq=>?_
   cases e<;>try exact hq
   obtain⟨s2,h2,h3⟩:=hq;cases h2
theorem ED {S V W:Type} {c:Code} {id:Nat} {body:S->Option (S⊕(V⊕W))} {s0:S} {k:V⊕W->Option β} (h:(Az body s0).bind k=some r) (ls:List Nat) (bs:List Root) (H:S->St) (ls2:List Nat) (bs2:List Root) (H2:V->St)
  (h0:nt ls bs E (H s0)) (hb:∀s o,body s=some o->(∀w,o= .inr (.inr w)->k (.inr w)=some r)->Wp P N c (H s) (lQ id ls bs H ls2 bs2 H2 o Q)) (h2:∀v,k (.inl v)=some r->∀E',nt ls2 bs2 E' (H2 v)->Q .normal E'):
  Wp P N (.block id (.loop c)) E Q:=by
 obtain⟨a,ha,h⟩:=Aq.1 h;obtain⟨n,hn⟩:=GK.1 ha;refine Wp.block (Wp.loop n (Pi (ls:=ls) (bs:=bs) (H:=H) (a:=a) (fun s o hs ho=>?_) h0 hn))
 refine Wp.mono (hb s o hs (fun w hw=>by rw [ho _ hw];exact h)) fun e E' hq=>?_
 cases e<;>try exact hq
 simp only [lQ]at hq;simp only [hO];split
 ·rename_i b;rw [Ay b]at hq;obtain⟨v,h3,h4⟩:=hq;have h5:=ho _ h3;subst h5;exact h2 v h E' h4
 ·rename_i b;rw [A0 b]at hq;exact hq
def lQ1 {S V:Type} (id:Nat) (ls:List Nat) (bs:List Root) (H:S->St) (ls2:List Nat) (bs2:List Root) (H2:V->St) (o:S⊕V) (Q:Exit->St->Prop):Exit->St->Prop
 | .normal,E=>∃s,o= .inl s/\nt ls bs E (H s)
 | .exit i,E=>if i=id then∃v,o= .inr v/\nt ls2 bs2 E (H2 v)else Q (.exit i) E
 |e,E=>Q e E
theorem BM {S V:Type} {c:Code} {id:Nat} {body:S->Option (S⊕V)} {s0:S} {k:V->Option β} (h:(Az body s0).bind k=some r) (ls:List Nat) (bs:List Root) (H:S->St) (ls2:List Nat) (bs2:List Root) (H2:V->St)
  (h0:nt ls bs E (H s0)) (hb:∀s o,body s=some o->Wp P N c (H s) (lQ1 id ls bs H ls2 bs2 H2 o Q)) (h2:∀v,k v=some r->∀E',nt ls2 bs2 E' (H2 v)->Q .normal E'):
  Wp P N (.block id (.loop c)) E Q:=by
 obtain⟨a,ha,h⟩:=Aq.1 h;obtain⟨n,hn⟩:=GK.1 ha;refine Wp.block (Wp.loop n (Pi (ls:=ls) (bs:=bs) (H:=H) (a:=a) (fun s o hs ho=>?_) h0 hn))
 refine Wp.mono (hb s o hs) fun e E' hq=>?_
 cases e<;>try exact hq
 simp only [lQ1]at hq;simp only [hO];split
 ·rename_i b;rw [Ay b]at hq;obtain⟨v,h3,h4⟩:=hq;have h5:=ho _ h3;subst h5;exact h2 v h E' h4
 ·rename_i b;rw [A0 b]at hq;exact hq
end
end Go.TI
namespace Go.TI
open Go Go.RowKit
def pk (o:Oper):Bool:=match o.op with
 | .nilCheck _| .pick .. | .binOp .. | .unOp .. | .convert .. | .fieldAddr .. | .indexAddr .. | .load .. | .index .. | .slice .. =>true
 | .call c=>match c.callee with
  | .builtin .len| .builtin .min| .builtin .max=>true
  |_=>false
 |_=>false
section
variable {P:Program} {N:Nat} {E:St} {o:Oper} {d:Nat} {s:SV}
theorem wE {src dst:TypeId} {x:Operand} (ho:o.op= .convert src dst x) (hp:Bh P E o=some s):Qg P E d src dst x=none:=by
 unfold Bh at hp;simp only [ho]at hp;unfold Qg;split
 ·rename_i e hd;split
  ·rename_i b hs hb;simp only [hd,hs,hb]at hp;cases hp
  ·rfl
 ·rfl
theorem H0 (hp:Bh P E o=some s) (hd:o.dst=some d:=by rfl) (hN:Nat.blt d N=true:=by rfl) (hk:pk o=true:=by rfl):BX P N false E o=some (E.put (some d) s):=by
 have hN':d<N:=by simpa [Bv]using hN
 unfold pk at hk;unfold BX;rw [hd];simp only [Ay hN'];split at hk<;>rename_i ho<;>try (cases hk;done)
 all_goals first|(simp only [ho,wE ho hp,hp,Bz];done)|simp only [ho,hp,Bz]
 rename_i c;split at hk<;>rename_i hc<;>try (cases hk;done)
 all_goals simp only [hc,Bz]
theorem s9 (hp:Bh P E o=some s) (hk:pk o=true:=by rfl):Ik P E o=some s:=by
 unfold pk at hk;unfold Ik;split at hk<;>rename_i ho<;>try (cases hk;done)
 all_goals simp only [ho];exact hp
section
variable {α:Type} {f:α->List TV} {sz:Nat} {l:List α} {n:Int} {x:α}
theorem vA (hf:∀x,(f x).length=sz) (r:Root) (q:List Nat) (j:Nat) (hx:gi l n=some x) {t e e':TypeId} {a i:Operand} {own:Bool} {k:IntKind} (hp:E.place r q j=some (.sl own e' sz (AN f l)):=by rfl)
  (ho:o.op= .indexAddr t a i:=by rfl) (ht:P.underlying t=some (.slice e):=by rfl) (hi:E.cell1 P 0 i=some (.int k n):=by rfl) (hr:E.ref a=some (r,q,j):=by rfl)
  (b:P.cellsOf e=sz:=by rfl) (h0:Nat.blt 0 sz=true:=by rfl):Bh P E o=some (.one (.ptr r (E.ver r) (q++ [j]) (n.toNat*sz+0))):=by
 have h0':0<sz:=by simpa [Bv]using h0
 simp only [Bh,ho,ht,hi,hr,hp];rw [Ay ⟨b.symm,h0',(Qd hx).1,WX hf hx⟩];rfl
theorem AD5 (hf:∀x,(f x).length=sz) (r:Root) (q:List Nat) (k:Nat) (hx:gi l n=some x) {st:TypeId} {a:Operand} {fl:Nat} {fs:Array Field} {fd:Field} (hr:(E.root r).bind (fun cs=>BQ cs q)=some (AN f l):=by rfl)
  (ho:o.op= .fieldAddr st a fl:=by rfl) (hs:P.underlying st=some (.struct fs):=by rfl) (hp:E.ptr? a=some (r,q,n.toNat*sz+k):=by rfl) (b:fs[fl]?=some fd:=by rfl) (hc:Nat.beq (P.cellsOf fd.type) 0=false:=by rfl)
  {m:Nat} (hm:k+fd.offset=m:=by rfl) (hk:Nat.blt (k+fd.offset) sz=true:=by rfl):Bh P E o=some (.one (.ptr r (E.stamp r q) q (n.toNat*sz+m))):=by
 subst hm;have hc':P.cellsOf fd.type≠0:=by intro h;rw [h]at hc;cases hc
 have hk':k+fd.offset<sz:=by simpa [Bv]using hk
 have c:(E.place r q (n.toNat*sz+k+fd.offset)).isSome=true:=by
  obtain⟨cs,h1,h2⟩:=Aq.1 hr;simp only [St.place,h1,Aa,h2,GT,MI hf hx hk'];rw [Ab (by rw [hf];exact hk')];rfl
 simp only [Bh,ho,hs,hp,b];rw [A0 hc',Ay c,GT]
theorem ACz (hf:∀x,(f x).length=sz) (r:Root) (q:List Nat) (k:Nat) (u:TV) (hx:gi l n=some x) {t:TypeId} {a:Operand} (hr:(E.root r).bind (fun cs=>BQ cs q)=some (AN f l):=by rfl)
  (ho:o.op= .load t a:=by rfl) (hp:E.ptr? a=some (r,q,n.toNat*sz+k):=by rfl) (ha:Xz P t=false:=by rfl) (h1:P.cellsOf t=1:=by rfl) (hu:(P.underlying t).isSome=true:=by rfl) (hk:Nat.blt k sz=true:=by rfl)
  (hj:(f x)[k]?=some u:=by rfl):Bh P E o=some (.one (see E r q (n.toNat*sz+k) u)):=by
 have hk':k<sz:=by simpa [Bv]using hk
 have b:=WX hf hx;rw [DR]at b;simp only [Bh,ho,hp,hr,ha,h1];rw [Ay (by omega),A0 (by simp),Ay ⟨trivial,hu⟩,MI hf hx hk',hj];rfl
theorem ADr (hf:∀x,(f x).length=sz) (r:Root) (q:List Nat) (hx:gi l n=some x) {t:TypeId} {a:Operand} (hr:(E.root r).bind (fun cs=>BQ cs q)=some (AN f l):=by rfl)
  (ho:o.op= .load t a:=by rfl) (hp:E.ptr? a=some (r,q,n.toNat*sz+0):=by rfl) (ha:Xz P t=true:=by rfl) (h1:P.cellsOf t=sz:=by rfl):Bh P E o=some (.agg (Qq E r q (n.toNat*sz+0) (f x))):=by
 rw [ES]at hp⊢;have b:=WX hf hx;rw [DR]at b;simp only [Bh,ho,hp,hr,ha,h1];rw [Ay b,Ay trivial,rD hf hx]
theorem AD4 (hf:∀x,(f x).length=sz) (r:Root) (q:List Nat) (k m:Nat) (hx:gi l n=some x) {t:TypeId} {a:Operand} (hr:(E.root r).bind (fun cs=>BQ cs q)=some (AN f l):=by rfl)
  (ho:o.op= .load t a:=by rfl) (hp:E.ptr? a=some (r,q,n.toNat*sz+k):=by rfl) (ha:Xz P t=true:=by rfl) (h1:P.cellsOf t=m:=by rfl) (hk:Nat.ble (k+m) sz=true:=by rfl):Bh P E o=some (.agg (Qq E r q (n.toNat*sz+k) (((f x).drop k).take m))):=by
 have hk':k+m<=sz:=by simpa [Qr]using hk
 have b:=WX hf hx;rw [DR]at b;simp only [Bh,ho,hp,hr,ha,h1];rw [Ay (by omega),Ay trivial,<-rD hf hx,List.drop_take,List.take_take,Nat.min_eq_left (by omega),Cy]
theorem zC (hf:∀x,(f x).length=sz) (l:List α) {t e e':TypeId} {a:Operand} {own:Bool} {r:Root} {q:List Nat} {j:Nat} (ho:o.op= .call {callee:= .builtin .len,args:= #[a],argTypes:= #[t]}:=by rfl) (ht:P.underlying t=some (.slice e):=by rfl) (hr:E.ref a=some (r,q,j):=by rfl)
  (hp:E.place r q j=some (.sl own e' sz (AN f l)):=by rfl) (h0:Nat.blt 0 sz=true:=by rfl):Bh P E o=some (.one (.int .i64 (ln l))):=by
 have h0':0<sz:=by simpa [Bv]using h0
 have:(AN f l).length/sz=l.length:=by rw [E5 hf];exact Dx _ h0'
 simp only [Bh,ho,MN,ht,St.sliceCells,hr,hp];rw [Ay h0',this];rfl
end
def sx (s:ByteArray) (i:Int):Option Int:=if 0<=i/\i<s.size then some (Bh.bt s i)else none
def sub (s:ByteArray) (l h:Int):Option ByteArray:=if 0<=l/\l<=h/\h<=s.size then some (s.extract l.toNat h.toNat)else none
def Tf (a b:ByteArray):Option ByteArray:=if((a.size+b.size:Nat):Int)>9223372036854775807 then none else some (a++b)
def FJ (s:ByteArray):Int:=(s.size:Nat)
def seq (a b:ByteArray):Bool:=a.toList==b.toList
theorem AD3 {s:ByteArray} {n b:Int} (h:sx s n=some b) {t:TypeId} {a i:Operand} {k:IntKind} (ho:o.op= .index t a i:=by rfl) (ht:P.underlying t=some .string:=by rfl) (ha:E.cell1 P t a=some (.str s):=by rfl) (hi:E.cell1 P 0 i=some (.int k n):=by rfl):
  Bh P E o=some (.one (.int .u8 b)):=by
 unfold sx at h;split at h
 ·rename_i hc
  injection h with h
  simp only [Bh,ho,ht,ha,hi];rw [Ay hc,h]
 ·cases h
theorem ADp {s u:ByteArray} {l h:Int} (hx:sub s l h=some u) {t:TypeId} {a:Operand} {lo hi:Option Operand} {k k':IntKind} (ho:o.op= .slice t a lo hi none:=by rfl) (ht:P.underlying t=some .string:=by rfl) (ha:E.cell1 P t a=some (.str s):=by rfl)
  (hl:(match lo with|some o=>E.cell1 P 0 o|none=>some (.int .i64 0))=some (.int k l):=by rfl) (hh:(match hi with|some o=>E.cell1 P 0 o|none=>some (.int .i64 s.size))=some (.int k' h):=by rfl):
  Bh P E o=some (.one (.str u)):=by
 unfold sub at hx;split at hx
 ·rename_i hc
  injection hx with hx
  have fin:(if 0<=l/\l<=h/\h<=(s.size:Int)then some (SV.one (.str (s.extract l.toNat h.toNat)))else none)=some (.one (.str u)):=by rw [Ay hc,hx]
  cases lo with
  |none=>
   injection hl with hl
   injection hl with _ hl
   subst hl
   cases hi with
   |none=>
    injection hh with hh
    injection hh with _ hh
    subst hh;simpa only [Bh,ho,ht,ha]using fin
   |some y=>
    have hh':E.cell1 P 0 y=some (.int k' h):=hh;simpa only [Bh,ho,ht,ha,hh']using fin
  |some z=>
   have hl':E.cell1 P 0 z=some (.int k l):=hl
   cases hi with
   |none=>
    injection hh with hh
    injection hh with _ hh
    subst hh;simpa only [Bh,ho,ht,ha,hl']using fin
   |some y=>
    have hh':E.cell1 P 0 y=some (.int k' h):=hh;simpa only [Bh,ho,ht,ha,hl',hh']using fin
 ·cases hx
theorem ADt {a b u:ByteArray} (hx:Tf a b=some u) {t t':TypeId} {x y:Operand} (ho:o.op= .binOp .add t x y t':=by rfl) (ha:E.cell1 P t x=some (.str a):=by rfl) (hb:E.cell1 P t y=some (.str b):=by rfl):
  Bh P E o=some (.one (.str u)):=by
 unfold Tf at hx;split at hx
 ·cases hx
 ·rename_i hc
  injection hx with hx
  simp only [Bh,ho,ha,hb,Th,Cd,TT];rw [A0 hc,hx];rfl
end
end Go.TI
namespace Go.TI
open Go Go.RowKit
def Hp (cs:List TV):Bool:=cs.all fun t=>match t with
 | .int .. | .bool _| .str _| .sl false .. =>true
 |_=>false
theorem QF {E:St} {r:Root} {q:List Nat}:∀{cs:List TV} (c:Nat),Hp cs=true->Qq E r q c cs=cs
 |[],c,h=>rfl
 |t::ts,c,h=>by
  simp only [Hp,Ep,An]at h;have ih:=QF (E:=E) (r:=r) (q:=q) (c+1) (show Hp ts=true from h.2);simp only [Qq,ih]
  cases t with
  |sl o e sz cells=>cases o<;>first|rfl|(have:=h.1;simp at this)
  |_=>rfl
theorem KJ {E:St}:∀{cs:List TV},Hp cs=true->Eu E cs=some (cs,E)
 |[],h=>rfl
 |t::ts,h=>by
  simp only [Hp,Ep,An]at h;have ih:=KJ (E:=E) (show Hp ts=true from h.2);have h1:=h.1;have hr:∀E1 E2 t,(∀r v q j,t≠ .view r v q j)->List.map (rst E1 E2 t) ts=ts:=by
   intro E1 E2 t ht;have:rst E1 E2 t=id:=by
    funext u;cases t<;>first|rfl|exact absurd rfl (ht _ _ _ _)
   rw [this,Rg]
  rw [OV];cases t<;>simp only [CX]<;>first|(rw [hr _ _ _ (by intros;simp)];simp only [ih])|(simp at h1;done)
theorem Mb {α:Type} {f:α->List TV} (hf:∀x,Hp (f x)=true):∀l:List α,Hp (AN f l)=true
 |[]=>rfl
 |x::l=>by
  have:=Mb hf l;rw [Ga];unfold Hp at*;rw [List.all_append,hf,this];rfl
def ap {α:Type} (by_:Nat) (l m:List α):Option (List α):=if(l.length+m.length)*by_<=140737488355328 then some (l++m)else none
def mk {α:Type} (by_:Nat) (z:α) (n:Int):Option (List α):=if 0<=n/\(by_:Int)*n<=281474976710656/\n<=9223372036854775807 then some (List.replicate n.toNat z)else none
section
variable {P:Program} {N:Nat} {E:St} {o:Oper} {d:Nat} {α β:Type} {f:α->List TV} {sz:Nat}
theorem uF {by_:Nat} {l m u:List α} (h:ap by_ l m=some u):u=l++m/\(l.length+m.length)*by_<=140737488355328:=by
 unfold ap at h;split at h
 ·injection h with h;exact⟨h.symm,by assumption⟩
 ·cases h
theorem ADj (hf:∀x,(f x).length=sz) (ms:List (Root×List TV)) {by_:Nat} {l m u:List α} (h:ap by_ l m=some u) {t e e1 e2:TypeId} {s x:Operand} {sv:TV} {E1:St} {r:Root} {q:List Nat} {j:Nat} {own:Bool} {cells2:List TV}
  (c:cells2.length=m.length*sz) (ho:o.op= .call {callee:= .builtin .append,args:= #[s,x],argTypes:= #[t,t]}) (hd:o.dst=some d) (hN:Nat.blt d N=true) (ht:P.underlying t=some (.slice e)) (hs:E.cell1 P t s=some sv)
  (h1:CX E sv=some (.sl true e1 sz (AN f l),E1)) (hr:E1.ref x=some (r,q,j)) (hp:E1.place r q j=some (.sl own e2 sz cells2)) (hn:Eu E1 (Qq E1 r (q++ [j]) 0 cells2)=some (AN f m,UV E ms))
  (he:Nat.beq e1 e=true) (g:P.cellsOf e=sz) (h0:Nat.blt 0 sz=true) (hz:(Ij P e).isSome=true) (hb:P.bytesOf e=by_) (i:Nat.blt 0 by_=true):
  BX P N false E o=some ((UV E ms).put (some d) (.one (.sl true e sz (AN f u)))):=by
 obtain⟨rfl,k⟩:=uF h;have hN':d<N:=by simpa [Bv]using hN
 have h0':0<sz:=by simpa [Bv]using h0
 have hb0':0<by_:=by simpa [Bv]using i
 have he':e1=e:=Bn he;have a:(AN f l).length/sz=l.length:=by rw [E5 hf];exact Dx _ h0'
 have b:cells2.length/sz=m.length:=by rw [c];exact Dx _ h0'
 have n:l.length+m.length<=(l.length+m.length)*by_:=Nat.le_mul_of_pos_right _ hb0';unfold BX;rw [hd];simp only [Ay hN',ho,Cd,JZ,ht,hs,h1,hr,hp,hn];rw [Ay ⟨he',g.symm,trivial,h0',hz,by rw [a,b];omega,by rw [a,b,hb];exact k⟩,MJ]
theorem Ni (hf:∀x,(f x).length=sz) (hg:∀x,Hp (f x)=true) (ms:List (Root×List TV)) (l:List α) {by_:Nat} {m u:List α} (h:ap by_ l m=some u) {t e e1 e2:TypeId} {s x:Operand} {sv:TV} {r:Root} {q:List Nat} {j:Nat} {own:Bool}
  (ho:o.op= .call {callee:= .builtin .append,args:= #[s,x],argTypes:= #[t,t]}:=by rfl) (hd:o.dst=some d:=by rfl) (hN:Nat.blt d N=true:=by rfl) (ht:P.underlying t=some (.slice e):=by rfl) (hs:E.cell1 P t s=some sv:=by rfl)
  (h1:CX E sv=some (.sl true e1 sz (AN f l),UV E ms):=by rfl) (hr:(UV E ms).ref x=some (r,q,j):=by rfl) (hp:(UV E ms).place r q j=some (.sl own e2 sz (AN f m)):=by rfl)
  (he:Nat.beq e1 e=true:=by rfl) (a:P.cellsOf e=sz:=by rfl) (h0:Nat.blt 0 sz=true:=by rfl) (hz:(Ij P e).isSome=true:=by rfl) (hb:P.bytesOf e=by_:=by rfl) (b:Nat.blt 0 by_=true:=by rfl):
  BX P N false E o=some ((UV E ms).put (some d) (.one (.sl true e sz (AN f u)))):=
 ADj hf ms h (E5 hf m) ho hd hN ht hs h1 hr hp (by rw [QF _ (Mb hg m),KJ (Mb hg m)]) he a h0 hz hb b
theorem Pm {z:α} {zs:List TV} (h:f z=zs):∀n,(List.replicate n zs).flatten=AN f (List.replicate n z)
 |0=>rfl
 |n+1=>by rw [Ey,Ri,Pm h n,Ey,Ga,h]
theorem ADY (z:α) {by_:Nat} {n:Int} {u:List α} (h:mk by_ z n=some u) {t e:TypeId} {l c:Operand} {kl kc:IntKind} {zs:List TV} (ho:o.op= .makeSlice t l c:=by rfl) (hd:o.dst=some d:=by rfl) (hN:Nat.blt d N=true:=by rfl) (ht:P.underlying t=some (.slice e):=by rfl)
  (hl:E.cell1 P 0 l=some (.int kl n):=by rfl) (hc:E.cell1 P 0 c=some (.int kc n):=by rfl) (hz:Ij P e=some zs:=by rfl) (hfz:f z=zs:=by rfl) (hb:P.bytesOf e=by_:=by rfl) (b:P.cellsOf e=sz:=by rfl):
  BX P N false E o=some (E.put (some d) (.one (.sl true e sz (AN f u)))):=by
 have hN':d<N:=by simpa [Bv]using hN
 unfold mk at h;split at h
 ·rename_i a
  injection h with h
  subst h;unfold BX;rw [hd];simp only [Ay hN',ho,Vb,ht,hl,hc,hz];rw [Ay ⟨trivial,a.1,by rw [hb];exact a.2.1,a.2.2⟩,Pm hfz,b]
 ·cases h
structure At (cs:List TV) (q:List Nat) (row:List TV) (g:List TV->List TV) (cs':List TV):Prop where
 c:BQ cs q=some row
 o:KM cs q=true
 u:Du cs q g=cs'
theorem At.one {cs row:List TV} {c:Nat} {e s:Nat} {g:List TV->List TV} {row' cs':List TV} (h:g row=row') (hc:cs[c]?=some (.sl true e s row):=by rfl) (hs:cs.set c (.sl true e s row')=cs':=by rfl):At cs [c] row g cs':=
 ⟨by simp [BQ,hc],by simp [KM,hc],by simp [Du,hc,h,hs]⟩
theorem ADG (hf:∀x,(f x).length=sz) {cs row:List TV} {c k:Nat} {q:List Nat} {e s:Nat} {g:List TV->List TV} {cs':List TV} {l:List α} {n:Int} {x z:α} (hx:gi l n=some x) (h:At (f x) (k::q) row g (f z))
  (hk:Nat.blt k sz=true:=by rfl) (hc:cs[c]?=some (.sl true e s (AN f l)):=by rfl) (hs:cs.set c (.sl true e s (AN f (si l n z)))=cs':=by rfl):At cs (c::(n.toNat*sz+k)::q) row g cs':=by
 have hk':k<sz:=by simpa [Bv]using hk
 refine⟨?_,?_,?_⟩
 ·rw [<-h.c,<-uB hf hx hk'];simp only [BQ,hc]
 ·rw [<-h.o,<-ABf hf hx hk'];simp only [KM,hc,CU]
 ·rw [<-hs,<-AA1 hf hx hk' h.u];simp only [Du,hc]
theorem ACL (hf:∀x,(f x).length=sz) {l:List α} {n:Int} {x:α} (hx:gi l n=some x) {k m:Nat} (hk:Nat.ble (k+m) sz=true):n.toNat*sz+k+m<=(AN f l).length:=by
 have:=WX hf hx;rw [DR]at this;have h1:k+m<=sz:=by simpa [Qr]using hk
 omega
end
section
variable {P:Program} {N:Nat} {E:St} {ops:Array Oper} {oo:Oper} {rest l:List Oper} {Q:Exit->St->Prop} {α β:Type} {r:β}
theorem AAQ {x:Option α} {k:α->Option β} (h:x.bind k=some r) (m:List (Root×List TV)) (d:Nat) (f:α->SV) (hk:∀a,x=some a->k a=some r->A3 P N ops rest ((UV E m).put (some d) (f a)) Q) (hs:∀a,x=some a->BX P N false E oo=some ((UV E m).put (some d) (f a))) (hg:Bm P ops E oo=some true:=by rfl):A3 P N ops (oo::rest) E Q:=by
 obtain⟨a,ha,h⟩:=Aq.1 h;exact A3.op false hg (hs a ha) (hk a ha h)
theorem X9 {x:Option α} {k:α->Option β} (h:x.bind k=some r) (d:Nat) (enc:α->SV) {f:FuncId} {args:Array Operand} {tys:Array TypeId} {fn:Func} {l:List AV} {n:Nat} {c:Bool}
  (ho:oo.op= .call {callee:= .value (.func f),args:=args,argTypes:=tys}) (a:Hb P E ((tys.toList.zip args.toList).map fun(t,x)=>(false,t,x)) (List.replicate args.size none)=some (l,c))
  (b:∀v,x=some v->AW P f l (enc v) (List.replicate n .gone)) (hc:c=true\/∀v,BE (enc v)=false) (hk:∀v,x=some v->k v=some r->A3 P N ops rest (E.put (some d) (enc v)) Q)
  (hf : P.funcs[f]? = some fn := by rfl) (hn : (fn.name == "runtime.NumGoroutine") = false := by rfl) (hb : fn.body.isNone = false := by rfl) (hd : oo.dst = some d := by rfl) (hN : Nat.blt d N = true := by rfl) (hz : tys.size = args.size := by rfl) (hg : Bm P ops E oo = some true := by rfl) : A3 P N ops (oo :: rest) E Q := by
 obtain⟨v,hv,h⟩:=Aq.1 h;refine wQ ho hf ?_ hb hg hd ?_ hz (b v hv) a ?_ (hk v hv h)
 ·intro e;rw [e]at hn;simp at hn
 ·simpa [Bv]using hN
 ·rcases hc with hc|hc
  ·exact .inl hc
  ·exact .inr (hc v)
end
end Go.TI
namespace Go.TI
open Go Go.RowKit
def SV.comps:SV->List SV
 | .tup ss=>ss
 |_=>[]
def St.ex (E:St) (n ix:Nat):St:={E with slots:=Cc E.slots n (.tup ((E.slots n).comps.set ix (.one .junk)))}
section
variable {P:Program} {N:Nat} {E:St} {ops:Array Oper} {oo:Oper} {rest l:List Oper} {Q:Exit->St->Prop} {K:St->Prop} {α β:Type} {r:β}
theorem Sw (n ix d:Nat) (s:SV) (h:A3 P N ops rest ((E.ex n ix).put (some d) s) Q) (hs:BX P N false E oo=some ((E.ex n ix).put (some d) s):=by rfl) (hg:Bm P ops E oo=some true:=by rfl):A3 P N ops (oo::rest) E Q:=A3.op false hg hs h
theorem iH (n d:Nat) (s:SV) (h:A3 P N ops rest (({E with slots:=Cc E.slots n (.one .junk)}:St).put (some d) s) Q) (hs:BX P N true E oo=some (({E with slots:=Cc E.slots n (.one .junk)}:St).put (some d) s):=by rfl) (hg:Bm P ops E oo=some true:=by rfl):A3 P N ops (oo::rest) E Q:=A3.op true hg hs h
theorem Js.o (d:Nat) (s:SV) (h:Js P N ops rest (E.put (some d) s) K) (hs:Ik P E oo=some s:=by rfl) (hg:Bm P ops E oo=some true:=by rfl) (hd:oo.dst=some d:=by rfl) (hN:Nat.blt d N=true:=by rfl):Js P N ops (oo::rest) E K:=
 Js.op s hg hd (by simpa [Bv]using hN) hs h
theorem ACT {tx ty:Option β} {b:Bool} (h:(bif b then tx else ty)=some r) (t:Nat) (ht:tx=some r->Js P N ops l (E.rs t true) K) (hf:ty=some r->Js P N ops l (E.rs t false) K) (hc:E.slots t=B b:=by rfl):Js P N ops l E K:=by
 cases b
 ·rw [ZO hc]at hf;exact hf h
 ·rw [ZO hc]at ht;exact ht h
end
theorem D1 {α:Type} {f g:α->List TV} (h:∀x,BG (f x)=g x):∀l:List α,BG (AN f l)=AN g l
 |[]=>rfl
 |x::l=>by
  have c:∀a b:List TV,BG (a++b)=BG a++BG b:=by
   intro a b
   induction a with
   |nil=>rfl
   |cons t ts ih=>simp only [BA,BG,ih]
  rw [Ga,Ga,c,h,D1 h l]
theorem Kq {α:Type} {f:α->List TV} (h:∀x,AT (f x)=false):∀l:List α,AT (AN f l)=false
 |[]=>rfl
 |x::l=>by
  have c:∀a b:List TV,AT (a++b)=(AT a||AT b):=by
   intro a b
   induction a with
   |nil=>rfl
   |cons t ts ih=>simp only [BA,AT,ih,Bool.or_assoc]
  rw [Ga,c,h,Kq h l];rfl
def ad (a b:Int):Int:=IntKind.i64.wrap (a+b)
def sb (a b:Int):Int:=IntKind.i64.wrap (a-b)
def ml (a b:Int):Int:=IntKind.i64.wrap (a*b)
def qu (a b:Int):Int:=IntKind.i64.wrap (a.tdiv b)
def xr (a b:Int):Int:=IntKind.u32.wrap (BitVec.ofInt 32 a^^^BitVec.ofInt 32 b).toNat
def an (a b:Int):Int:=IntKind.u32.wrap (BitVec.ofInt 32 a&&&BitVec.ofInt 32 b).toNat
def bs (l:List UInt8):ByteArray:=⟨l.toArray⟩
end Go.TI
namespace Go.TI
open Go Go.RowKit
section
variable {P:Program} {md:Region.Mode} {ops:Array Oper} {Q:Exit->Act->World->Prop} {T:Nat->Bool}
variable (P md ops Q T)in
def Vk:Nat->Array Bool->Act->World->Prop
 |0,listed,a,w=>Region.ready md ops listed=[]/\Q .normal a w
 |fuel+1,listed,a,w=>
  (Region.ready md ops listed=[]->Q .normal a w)/\
  ∀i∈Region.ready md ops listed,wpOp P ops Q i (fun a' w'=>(T i=false->Ea w w')/\Vk fuel (listed.setIfInBounds i true) a' w') a w
theorem Vj:∀(fuel:Nat) (listed:Array Bool) (a:Act) (w:World),Vk P md ops Q T fuel listed a w->wpAny P md ops Q fuel listed a w
 |0,_,_,_,h=>h
 |fuel+1,_,_,_,h=>⟨h.1,fun i hi=>wpOp_mono (fun a' w' h'=>Vj fuel _ a' w' h'.2) (h.2 i hi)⟩
variable (md ops)in
def Vm (i:Nat):Nat->Nat->Bool
 |0,_=>false
 |n+1,j=>match ops[j]? with
  |some o=>o.after.any fun e=>Region.binds md e&&(e.on==i||Vm i n e.on)
  |none=>false
variable (md ops)in
def XB (listed:Array Bool):Prop:=∀k o,ops[k]?=some o->listed.getD k false=true->∀e∈o.after,Region.binds md e=true->listed.getD e.on false=true
theorem Rl {i:Nat} {listed:Array Bool} (hc:XB md ops listed):∀{n j:Nat} {o:Oper},ops[j]?=some o->(∀e∈o.after,Region.binds md e=true->listed.getD e.on false=true)->Vm md ops i n j=true->listed.getD i false=true
 |0,j,o,_,_,h=>by cases h
 |n+1,j,o,ho,ha,h=>by
  simp only [Vm,ho]at h;obtain⟨e,he,hb⟩:=Array.any_eq_true'.1 h;simp only [An,Da,Cw]at hb;have h1:=ha e he hb.1
  rcases hb.2 with h2|h2
  ·rw [<-h2];exact h1
  ·cases hk:ops[e.on]? with
   |none=>
    cases n with
    |zero=>cases h2
    |succ n=>simp [Vm,hk]at h2
   |some ok=>exact Rl hc hk (hc e.on ok hk h1) h2
theorem Kb {listed:Array Bool} {j:Nat} (hc:XB md ops listed) (hr:j∈Region.ready md ops listed):XB md ops (listed.setIfInBounds j true):=by
 intro k o hk hl e he hb
 have a:∀m,listed.getD m false=true->(listed.setIfInBounds j true).getD m false=true:=fun m hm=>getD_set_true hm
 by_cases b:k=j
 ·subst b;obtain⟨_,o',ho',c⟩:=mem_ready.1 hr;rw [hk]at ho'
  injection ho' with ho'
  subst ho';exact a _ (c e he hb)
 ·rw [getD_set_ne false (E6 b)]at hl;exact a _ (hc k o hk hl e he hb)
theorem Le {i:Nat} {oi:Oper} {v:Value} {n:Nat} (hi:ops[i]?=some oi) (l:∀(j:Nat) (o:Oper) cs b,ops[j]?=some o->o.op≠ .select cs b)
  (hQ:∀c a w,Q (.panic c) (a.put oi.dst v) w->Q (.panic c) a w) (h6:T i=false) (hT:∀j,T j=true->Vm md ops i n j=true):
  ∀(fuel:Nat) (listed:Array Bool) (a:Act) (w:World),XB md ops listed->
   (∀j oj,ops[j]?=some oj->j≠i->listed.getD j true=false->(∀e∈oj.after,Region.binds md e=true->e.on≠i)->oi.apart ops oj=true)->
   i∈Region.ready md ops listed->YieldsIf P ops (Ea w) oi v a->
   Vk P md ops Q T fuel (listed.setIfInBounds i true) (a.put oi.dst v) w->Vk P md ops Q T (fuel+1) listed a w:=by
 intro fuel
 induction fuel with
 |zero=>
  intro listed a w _ _ hr hy H;refine⟨fun h=>(by rw [h]at hr;cases hr),fun j hj=>?_⟩;by_cases d:j=i
  ·subst d;exact hy.wpOp hi Ea.refl ⟨fun _=>Ea.refl,H⟩
  ·have:=ready_mono hj d;rw [H.1]at this;cases this
 |succ fuel ih=>
  intro listed a w s f hr hy H;refine⟨fun h=>(by rw [h]at hr;cases hr),fun j hj=>?_⟩;by_cases d:j=i
  ·subst d;exact hy.wpOp hi Ea.refl ⟨fun _=>Ea.refl,H⟩
  ·have h1:=H.2 j (ready_mono hj d);obtain⟨m,oj,g,p⟩:=mem_ready.1 hj;have q:listed.getD i false=false:=by
    have h0:=(mem_ready.1 hr).1
    rcases Dk i listed.size with h'|h'
    ·simpa [h']using h0
    ·simp [Array.getElem?_eq_none h']
   have r:T j=false:=by
    cases r:T j with
    |false=>rfl
    |true=>
     have:=Rl s g p (hT j r);rw [q]at this;cases this
   have t:∀e∈oj.after,Region.binds md e=true->e.on≠i:=fun e he hb y=>by
    have h1:=p e he hb;rw [y,q]at h1;cases h1
   have h2:=wpOp_putIf g (f j oj g d m t) (fun cs b=>l i oi cs b hi) (fun cs b=>l j oj cs b g) hQ hy h1;have hfree':∀k ok,ops[k]?=some ok->k≠i->(listed.setIfInBounds j true).getD k true=false->
     (∀e∈ok.after,Region.binds md e=true->e.on≠i)->oi.apart ops ok=true:=fun k ok hk z u h4=>by
    refine f k ok hk z ?_ h4;by_cases x:j=k
    ·subst x;exact m
    ·rw [getD_set_ne true x]at u;exact u
   refine wpOp_mono (fun a' w' h3=>⟨h3.2.1,ih (listed.setIfInBounds j true) a' w' (Kb s hj) hfree' (ready_mono hr (E6 d)) ?_ ?_⟩) h2
   ·exact h3.1.imp (fun⟨p1,p2⟩=>⟨p1,fun w2 h5=>p2 w2 ((h3.2.1 r).trans h5)⟩) id
   ·rw [Array.setIfInBounds_comm _ _ d];exact h3.2.2
end
def Dl (P:Program) (N:Nat) (ops:Array Oper) (ts:List Nat) (fuel:Nat) (listed:Array Bool) (E:St) (Q:Exit->St->Prop):Prop:=
 (∀c E,Q (.panic c) E->False)->XB .any ops listed->∀(w0:Base) (FA UA:List Nat) (w:World) (a:Act) (blk:Root->Nat) (FS US:Root->List Nat),CB w0 FA UA N w a E blk FS US->FS .hand=[]->US .hand=[]->Vk P .any ops (nP w0 FA UA N Q) (fun i=>ts.contains i) fuel listed a w
def D7 (P:Program) (N:Nat) (ops:Array Oper) (ts:List Nat) (i:Nat) (E:St) (K:St->Prop) (Q:Exit->St->Prop):Prop:=
 ∀(w0:Base) (FA UA:List Nat) (w:World) (a:Act) (blk:Root->Nat) (FS US:Root->List Nat),CB w0 FA UA N w a E blk FS US->FS .hand=[]->US .hand=[]->
  wpOp P ops (nP w0 FA UA N Q) i (fun a' w'=>(ts.contains i=false->Ea w w')/\∃E' blk' FS' US',K E'/\CB w0 FA UA N w' a' E' blk' FS' US'/\FS' .hand=[]/\US' .hand=[]) a w
section
variable {N:Nat} {E:St} {P:Program} {ops:Array Oper} {Q:Exit->St->Prop} {K:St->Prop} {ts:List Nat} {fuel:Nat} {listed:Array Bool} {α β:Type} {r:β}
theorem D7.op (i:Nat) {o:Oper} (mv:Bool) {E':St} (h:K E') (hs:BX P N mv E o=some E') (ho:ops[i]?=some o) (hg:Bm P ops E o=some true) (hk:(kp o||ts.contains i)=true):D7 P N ops ts i E K Q:=by
 intro w0 FA UA w a blk FS US hr hF hU;unfold wpOp;simp only [ho,Ct hr hg,Cd];refine .inl ((OZ hr hF hU hs).wp fun w' v blk' FS' US' k1 k2 k3 k4=>⟨fun ht=>k4 (by rw [ht,NH]at hk;exact hk),_,_,_,_,h,k1,k2,k3⟩)
theorem D7.call (i:Nat) {o:Oper} {f:FuncId} {args:Array Operand} {tys:Array TypeId} (hi:ops[i]?=some o) (ho:o.op= .call {callee:= .value (.func f),args:=args,argTypes:=tys}) (hf:gT P f)
  (hg:Bm P ops E o=some true) (hN:∀d,o.dst=some d->d<N) (l:List (Bool×TypeId×Operand)) (hl:l.map (fun x=>x.2.2)=args.toList) (b:(l.all (fun x=>!x.1)||ts.contains i)=true) {as:List AV} {res:SV} {n:Nat} (c:AW P f as res (List.replicate n .gone)) {E':St} (he:Vc P E o.dst l as res E')
  (h:K E'):D7 P N ops ts i E K Q:=by
 intro w0 FA UA w a blk FS US hr hF hU;unfold wpOp;simp only [hi,Ct hr hg,Cd];exact .inl (aU hr hF hU ho hf hN hl c he fun w' v blk' FS' US' k1 k2 k3 k4=>⟨fun ht=>k4 (by rw [ht,NH]at b;exact b),_,_,_,_,h,k1,k2,k3⟩)
theorem DL (h:Q .normal E) (hr:Region.ready .any ops listed=[]:=by decide+kernel):Dl P N ops ts fuel listed E Q:=
 fun _ _ w0 FA UA w a blk FS US k1 k2 k3=>by
  have hq:nP w0 FA UA N Q .normal a w:=⟨E,blk,FS,US,h,k1,k2,k3⟩
  cases fuel with
  |zero=>exact⟨hr,hq⟩
  |succ n=>exact⟨fun _=>hq,by rw [hr];simp⟩
theorem Dl.all (rs:List Nat) (h:∀i∈rs,D7 P N ops ts i E (fun E'=>Dl P N ops ts fuel (listed.setIfInBounds i true) E' Q) Q) (hr:Region.ready .any ops listed=rs) (b:rs≠ []):Dl P N ops ts (fuel+1) listed E Q:=
 fun hQ hc w0 FA UA w a blk FS US k1 k2 k3=>⟨fun h0=>absurd (hr▸h0) b,fun i hi=>by
  have hi':i∈rs:=hr▸hi
  exact wpOp_mono (fun a' w' ⟨m0,E',blk',FS',US',m1,m2,m3,m4⟩=>⟨m0,m1 hQ (Kb hc hi) _ _ _ _ _ _ _ _ m2 m3 m4⟩) (h i hi' _ _ _ _ _ _ _ _ k1 k2 k3)⟩
variable (ops ts)in
def Qe (n i:Nat) (listed:Array Bool):Bool:=Region.noSelect ops&&Region.free .any ops listed i&&(Region.ready .any ops listed).contains i&&!ts.contains i&&ts.all fun j=>Vm .any ops i n j
theorem Sg {n i:Nat} {listed:Array Bool} (h:Qe ops ts n i listed=true):Region.noSelect ops=true/\Region.free .any ops listed i=true/\i∈Region.ready .any ops listed/\ts.contains i=false/\∀j,ts.contains j=true->Vm .any ops i n j=true:=by
 simp only [Qe,An,Dm,HI]at h;obtain⟨⟨⟨⟨h1,h2⟩,h3⟩,h4⟩,h5⟩:=h;exact⟨h1,h2,by simpa using h3,h4,fun j hj=>h5 j (by simpa using hj)⟩
theorem Dl.take (n i:Nat) {o:Oper} (d:Nat) (s:SV) (h:Dl P N ops ts fuel (listed.setIfInBounds i true) (E.put (some d) s) Q) (hs:Ik P E o=some s)
  (ho:ops[i]?=some o) (f:Qe ops ts n i listed=true) (hg:Bm P ops E o=some true) (hd:o.dst=some d) (hN:Nat.blt d N=true):Dl P N ops ts (fuel+1) listed E Q:=by
 intro hQ hc w0 FA UA w a blk FS US k1 k2 k3;obtain⟨e1,e2,e3,e4,e5⟩:=Sg f;obtain⟨v,U,h1,h2,h3⟩:=V0 k1 hs;refine Le (v:=v) (n:=n) ho (Region.noSelect_spec e1) (fun c a w hx=>?_) e4 e5 fuel listed a w hc (Region.free_spec ho e2) e3 (.inl ⟨Ct k1 hg,fun w2 e=>?_⟩) ?_
 ·obtain⟨E',blk',FS',US',m1,_⟩:=hx;exact(hQ c E' m1).elim
 ·exact h1 w2 (fun r hr=>⟨fun b hb=>e.2 b (k1.inF r b hb).2,fun b hb=>e.2 b (k1.inU r b hb).2⟩)
 ·rw [hd];refine h hQ (Kb hc e3) _ _ _ _ _ _ _ _ (k1.put (by simpa [Bv]using hN) h2 (N4 k1 h3 _)) ?_ ?_
  ·rw [Bs (by simp),k2]
  ·rw [Bs (by simp),k3]
theorem iI (n i:Nat) {o:Oper} (d:Nat) (h:Dl P N ops ts fuel (listed.setIfInBounds i true) (E.put (some d) (.tup [])) Q)
  (ho:ops[i]?=some o) (b:Qe ops ts n i listed=true) (hg:Bm P ops E o=some false) (hd:o.dst=some d) (hN:Nat.blt d N=true):Dl P N ops ts (fuel+1) listed E Q:=by
 intro hQ hc w0 FA UA w a blk FS US k1 k2 k3;obtain⟨e1,e2,e3,e4,e5⟩:=Sg b;refine Le (v:=undef) (n:=n) ho (Region.noSelect_spec e1) (fun c a w hx=>?_) e4 e5 fuel listed a w hc (Region.free_spec ho e2) e3 (.inr ⟨Ct k1 hg,rfl⟩) ?_
 ·obtain⟨E',blk',FS',US',m1,_⟩:=hx;exact(hQ c E' m1).elim
 ·rw [hd];refine h hQ (Kb hc e3) _ _ _ _ _ _ _ _ (k1.put (F:=[]) (U:=[]) (by simpa [Bv]using hN) (by simp only [Eq];exact⟨[],rfl,by simp [Nd]⟩) Zz.none) ?_ ?_
  ·rw [Bs (by simp),k2]
  ·rw [Bs (by simp),k3]
theorem X2 {id:Nat} (n:Nat) (ts:List Nat) (hm:P.follows .mixedOrders=true) (hQ:∀c E,Q (.panic c) E->False) (h:Dl P N ops ts n (Array.replicate n false) E Q) (hn:ops.size=n:=by rfl):Wp P N (.region id ops true) E Q:=by
 subst hn;intro w0 FA UA w a blk FS US k1 k2 k3;refine wp_region_any hm (Vj (T:=fun i=>ts.contains i) _ _ _ _ ?_);obtain⟨FS',US',m1,m2,m3⟩:=k1.drop (w':={w with drawn:=w.drawn+1}) (A4 _) rfl rfl rfl (fun _ _ _=>rfl);refine h hQ (fun k o hk hl=>?_) _ _ _ _ _ _ _ _ m1 m2 m3;exfalso;rw [Eb]at hl
 rcases Dk k ops.size with h'|h'
 ·simp [h']at hl
 ·simp [h']at hl
theorem Dl.o (n i d:Nat) (s:SV) {o:Oper} (h:Dl P N ops ts fuel (listed.setIfInBounds i true) (E.put (some d) s) Q) (ho:ops[i]?=some o:=by rfl) (hs:Ik P E o=some s:=by rfl)
 (a:Qe ops ts n i listed=true:=by decide+kernel) (hg:Bm P ops E o=some true:=by rfl) (hd:o.dst=some d:=by rfl) (hN:Nat.blt d N=true:=by rfl):Dl P N ops ts (fuel+1) listed E Q:=Dl.take n i d s h hs ho a hg hd hN
theorem AC4 {tx ty:Option β} {b:Bool} (h:(bif b then tx else ty)=some r) (t:Nat) (ht:tx=some r->Dl P N ops ts fuel listed (E.rs t true) Q) (hf:ty=some r->Dl P N ops ts fuel listed (E.rs t false) Q) (hc:E.slots t=B b:=by rfl):Dl P N ops ts fuel listed E Q:=by
 cases b
 ·rw [ZO hc]at hf;exact hf h
 ·rw [ZO hc]at ht;exact ht h
theorem BT (i:Nat) (h:D7 P N ops ts i E (fun E'=>Dl P N ops ts fuel (listed.setIfInBounds i true) E' Q) Q) (hr:Region.ready .any ops listed=[i]:=by decide+kernel):Dl P N ops ts (fuel+1) listed E Q:=
 Dl.all [i] (fun j hj=>by
  have:j=i:=by simpa using hj
  subst this;exact h) hr (by simp)
theorem Ki (i j:Nat) (h:D7 P N ops ts i E (fun E'=>Dl P N ops ts fuel (listed.setIfInBounds i true) E' Q) Q) (h2:D7 P N ops ts j E (fun E'=>Dl P N ops ts fuel (listed.setIfInBounds j true) E' Q) Q) (hr:Region.ready .any ops listed=[i,j]:=by decide+kernel):Dl P N ops ts (fuel+1) listed E Q:=
 Dl.all [i,j] (fun m hm=>by
  simp only [B7,Kh,qF]at hm
  rcases hm with rfl|rfl
  ·exact h
  ·exact h2) hr (by simp)
theorem AAR (i j l:Nat) (h:D7 P N ops ts i E (fun E'=>Dl P N ops ts fuel (listed.setIfInBounds i true) E' Q) Q) (h2:D7 P N ops ts j E (fun E'=>Dl P N ops ts fuel (listed.setIfInBounds j true) E' Q) Q) (h3:D7 P N ops ts l E (fun E'=>Dl P N ops ts fuel (listed.setIfInBounds l true) E' Q) Q) (hr:Region.ready .any ops listed=[i,j,l]:=by decide+kernel):Dl P N ops ts (fuel+1) listed E Q:=
 Dl.all [i,j,l] (fun m hm=>by
  simp only [B7,Kh,qF]at hm
  rcases hm with rfl|rfl|rfl
  ·exact h
  ·exact h2
  ·exact h3) hr (by simp)
theorem D7.o (i d:Nat) (s:SV) {o:Oper} (h:K (E.put (some d) s)) (ho:ops[i]?=some o:=by rfl) (hs:BX P N false E o=some (E.put (some d) s):=by rfl) (hg:Bm P ops E o=some true:=by rfl) (hk:(kp o||ts.contains i)=true:=by rfl):D7 P N ops ts i E K Q:=D7.op i false h hs ho hg hk
theorem AEq (i:Nat) (m:List (Root×List TV)) (d:Nat) (xs:List TV) {o:Oper} (h:K ((UV E m).newBox d xs)) (ho:ops[i]?=some o:=by rfl) (hs:BX P N false E o=some ((UV E m).newBox d xs):=by rfl) (hg:Bm P ops E o=some true:=by rfl) (hk:(kp o||ts.contains i)=true:=by rfl):D7 P N ops ts i E K Q:=D7.op i false h hs ho hg hk
theorem Hy (i:Nat) (mv:Bool) (m:List (Root×List TV)) (d:Nat) (s:SV) {o:Oper} (h:K ((UV E m).put (some d) s)) (ho:ops[i]?=some o:=by rfl) (hs:BX P N mv E o=some ((UV E m).put (some d) s):=by rfl) (hg:Bm P ops E o=some true:=by rfl) (hk:(kp o||ts.contains i)=true:=by rfl):D7 P N ops ts i E K Q:=D7.op i mv h hs ho hg hk
theorem Iy (i:Nat) (m:List (Root×List TV)) (rt:Root) (cs:List TV) {o:Oper} (h:K (((UV E m).setRoot rt cs).bump rt)) (ho:ops[i]?=some o:=by rfl) (hs:BX P N false E o=some (((UV E m).setRoot rt cs).bump rt):=by rfl) (hg:Bm P ops E o=some true:=by rfl) (hk:(kp o||ts.contains i)=true:=by rfl):D7 P N ops ts i E K Q:=D7.op i false h hs ho hg hk
theorem AEp (i n ix d:Nat) (s:SV) {o:Oper} (h:K ((E.ex n ix).put (some d) s)) (ho:ops[i]?=some o:=by rfl) (hs:BX P N false E o=some ((E.ex n ix).put (some d) s):=by rfl) (hg:Bm P ops E o=some true:=by rfl) (hk:(kp o||ts.contains i)=true:=by rfl):D7 P N ops ts i E K Q:=D7.op i false h hs ho hg hk
theorem Mr {x:Option α} {k:α->Option β} (h:x.bind k=some r) (i:Nat) (m:List (Root×List TV)) (d:Nat) (f:α->SV) {o:Oper} (hk:∀a,x=some a->k a=some r->K ((UV E m).put (some d) (f a))) (ho:ops[i]?=some o) (hs:∀a,x=some a->BX P N false E o=some ((UV E m).put (some d) (f a))) (hg:Bm P ops E o=some true:=by rfl) (b:(kp o||ts.contains i)=true:=by rfl):D7 P N ops ts i E K Q:=by
 obtain⟨a,ha,h⟩:=Aq.1 h;exact D7.op i false (hk a ha h) (hs a ha) ho hg b
end
def oI (n:Int):Prop:= -9223372036854775808<=n/\n<=9223372036854775807
def oK (k:IntKind) (n:Int):Prop:=k.min<=n/\n<=k.max
def ol {α:Type} (o:α->Prop) (l:List α):Prop:=l.length<=9223372036854775807/\∀x∈l,o x
end Go.TI
namespace Go.TI
open Go Go.RowKit
def aZ (P:Program) (t:TypeId) {α:Type} (c:α->List TV) (o:α->Prop):Prop:=
 ∀{H:Type} (enc:TypeId×Value->H) (w:World) (base:Nat) (fuel:Nat) (cs:List Value) (x:DataW H×List MemPlace),DataW.trod enc P w base (fun _=>true) true fuel t cs=some x->
  ∃a U,o a/\Bw w (c a) cs [] U/\∀b∈U,b<w.heap.size
section
variable {P:Program}
theorem MB {w:World} {t:TV} {v:Value} {F U:List Nat} (h:C7 w t v F U):Bw w [t] [v] F U:=by
 simp only [Bw];exact⟨v,[],F,[],U,[],rfl,by simp,by simp,h,rfl,rfl,rfl⟩
theorem vC {t:TypeId} {k:IntKind} (ht:P.underlying t=some (.int k)):aZ P t (fun n:Int=>[.int k n]) (fun n=>k.min<=n/\n<=k.max):=by
 intro H enc w base fuel cs x h
 cases fuel with
 |zero=>simp [DataW.trod]at h
 |succ fuel=>
  simp only [DataW.trod,ht]at h;split at h<;>rename_i h1<;>try (first|(injection h1 with h1;cases h1;done)|(cases h1;done))
  all_goals first|(cases h;done)|skip
  rename_i k' n;split at h
  ·rename_i hk;simp only [Ao,TypeDesc.int.injEq]at h1;subst h1;obtain⟨rfl,hw⟩:=hk;simp only [Lit.wf,An,AA]at hw;exact⟨n,[],hw,MB (by simp [C7]),by simp⟩
  ·cases h
theorem lL {t e:TypeId} {sz:Nat} {α:Type} {c:α->List TV} {o:α->Prop} (ht:P.underlying t=some (.slice e)) (p:P.cellsOf e=sz) (h0:0<sz) (hc:∀a,(c a).length=sz) (h:aZ P e c o):
  aZ P t (fun l:List α=>[.sl false e sz (AN c l)]) (fun l=>l.length<=9223372036854775807/\∀a∈l,o a):=by
 intro H enc w base fuel cs x hx
 rcases Go.Deep.open_slice ht hx with⟨rfl,_⟩|⟨a,len,cap,m,n,D,Pl,rfl,hb,d,q,hm,_,f⟩
 ·refine⟨[],[],⟨by simp,by simp⟩,MB ?_,by simp⟩;simp only [C7];exact⟨none,0,0,[],[],[],rfl,A4 _,by simp,fun i u hi=>by simp at hi,by simp [AN,Bw],by simp,by simp,by simp⟩
 ·simp only [Cd]at hm;have key:∀k,k<=len->∃(l:List α) (vs:List Value) (U:List Nat),l.length=k/\(∀a∈l,o a)/\vs.length=k*sz/\Bw w (AN c l) vs [] U/\(∀i u,vs[i]?=some u->w.cell? (a.add i)=some u)/\∀b∈U,b<w.heap.size:=by
   intro k
   induction k with
   |zero=>intro _;exact⟨[],[],[],rfl,by simp,by simp,by simp [AN,Bw],by simp,by simp⟩
   |succ k ih=>
    intro hk;obtain⟨l,vs,U,h1,h2,h3,h4,h5,h6⟩:=ih (by omega);obtain⟨cs',k1,k2⟩:=f k (by omega);obtain⟨y,V,g1,g2,g3⟩:=h enc w base n cs' _ k2;obtain⟨_,k3,k4⟩:=World.cells?_some k1;rw [p]at k1 k3 k4;refine⟨l++ [y],vs++cs',U++V,by simp [h1],?_,?_,?_,?_,?_⟩
    ·intro a ha
     rcases Aj.1 ha with ha|ha
     ·exact h2 a ha
     ·rw [A6.1 ha];exact g1
    ·rw [Ag,h3,k3,DR]
    ·rw [MJ];have:=Ho h4 (show Bw w (AN c [y]) cs' [] V by simpa [AN]using g2);simpa using this
    ·intro i u hi;by_cases r:i<vs.length
     ·rw [AP r]at hi;exact h5 i u hi
     ·rw [AR (by omega)]at hi;have g:i-vs.length<sz:=by
       have:=(Ah.1 hi).1;omega
      have:=k4 (i-vs.length) g;rw [hi,TI.add_add]at this;rw [<-this];congr 2;omega
    ·intro b hb
     rcases Aj.1 hb with hb|hb
     ·exact h6 b hb
     ·exact g3 b hb
  obtain⟨l,vs,U,h1,h2,h3,h4,h5,h6⟩:=key len (A4 _);have v:len<=9223372036854775807:=by simp only [maxLen]at q;omega
  by_cases s:len=0
  ·subst s;have:vs=[]:=A8 (by omega);subst this;refine⟨l,U,⟨by omega,h2⟩,MB ?_,h6⟩;simp only [C7];exact⟨some a,0,cap,[],U,[],rfl,d,by simp,fun i u hi=>by simp at hi,h4,by simp,by simp,by simp⟩
  ·have j:a.block<w.heap.size:=by
    obtain⟨cs',k1,_⟩:=f 0 (by omega);have:=World.cells?_block k1 (by omega)
    rwa [Gc]at this
   refine⟨l,a.block::U,⟨by omega,h2⟩,MB ?_,?_⟩
   ·simp only [C7];exact⟨some a,len,cap,vs,U,[a.block],rfl,d,h3,fun i u hi=>⟨a,len,cap,rfl,h5 i u hi⟩,h4,by simp,.inl (by simp [Cz,Value.ownBlock]),by simp⟩
   ·intro b hb
    rcases B7.1 hb with rfl|hb
    ·exact j
    ·exact h6 b hb
theorem ABN {t:TypeId} {α:Type} {u:α->TV} {o:α->Prop} {H:Type} {enc:TypeId×Value->H} {w:World} {v:Value} {d:DataW H} {ps:List MemPlace} (h:aZ P t (fun a=>[u a]) o) (hv:v.cells= #[v]) (k:DataW.Trod enc P w 0 (fun _=>true) true t v d ps):
  ∃a U,o a/\Qn w (.one (u a)) v [] U/\∀b∈U,b<w.heap.size:=by
 obtain⟨n,hn⟩:=k;obtain⟨a,U,h1,h2,h3⟩:=h enc w 0 n _ _ hn;rw [hv]at h2;simp only [Bw]at h2;obtain⟨v',vs',F1,F2,U1,U2,e,hF,hU,h4,rfl,rfl,rfl⟩:=h2
 injection e with e _
 subst e;obtain⟨rfl,_⟩:=Ig.1 hF.symm;refine⟨a,U1,h1,?_,by simpa [hU]using h3⟩;simp only [Qn];exact⟨h4,hv⟩
theorem zE {w:World} {r:Reach} {base:Nat} {t:TypeId} {v:Value} (h:Value.okWide P w r base t v) (h1:∀fs,P.underlying t≠some (.struct fs)) (h2:∀n e,P.underlying t≠some (.array n e)):v.cells= #[v]:=by
 unfold Value.okWide at h;split at h
 ·rename_i fs a;exact absurd a (h1 fs)
 ·rename_i n e b;exact absurd b (h2 n e)
 ·unfold Cell.okWide at h;cases v<;>first|rfl|skip
  all_goals
   split at h<;>rename_i hv<;>first|(cases hv;done)|skip
   unfold Cell.ok at h;split at h<;>first|(exact h.elim)|skip
  all_goals rename_i c;cases c
end
end Go.TI
namespace Go.TI
open Go Go.RowKit
def St.without (E:St) (r:Root):St:={E with boxes:=Cc E.boxes r none,ver:=Cc E.ver r (E.ver r+1),gen:=Cc E.gen r (E.gen r+1)}
section
variable {w0:Base} {FA UA:List Nat} {N:Nat} {w:World} {a:Act} {E:St} {blk:Root->Nat} {FS US:Root->List Nat} {P:Program}
theorem bD {r s:Root} (h:s≠r):(E.without r).root s=E.root s:=by
 cases s<;>simp [St.without,St.root,Cc,h]
theorem CB.without (h:CB w0 FA UA N w a E blk FS US) (hF:FS .hand=[]) (hU:US .hand=[]) {r:Root} (hm:r.mem=true):
  CB w0 FA UA N w a (E.without r) blk (Cc (Cc FS r []) .hand (FS r)) (Cc (Cc US r []) .hand (US r)):=by
 have c:r≠ .hand:=by rintro rfl;cases hm
 have d:∀s,Ck w w a a E (E.without r) blk blk s:=by
  intro s;by_cases hs:s=r
  ·subst hs;exact⟨.inl (by simp [St.without,Cc]),.inl (by simp [St.without,Cc])⟩
  ·by_cases hh:s= .hand
   ·subst hh;exact Fu (by simp [St.without,Cc,hs]) (by simp [St.without,Cc,hs]) (by simp [St.root,h.nohand])
   ·exact DB h (by simp [St.without,Cc,hs]) (by simp [St.without,Cc,hs]) (bD hs) (fun _ _=>rfl) (fun _=>rfl) (fun _ _=>rfl) (fun _ _=>rfl)
 refine h.two (r1:=r) (r2:= .hand) (L1:=[]) (L2:=FS r) (V1:=[]) (V2:=US r) c (by simpa using h.nodup r) (fun b hb=>⟨.inl (by simpa using hb),(h.inF r b (by simpa using hb)).2⟩)
  (fun b hb=> .inl ⟨r,by simpa using hb⟩) (A4 _) rfl rfl rfl (fun _ _ _ _=>rfl) d (fun n _ _=>⟨rfl,rfl⟩) (fun s _ hs _=>⟨by simp [St.without,Cc,hs],rfl⟩) ?_ trivial ?_ h.len h.nodef
 ·cases r with
  |slot n=>cases hm
  |hand=>cases hm
  |box n=>exact .inl ⟨by simp [St.without,Cc],rfl,rfl⟩
  |ext n=>exact .inl ⟨by simp [St.without,Cc],rfl,rfl⟩
 ·simp [St.without,Cc,E6 c,h.nohand]
theorem WH:∀{l:List (Bool×TypeId×Operand)},zQ w a l (List.replicate l.length none) [] []
 |[]=>⟨rfl,rfl⟩
 |_::l=>WH (l:=l)
theorem nE (h:CB w0 FA UA N w a E blk FS US) (hF:FS .hand=[]) (hU:US .hand=[]) {o:Oper} {f:FuncId} {args:Array Operand} {tys:Array TypeId} (ho:o.op= .call {callee:= .value (.func f),args:=args,argTypes:=tys}) (hf:gT P f)
  (hN:∀d,o.dst=some d->d<N) {x:Operand} {l:List (Bool×TypeId×Operand)} (hl:x::l.map (fun x=>x.2.2)=args.toList) {r:Root} (hm:r.mem=true) (hx:E.ptr? x=some (r,[],0)) {cells cells':List TV} (hc:E.boxes r=some cells) (c0:cells'.length=cells.length)
  {as:List AV} {res:SV} {n:Nat} {c:Bool} (b1:Hb P (E.without r) l (List.replicate l.length none)=some (as,c)) (a2:c=true\/BE res=false/\AT cells'=false)
  (hg:AW P f (.ext cells::as) res (.ext cells'::List.replicate n .gone))
  {K:Act->World->Prop} {Q:Exit->Act->World->Prop} (hK:∀w' v blk' FS' US',CB w0 FA UA N w' (a.put o.dst v) (((E.setRoot r cells').bump r).put o.dst res) blk' FS' US'->FS' .hand=[]->US' .hand=[]->K (a.put o.dst v) w'):o.wp P a w K Q:=by
 have a5:r≠ .hand:=by rintro rfl;cases hm
 have k2:=h.without hF hU hm;obtain⟨U',k5,k6⟩:=JD k2 WH b1;have a6:∃cur T F,w.heap[blk r]?=some (.cells cur T (0,0))/\Bw w cells cur.toList F (US r)/\FS r=blk r::F:=by
  rcases h.box r hm with⟨h1,_⟩|⟨cs,cur,T,F,h1,h2,h3,h4⟩
  ·rw [hc]at h1;cases h1
  ·rw [hc]at h1;injection h1 with h1;subst h1;exact⟨cur,T,F,h2,h3,h4⟩
 obtain⟨cur,T,F,b2,b3,b4⟩:=a6;obtain⟨a7,ad,h0,a8⟩:=Lp h hx;have b5:ad=⟨blk r,0,none⟩:=by
  cases r with
  |slot n=>cases hm
  |hand=>cases hm
  |box n=>simp [pa,Addr.add]at h0;exact h0.symm
  |ext n=>simp [pa,Addr.add]at h0;exact h0.symm
 subst b5;have a9:cells≠ []:=by
  rintro rfl
  cases r with
  |slot n=>cases hm
  |hand=>cases hm
  |box n=>simp [St.place,St.root,hc,BQ]at a7
  |ext n=>simp [St.place,St.root,hc,BQ]at a7
 have b0:a.eval x::l.map (fun x=>a.eval x.2.2)=(args.map a.eval).toList:=by
  rw [NE,<-hl,BN,Es];rfl
 have m:Ic w (.ext cells::as) (args.map a.eval).toList (FS r++ []) (US r++U'):=by
  rw [<-b0];exact⟨_,_,FS r,[],US r,U',rfl,rfl,rfl,⟨blk r,cur,T,F,a8,b2,b3,b4,a9⟩,k5⟩
 rw [As]at m;have b6:∀s b,b∈Cc (Cc US r []) .hand (US r) s->∃s',b∈US s':=by
  intro s b hb;by_cases hs:s= .hand
  ·subst hs;rw [BO]at hb;exact⟨r,hb⟩
  ·rw [Bs hs]at hb;by_cases i:s=r
   ·subst i;rw [BO]at hb;cases hb
   ·rw [Bs i]at hb;exact⟨s,hb⟩
 have b7:∀s b,s≠ .hand->b∈Cc (Cc FS r []) .hand (FS r) s->s≠r/\b∈FS s:=by
  intro s b hs hb;rw [Bs hs]at hb;by_cases i:s=r
  ·subst i;rw [BO]at hb;cases hb
  ·rw [Bs i]at hb;exact⟨i,hb⟩
 have k6':∀b∈U',(∃s,b∈US s)\/(c=false/\∃s,s≠r/\b∈FS s):=by
  intro b hb
  rcases k6 b hb with h4|⟨s,h4⟩|⟨h5,s,h6,h4⟩
  ·cases h4
  ·exact .inl (b6 s b h4)
  ·exact .inr ⟨h5,s,b7 s b h6 h4⟩
 have a3:∀b∈FS r,b∉US r++U':=by
  intro b hb hb'
  rcases Aj.1 hb' with hb'|hb'
  ·exact h.disU r r b hb hb'
  ·rcases k6' b hb' with⟨s,h4⟩|⟨_,s,h5,h4⟩
   ·exact h.disU r s b hb h4
   ·exact h.dis r s (E6 h5) b hb h4
 have p:=hg w _ (FS r) (US r++U') m (h.nodup r) a3 (by
  intro b hb
  rcases Aj.1 hb with hb|hb
  ·exact(h.inF r b hb).2
  ·rcases Aj.1 hb with hb|hb
   ·exact(h.inU r b hb).2
   ·rcases k6' b hb with⟨s,h4⟩|⟨_,s,h5,h4⟩
    ·exact(h.inU s b h4).2
    ·exact(h.inF s b h4).2)
 unfold Oper.wp;rw [IE ho hf];simp only [Oper.upon];rw [OF]at p;refine Calls.mono p ?_;rintro e w' ⟨v,Fr,Ur,G,V,rfl,g⟩;have t:=g.fin;rw [<-b0]at t;simp only [Ic]at t;obtain⟨v1,vs1,G1,G2,V1,V2,e1,rfl,rfl,⟨b,cur',T',F0,g1,g2,g3,rfl,g5⟩,a4⟩:=t;obtain⟨rfl,rfl⟩:=Rb a4
 injection e1 with e1 e2
 rw [<-e1,a8]at g1
 injection g1 with g1
 injection g1 with g1
 injection g1 with g1
 subst g1;have k:=g.nodup;have a0:=g.dis;have u:=g.inF;have a1:=g.inU;simp only [As]at k a0 u a1;have hV:∀b∈Ur++V1,(∃s,b∈US s)\/((b∈FS r\/w.heap.size<=b)/\b<w'.heap.size):=by
  intro b hb;obtain⟨h4,h5⟩:=a1 b hb
  rcases h4 with h4|h4|h4
  ·rcases Aj.1 h4 with h4|h4
   ·exact .inl ⟨r,h4⟩
   ·rcases k6' b h4 with h6|⟨h6,s,h7,h8⟩
    ·exact .inl h6
    ·rcases a2 with a2|⟨c1,c2⟩
     ·rw [a2]at h6;cases h6
     ·have n1:=OW g.res c1;have n2:=Jm g3 c2;subst n1;subst n2;cases hb
  ·exact .inr ⟨.inl h4,h5⟩
  ·exact .inr ⟨.inr h4,h5⟩
 have h9:∀j,((E.setRoot r cells').bump r).place r [] j=cells'[j]? :=by
  intro j
  cases r with
  |slot n=>cases hm
  |hand=>cases hm
  |box n=>simp [St.place,St.bump,St.setRoot,St.root,Cc,BQ]
  |ext n=>simp [St.place,St.bump,St.setRoot,St.root,Cc,BQ]
 have z:∀j,E.place r [] j=cells[j]? :=by
  intro j
  cases r with
  |slot n=>cases hm
  |hand=>cases hm
  |box n=>simp [St.place,St.root,hc,BQ]
  |ext n=>simp [St.place,St.root,hc,BQ]
 let E1:St:=(E.setRoot r cells').bump r
 have ev:∀s,s≠r->E1.ver s=E.ver s:=by
  intro s hs;cases r<;>simp [E1,St.bump,St.setRoot,Cc,hs]
 have evr:E1.ver r=E.ver r+1:=by cases r<;>simp [E1,St.bump,St.setRoot,Cc]
 have eg:∀s,E1.gen s=E.gen s:=by intro s;cases r<;>rfl
 have er:∀s,s≠r->E1.root s=E.root s:=by
  intro s hs
  cases r with
  |slot n=>cases hm
  |hand=>cases hm
  |box n=>cases s<;>simp [E1,St.bump,St.setRoot,St.root,Cc,hs]
  |ext n=>cases s<;>simp [E1,St.bump,St.setRoot,St.root,Cc,hs]
 have es:∀n,E1.slots n=E.slots n:=by
  intro n
  cases r with
  |slot n=>cases hm
  |hand=>cases hm
  |box n=>rfl
  |ext n=>rfl
 have eb:∀s,E1.boxes s=if s=r then some cells' else E.boxes s:=by
  intro s
  cases r with
  |slot n=>cases hm
  |hand=>cases hm
  |box n=>rfl
  |ext n=>rfl
 have b8:∀s,Ck w w' a a E E1 blk blk s:=by
  intro s;by_cases hs:s=r
  ·subst hs;refine⟨.inl (by rw [evr];omega),.inr ⟨eg s,fun j ad hv hp=>?_⟩⟩;refine⟨(by cases s<;>first|exact hv|(cases hm)),?_⟩;rw [z]at hp;rw [show E1.place s [] j=cells'[j]? from h9 j];have hj:j<cells.length:=by
    rcases Dk j cells.length with q|q
    ·exact q
    ·rw [Di q]at hp;cases hp
   rw [Ab (by omega)];rfl
  ·by_cases hh:s= .hand
   ·subst hh;exact Fu (ev _ hs) (eg _) (by simp [St.root,h.nohand])
   ·exact DB h (ev s hs) (eg s) (er s hs) (fun _ _=>rfl) (fun _=>rfl)
     (fun b hb=>g.keep b (h.inF s b hb).2 (h.dis s r hs b hb)) (fun b hb=>g.keep b (h.inU s b hb).2 (fun e=>h.disU r s b e hb))
 have k7:=h.two (w':=w') (a':=a) (E':=E1) (blk':=blk) (r1:=r) (r2:= .hand) (L1:=blk r::F0) (L2:=Fr) (V1:=V1) (V2:=Ur) a5
  (by
   rw [Bj]at k⊢
   exact⟨k.2.1,k.1,fun x hx y hy e=>k.2.2 y hy x hx e.symm⟩)
  (fun b hb=>by
   obtain⟨q1,q2⟩:=u b (by
    rcases Aj.1 hb with hb|hb
    ·exact AG _ hb
    ·exact AD _ hb)
   refine⟨?_,q2⟩
   rcases q1 with q1|q1
   ·exact .inl q1
   ·exact .inr (.inr q1))
  (fun b hb=>by
   have hb':b∈Ur++V1:=by
    rcases Aj.1 hb with hb|hb
    ·exact AG _ hb
    ·exact AD _ hb
   rcases hV b hb' with q|⟨q1,q2⟩
   ·exact .inl q
   ·refine .inr ⟨?_,fun e=>?_,q2⟩
    ·rcases q1 with q1|q1
     ·exact .inl q1
     ·exact .inr (.inr q1)
    refine a0 b ?_ hb'
    rcases Aj.1 e with e|e
    ·exact AG _ e
    ·exact AD _ e)
  g.size g.os g.tape g.output (fun b hb q _=>g.keep b hb q) b8 (fun n _ _=>⟨es n,rfl⟩) (fun s _ hs _=>⟨by rw [eb,A0 hs],rfl⟩)
  (by
   have:FY w' a E1 blk r (blk r::F0) V1:=by
    have:=eb r;rw [Ay rfl]at this
    cases r with
    |slot n=>cases hm
    |hand=>cases hm
    |box n=>exact .inr ⟨cells',cur',T',F0,this,g2,g3,rfl⟩
    |ext n=>exact .inr ⟨cells',cur',T',F0,this,g2,g3,rfl⟩
   exact this)
  trivial (by rw [eb,A0 (E6 a5)];exact h.nohand) h.len h.nodef (hfz:=by
   intro n hn;have e:((E.setRoot r cells').bump r).fz=E.fz:=by rw [O8,Hd]
   exact h.frz n (e▸hn)) (hamb:=by show((E.setRoot r cells').bump r).amb=E.amb;rw [KE,EB])
 have kh:(Cc (Cc FS r (blk r::F0)) .hand Fr) .hand=Fr:=BO _ _ _;have kh2:(Cc (Cc US r V1) .hand Ur) .hand=Ur:=BO _ _ _
 cases hd:o.dst with
 |some d=>
  obtain⟨FS',US',q1,q2,q3⟩:=k7.land (w':=w') (d:=d) (s:=res) (v:=v) (F:=Fr) (U:=Ur) (hN d hd) (LH g.res) (Bj.1 k).1
   (fun b hb=>⟨.inl (by rw [kh];exact hb),(u b (AD _ hb)).2⟩) (fun b hb=> .inl ⟨.hand,by rw [kh2];exact hb⟩) (A4 _) rfl rfl rfl (fun _ _ _=>rfl)
  have:=hK w' v blk FS' US' (by rw [hd];exact q1) q2 q3;rw [hd]at this;exact this
 |none=>
  obtain⟨FS',US',q1,q2,q3⟩:=k7.drop (w':=w') (A4 _) rfl rfl rfl (fun _ _ _=>rfl);have:=hK w' v blk FS' US' (by rw [hd];exact q1) q2 q3;rw [hd]at this;exact this
end
theorem wB {P:Program} {f:FuncId} {fn:Func} {c:Code} {cells cells':List TV} {as:List AV} {res:SV} (hf:P.funcs[f]?=some fn) (hb:fn.body=some c)
  (h:Wp P fn.ntmps c (DT (.ext cells::as)) fun e E=>(e= .normal\/e= .ret)/\∃ss E',Ew P E fn.results.toList=some (ss,E')/\EU ss=res/\E'.boxes (.ext 0)=some cells') (l:cells'.isEmpty=false):
  AW P f (.ext cells::as) res (.ext cells'::List.replicate as.length .gone):=by
 intro w vs FA UA ha m j o;obtain⟨blk,FS,US,hr,hF,hU⟩:=NC (N:=fn.ntmps) ha m j o (A:=HL.none) trivial (fun b hb=>by cases hb);have ha':=ha;obtain⟨v0,vs0,F1,F2,U1,U2,rfl,rfl,rfl,⟨b0,cur0,T0,F0,rfl,_,_,rfl,_⟩,p⟩:=ha;refine calls_of_wp hf hb (wp_mono (h _ _ _ _ _ _ _ _ hr hF hU) ?_);rintro e a w' ⟨E,blk',FS',US',⟨he,ss,E',h1,rfl,g⟩,h2,h3,h4⟩;obtain⟨us,FS2,US2,F,U,k1,k2,k3,k4,k5⟩:=IF h2 h1;rw [h3,A7]at k4;rw [h4,A7]at k5;have i:∀(n:Nat) (vs:List Value),vs.length=n->Ic w' (List.replicate n .gone) vs [] []:=by
  intro n
  induction n with
  |zero=>intro vs hv;simp at hv;subst hv;exact⟨rfl,rfl,rfl⟩
  |succ n ih=>
   intro vs hv
   cases vs with
   |nil=>simp at hv
   |cons v vs=>exact⟨v,vs,[],[],[],[],rfl,rfl,rfl,⟨rfl,rfl⟩,ih vs (by simpa using hv)⟩
 have r:vs0.length=as.length:=by
  obtain⟨_,_,_,_,h5,_⟩:=NA p;exact h5
 have k:blk' (.ext 0)=b0:=by
  rw [k3.xblk];rfl
 obtain⟨cur,T,F3,b2,b3,b4⟩:∃cur T F3,w'.heap[b0]?=some (.cells cur T (0,0))/\Bw w' cells' cur.toList F3 (US2 (.ext 0))/\FS2 (.ext 0)=b0::F3:=by
  rcases k3.box (.ext 0) rfl with⟨q,_⟩|⟨cs,cur,T,F3,q1,q2,q3,q4⟩
  ·rw [g]at q;cases q
  ·rw [g]at q1
   injection q1 with q1
   subst q1;rw [k]at q2 q4;exact⟨cur,T,F3,q2,q3,q4⟩
 have hne':cells'≠ []:=by rintro rfl;cases l
 have d:a.defers=[]/\∃v,(results fn a.tmps).run P w'= .ok v w'/\∃v' F U G V,Ending.returned v= .returned v'/\Zx w w' ((b0::F0)++F2) (U1++U2) (EU ss) (.ext cells'::List.replicate as.length .gone) (.pointer (some ⟨b0,0,none⟩)::vs0) v' F U G V:=by
  refine⟨h2.nodef,_,K8 k1,_,F,U,FS2 (.ext 0),US2 (.ext 0),rfl,?_⟩
  exact{
   res:=MC k2
   fin:=⟨_,vs0,FS2 (.ext 0),[],US2 (.ext 0),[],rfl,by simp,by simp,⟨b0,cur,T,F3,rfl,b2,b3,b4,hne'⟩,i _ _ r⟩
   nodup:=by
    rw [<-k4,Bj];exact⟨k3.nodup _,k3.nodup _,fun x hx y hy e=>k3.dis .hand (.ext 0) (by simp) x hx (e▸hy)⟩
   dis:=by
    intro b hb hb';rw [<-k4]at hb;rw [<-k5]at hb'
    rcases Aj.1 hb with hb|hb<;>rcases Aj.1 hb' with hb'|hb'
    ·exact k3.disU .hand .hand b hb hb'
    ·exact k3.disU .hand (.ext 0) b hb hb'
    ·exact k3.disU (.ext 0) .hand b hb hb'
    ·exact k3.disU (.ext 0) (.ext 0) b hb hb'
   inF:=by
    intro b hb;rw [<-k4]at hb
    rcases Aj.1 hb with hb|hb
    ·exact k3.inF .hand b hb
    ·exact k3.inF (.ext 0) b hb
   inU:=by
    intro b hb;rw [<-k5]at hb
    rcases Aj.1 hb with hb|hb
    ·exact k3.inU .hand b hb
    ·exact k3.inU (.ext 0) b hb
   os:=k3.os
   tape:=k3.tape
   output:=k3.output
   size:=k3.size
   keep:=fun b hb hF=>k3.keep b hb hF (fun e=>by cases e)}
 rcases he with rfl|rfl
 ·exact d
 ·exact d
section
variable {N:Nat} {E:St} {P:Program} {ops:Array Oper} {oo:Oper} {rest:List Oper} {Q:Exit->St->Prop} {α β:Type} {rr:β}
end
theorem AD2 {P:Program} {E:St} {o:Oper} {n:Int} {m:Nat} (r:Root) (q:List Nat) (j:Nat) (hn:n=(m:Int)) {t e:TypeId} {a i:Operand} {k:IntKind} {len:Nat} (ho:o.op= .indexAddr t a i:=by rfl) (ht:P.underlying t=some (.array len e):=by rfl) (hi:E.cell1 P 0 i=some (.int k n):=by rfl) (hp:E.ptr? a=some (r,q,j):=by rfl)
  (hc:P.cellsOf e=1:=by rfl) (hl:Nat.blt m len=true:=by rfl) (hs:(E.place r q (j+m)).isSome=true:=by rfl):Bh P E o=some (.one (.ptr r (E.stamp r q) q (j+m))):=by
 subst hn;have hl':m<len:=by simpa [Bv]using hl
 simp only [Bh,ho,ht,hi,hp,hc,B6,Rf];rw [Ay ⟨by omega,by omega,by omega,hs⟩]
def GS (l:List Int):ByteArray:=strOfNums l
theorem Sq {f:Int->List TV} (hf:∀n,f n=[.int .u8 n]):∀l,MM (AN f l)=some l
 |[]=>rfl
 |n::l=>by
  have:AN f (n::l)=f n++AN f l:=by simp [AN]
  rw [this,hf];simp only [Ce,MM,Sq hf l,Bz]
theorem AD7 {P:Program} {E:St} {o:Oper} {f:Int->List TV} (hf:∀n,f n=[.int .u8 n]) (l:List Int) {s d e e':TypeId} {x:Operand} {own:Bool} {r:Root} {q:List Nat} {j:Nat} (ho:o.op= .convert s d x:=by rfl) (hs:P.underlying s=some (.slice e):=by rfl) (hd:P.underlying d=some .string:=by rfl) (he:P.underlying e=some (.int .u8):=by rfl)
  (hr:E.ref x=some (r,q,j):=by rfl) (hp:E.place r q j=some (.sl own e' 1 (AN f l)):=by rfl):Bh P E o=some (.one (.str (GS l))):=by
 simp only [Bh,ho,hs,hd,he,hr,hp,Cd,Sq hf,Bz];rfl
def shl (k:IntKind) (a b:Int):Option Int:=if b<0 then none else some (k.wrap (a*2^(min b.toNat k.bits)))
theorem ADq {P:Program} {E:St} {o:Oper} {k k2:IntKind} {a b v:Int} (h:shl k a b=some v) {t t2:TypeId} {x y:Operand} (ho:o.op= .binOp .shl t x y t2:=by rfl) (hx:E.cell1 P t x=some (.int k a):=by rfl) (hy:E.cell1 P t y=some (.int k2 b):=by rfl):Bh P E o=some (.one (.int k v)):=by
 unfold shl at h;split at h
 ·cases h
 ·rename_i hb
  injection h with h
  subst h;simp only [Bh,ho,hx,hy,Th,Cd,TT,A0 hb,Bz]
def dr {α:Type} (l:List α) (lo hi:Int):Option (List α):=if 0<=lo/\lo<=hi/\hi<=l.length then some ((l.drop lo.toNat).take (hi.toNat-lo.toNat))else none
section
variable {α:Type} {f:α->List TV} {sz:Nat}
theorem SY (hf:∀x,(f x).length=sz):∀(l:List α) (n:Nat),(AN f l).take (n*sz)=AN f (l.take n)
 |l,0=>by simp [AN]
 |[],n+1=>by simp [AN]
 |x::l,n+1=>by
  have h1:AN f (x::l)=f x++AN f l:=by simp [AN]
  have h2:AN f (x::l.take n)=f x++AN f (l.take n):=by simp [AN]
  rw [h1,DR,UH,List.take_append,hf x,Nat.add_sub_cancel_left,SY hf l n,KG,h2,AZ (by rw [hf x];omega)]
theorem AD6 {P:Program} {E:St} {o:Oper} (hf:∀x,(f x).length=sz) {l v:List α} {a b:Int} (h:dr l a b=some v) {t e e':TypeId} {x oh:Operand} {lo:Option Operand} {k1 k2:IntKind} {r:Root} {q:List Nat} {j:Nat} (ho:o.op= .slice t x lo (some oh) none:=by rfl) (ht:P.underlying t=some (.slice e):=by rfl)
  (hr:E.ref x=some (r,q,j):=by rfl) (hp:E.place r q j=some (.sl false e' sz (AN f l)):=by rfl) (hl:(match lo with|some o=>E.cell1 P 0 o|none=>some (.int .i64 0))=some (.int k1 a):=by rfl) (hh:E.cell1 P 0 oh=some (.int k2 b):=by rfl)
  (c:P.cellsOf e=sz:=by rfl) (h0:Nat.blt 0 sz=true:=by rfl):Bh P E o=some (.one (.sl false e' sz (AN f v))):=by
 have h0':0<sz:=by simpa [Bv]using h0
 unfold dr at h;split at h
 ·rename_i hc
  injection h with h
  subst h;have hl':∀lo':Option TV,lo'=some (.int k1 a)->(match lo',E.cell1 P 0 oh with|some (.int _ l0),some (.int _ h0)=>if sz=P.cellsOf e/\0<sz/\0<=l0/\l0<=h0/\h0.toNat*sz<=(AN f l).length then some (SV.one (.sl false e' sz (((AN f l).drop (l0.toNat*sz)).take ((h0.toNat-l0.toNat)*sz))))else none|_,_=>none)=some (SV.one (.sl false e' sz (AN f ((l.drop a.toNat).take (b.toNat-a.toNat))))):=by
   rintro _ rfl;rw [hh];simp only;rw [Ay ⟨c.symm,h0',hc.1,hc.2.1,by rw [E5 hf];exact Cl _ (by omega)⟩,LB hf,SY hf]
  simp only [Bh,ho,ht,hr,hp];exact hl' _ hl
 ·cases h
theorem ADs {P:Program} {E:St} {o:Oper} (hf:∀x,(f x).length=sz) {l v:List α} {a:Int} (h:dr l a (ln l)=some v) {t e e':TypeId} {x:Operand} {lo:Option Operand} {k1:IntKind} {r:Root} {q:List Nat} {j:Nat} (ho:o.op= .slice t x lo none none:=by rfl) (ht:P.underlying t=some (.slice e):=by rfl)
  (hr:E.ref x=some (r,q,j):=by rfl) (hp:E.place r q j=some (.sl false e' sz (AN f l)):=by rfl) (hl:(match lo with|some o=>E.cell1 P 0 o|none=>some (.int .i64 0))=some (.int k1 a):=by rfl)
  (c:P.cellsOf e=sz:=by rfl) (h0:Nat.blt 0 sz=true:=by rfl):Bh P E o=some (.one (.sl false e' sz (AN f v))):=by
 have h0':0<sz:=by simpa [Bv]using h0
 have b:(AN f l).length/sz=l.length:=by rw [E5 hf];exact Dx _ h0'
 unfold dr at h;split at h
 ·rename_i hc
  injection h with h
  subst h;simp only [ln]at hc⊢;have hl':∀lo':Option TV,lo'=some (.int k1 a)->(match lo',some (TV.int .i64 (((AN f l).length/sz:Nat):Int))with|some (.int _ l0),some (.int _ h0)=>if sz=P.cellsOf e/\0<sz/\0<=l0/\l0<=h0/\h0.toNat*sz<=(AN f l).length then some (SV.one (.sl false e' sz (((AN f l).drop (l0.toNat*sz)).take ((h0.toNat-l0.toNat)*sz))))else none|_,_=>none)=some (SV.one (.sl false e' sz (AN f ((l.drop a.toNat).take (((l.length:Nat):Int).toNat-a.toNat))))):=by
   rintro _ rfl;rw [b];simp only;rw [Ay ⟨c.symm,h0',hc.1,hc.2.1,by rw [E5 hf];exact Cl _ (by omega)⟩,LB hf,SY hf]
  simp only [Bh,ho,ht,hr,hp];exact hl' _ hl
 ·cases h
end
theorem g7 {β:Type} {b:Bool} {x y:Option β} {r:β} {G:Prop} (h:(bif b then x else y)=some r) (h1:b=true->x=some r->G) (h2:y=some r->G):G:=by
 cases b with
 |true=>exact h1 rfl h
 |false=>exact h2 h
def oQ (b:ByteArray):List Int:=b.data.toList.map fun c=>(c.toNat:Int)
def aps (l:List Int) (b:ByteArray):Option (List Int):=if l.length+b.size<=140737488355328 then some (l++oQ b)else none
theorem Tp {f:Int->List TV} (hf:∀n,f n=[.int .u8 n]) (b:ByteArray):S4 b=AN f (oQ b):=by
 unfold S4 oQ
 induction b.data.toList with
 |nil=>rfl
 |cons c l ih=>
  have e:∀(x:Int) (m:List Int),AN f (x::m)=f x++AN f m:=fun x m=>by simp [AN]
  rw [BN,BN,e,hf,ih];rfl
section
variable {P:Program} {N:Nat} {E:St} {o:Oper} {d:Nat}
theorem ADX {f:Int->List TV} (hf:∀n,f n=[.int .u8 n]) {b:ByteArray} {src dst e:TypeId} {x:Operand} (ho:o.op= .convert src dst x:=by rfl) (hd:o.dst=some d:=by rfl) (hN:Nat.blt d N=true:=by rfl) (hs:P.underlying src=some .string:=by rfl) (a:P.underlying dst=some (.slice e):=by rfl)
  (hx:E.cell1 P src x=some (.str b):=by rfl) (c:mH P e=true:=by rfl):BX P N false E o=some (E.put (some d) (.one (.sl false e 1 (AN f (oQ b))))):=by
 have hN':d<N:=by simpa [Bv]using hN
 unfold BX;rw [hd];simp only [Ay hN',ho,Qg,hs,a,hx];rw [Ay c,Tp hf]
end
end Go.TI
namespace Go.TI
open Go Go.RowKit
structure Iz (w w':World) (B:List Nat):Prop where
 os:w'.os=w.os
 tape:w'.tape=w.tape
 output:w'.output=w.output
 size:w.heap.size<=w'.heap.size
 keep:∀b,b<w.heap.size->b∉B->w'.heap[b]?=w.heap[b]?
section
variable {w0:Base} {FA UA:List Nat} {N:Nat} {w:World} {a:Act} {E:St} {blk:Root->Nat} {FS US:Root->List Nat} {P:Program}
theorem CB.beside (h:CB w0 FA UA N w a E blk FS US) {w':World} {A':HL} (hb:Iz w w' w0.B) (hB:A'.B=E.amb.B) (hI:A'.I w'):CB w0 FA UA N w' a {E with amb:=A'} blk FS US:=by
 have hF:∀r,∀b∈FS r,w'.heap[b]?=w.heap[b]? :=fun r b hx=>hb.keep b (h.inF r b hx).2 (fun e=>by
  obtain⟨h1,h2,h3⟩:=h.ambF b e
  rcases(h.inF r b hx).1 with h4|h4
  ·exact h2 h4
  ·omega)
 have hU:∀r,∀b∈US r,w'.heap[b]?=w.heap[b]? :=fun r b hx=>hb.keep b (h.inU r b hx).2 (fun e=>by
  obtain⟨h1,h2,h3⟩:=h.ambF b e
  rcases(h.inU r b hx).1 with h4|h4|h4
  ·exact h3 h4
  ·exact h2 h4
  ·omega)
 have c:∀s,Ck w w' a a E {E with amb:=A'} blk blk s:=fun s=>
  DB h rfl rfl (by cases s<;>rfl) (fun _ _=>rfl) (fun _=>rfl) (hF s) (hU s)
 have hr:∀r,FY w' a {E with amb:=A'} blk r (FS r) (US r):=fun r=>
  Pj c (h.root r) (fun n _=>⟨rfl,rfl⟩) (fun _=>⟨rfl,rfl⟩) (hF r) (hU r)
 constructor
 ·exact fun n=>hr (.slot n)
 ·intro r hm
  cases r with
  |slot n=>cases hm
  |hand=>cases hm
  |box n=>exact hr (.box n)
  |ext n=>exact hr (.ext n)
 ·exact h.nohand
 ·exact h.nodup
 ·exact h.dis
 ·exact h.disU
 ·exact fun r b hx=>⟨(h.inF r b hx).1,Bf (h.inF r b hx).2 hb.size⟩
 ·exact fun r b hx=>⟨(h.inU r b hx).1,Bf (h.inU r b hx).2 hb.size⟩
 ·exact h.disA
 ·exact hb.os.trans h.os
 ·exact hb.tape.trans h.tape
 ·exact hb.output.trans h.output
 ·exact Kg h.size hb.size
 ·exact fun b h1 h2 h3=>(hb.keep b (Bf h1 h.size) h3).trans (h.keep b h1 h2 h3)
 ·exact h.len
 ·exact h.nodef
 ·exact h.xblk
 ·rw [hB];exact h.ambB
 ·exact hI
 ·exact h.frz
 ·exact h.ambF
end
def PC (P:Program) (f:FuncId) (A:HL) (as:List AV) (A':HL):Prop:=
 ∀(w:World) (vs:List Value),Ic w as vs [] []->(∀b∈A.B,b<w.heap.size)->A.I w->Calls P f vs.toArray w fun e w'=>e= .returned (.tuple #[])/\Iz w w' A.B/\A'.I w'
theorem Nz {P:Program} {f:FuncId} {fn:Func} {c:Code} {as:List AV} {A A':HL} (hf:P.funcs[f]?=some fn) (hb:fn.body=some c) (hr:fn.results= #[])
  (h:Wp P fn.ntmps c (DT as A) fun e E=>(e= .normal\/e= .ret)/\E.amb=A'):PC P f A as A':=by
 intro w vs ha hB hA;obtain⟨blk,FS,US,g,hF,hU⟩:=NC (N:=fn.ntmps) ha CJ (by simp) (by simp) (A:=A) hA (fun b hb=>⟨hB b hb,by simp,by simp⟩);refine calls_of_wp hf hb (wp_mono (h _ _ _ _ _ _ _ _ g hF hU) ?_);rintro e a w' ⟨E,blk',FS',US',⟨he,rfl⟩,h2,h3,h4⟩;have i:(results fn a.tmps).run P w'= .ok (.tuple #[]) w':=by
  rw [W6 (P:=P),hr];simp
 have d:a.defers=[]/\∃v,(results fn a.tmps).run P w'= .ok v w'/\Ending.returned v= .returned (.tuple #[])/\Iz w w' A.B/\E.amb.I w':=
  ⟨h2.nodef,_,i,rfl,⟨h2.os,h2.tape,h2.output,h2.size,fun b h5 h6=>h2.keep b h5 (by simp) h6⟩,h2.ambI⟩
 rcases he with rfl|rfl
 ·exact d
 ·exact d
section
variable {N:Nat} {E:St} {P:Program} {ops:Array Oper} {oo:Oper} {rest:List Oper} {Q:Exit->St->Prop} {α β γ:Type} {rr:β}
theorem OY {w0:Base} {FA UA:List Nat} {w w':World} {a:Act} {blk:Root->Nat} {FS US:Root->List Nat} (h:CB w0 FA UA N w a E blk FS US) (hF:FS .hand=[]) (hU:US .hand=[]) {A':HL} {d:Nat} (hd:d<N) {s:SV} {v:Value}
  (hb:Iz w w' w0.B) (hB:A'.B=E.amb.B) (hI:A'.I w') (hs:Qn w' s v [] []):
  ∃FS' US',CB w0 FA UA N w' (a.put (some d) v) (({E with amb:=A'}:St).put (some d) s) blk FS' US'/\FS' .hand=[]/\US' .hand=[]:=by
 have k:=h.beside hb hB hI;exact k.land (w':=w') (F:=[]) (U:=[]) hd (LH hs) CJ (by simp) (by simp) (A4 _) rfl rfl rfl (fun _ _ _=>rfl)
theorem Nb {x:Option α} {k:α->Option β} (h:x.bind k=some rr) (d:Nat) (Am:α->HL) {A:HL} {f:FuncId} {args:Array Operand} {tys:Array TypeId} {fn:Func} {l:List AV}
  (ho:oo.op= .call {callee:= .value (.func f),args:=args,argTypes:=tys}) (hA:E.amb=A) (hB:∀v,(Am v).B=A.B) (m:Hb P E ((tys.toList.zip args.toList).map fun(t,x)=>(false,t,x)) (List.replicate args.size none)=some (l,true)) (n:∀w vs F U,Ic w l vs F U->F=[]/\U=[])
  (o:∀v,x=some v->PC P f A l (Am v)) (hk:∀v,x=some v->k v=some rr->A3 P N ops rest (({E with amb:=Am v}:St).put (some d) (.tup [])) Q)
  (hf : P.funcs[f]? = some fn := by rfl) (hn : (fn.name == "runtime.NumGoroutine") = false := by rfl) (hb : fn.body.isNone = false := by rfl) (hd : oo.dst = some d := by rfl) (hN : Nat.blt d N = true := by rfl) (hz : tys.size = args.size := by rfl) (hg : Bm P ops E oo = some true := by rfl) : A3 P N ops (oo :: rest) E Q := by
 obtain⟨v,hv,h⟩:=Aq.1 h;have hN':d<N:=by simpa [Bv]using hN
 intro w0 FA UA w a blk FS US hr hF hU;simp only [wpList,Ct hr hg,Cd];refine .inl ?_;have i:((tys.toList.zip args.toList).map fun(t,x)=>(false,t,x)).length=args.size:=by simp [hz]
 obtain⟨U',k5,k6⟩:=JD hr (WH (l:=(tys.toList.zip args.toList).map fun(t,x)=>(false,t,x))) (by rw [i];exact m);have p:((tys.toList.zip args.toList).map fun(t,x)=>(false,t,x)).map (fun x=>a.eval x.2.2)=(args.map a.eval).toList:=by
  rw [NE,Es];have:((fun x:Bool×TypeId×Operand=>a.eval x.2.2)∘fun(x:TypeId×Operand)=>(false,x.1,x.2))=a.eval∘Prod.snd:=rfl;refine(BH (fun g=>List.map g (tys.toList.zip args.toList)) this).trans ?_;rw [<-Es,List.map_snd_zip (by simp [hz])]
 rw [p]at k5;obtain⟨_,rfl⟩:=n _ _ _ _ k5;have j:w0.B=A.B:=hr.ambB.trans (by rw [hA])
 have c:=o v hv w _ k5 (fun b hb=>by
  rw [<-j]at hb
  exact Bf (hr.ambF b hb).1 hr.size) (by rw [<-hA];exact hr.ambI)
 unfold Oper.wp;rw [IE ho ⟨fn,hf,by intro e;rw [e]at hn;simp at hn,hb⟩];simp only [Oper.upon];rw [OF]at c;refine Calls.mono c ?_;rintro e w' ⟨rfl,q,hI⟩;obtain⟨FS',US',q1,q2,q3⟩:=OY (s:= .tup []) (v:= .tuple #[]) hr hF hU hN' (by rw [j];exact q) (by rw [hB,hA]) hI ⟨[],rfl,rfl,rfl,rfl⟩;rw [hd];exact hk v hv h _ _ _ _ _ _ _ _ q1 q2 q3
def Mp (P:Program) (Am:List γ->HL) (lt:γ->γ->Bool) (g:FuncId) (cap:Array Value):Prop:=
 (∀(args:Array Value) (w:World),(callFunc g args).run P w= .ok (.enter g args) w)/\∀(l:List γ) (i j:Int) (x y:γ),gi l i=some x->gi l j=some y->∀w,(Am l).I w->(∀b∈(Am l).B,b<w.heap.size)->Calls P g (#[.int .i64 i,.int .i64 j]++cap) w fun e w'=>e= .returned (.bool (lt x y))/\Iz w w' (Am l).B/\(Am l).I w'
def OB (P:Program) (Am:List γ->HL) (sf:FuncId) (cap:Array Value):Prop:=
 ∀(l:List γ) (i j:Int) (x y:γ),gi l i=some x->gi l j=some y->∀w,(Am l).I w->(∀b∈(Am l).B,b<w.heap.size)->∃w',(callFunc sf (#[.int .i64 i,.int .i64 j]++cap)).run P w= .ok (.value (.tuple #[])) w'/\Iz w w' (Am l).B/\(Am (si (si l i y) j x)).I w'
theorem R9 {a:Act} {w:World} {o:Oper} {t:Nat} {args:Array Operand} {tys:Array TypeId} {g:FuncId} {cap:Array Value} (ho:o.op= .call {callee:= .value (.tmp t),args:=args,argTypes:=tys}) (hv:a.eval (.tmp t)= .func (.func g) #[] cap):
  (execOp a.eval o).run P w=(callFunc g (args.map a.eval++cap)).run P w:=by
 simp [execOp,ho,resolve,hv,Deferred.ofValue,invoke]
theorem AAm {w0:Base} {FA UA:List Nat} {w:World} {a:Act} {blk:Root->Nat} {FS US:Root->List Nat} (h:CB w0 FA UA N w a E blk FS US) {t:Nat} {f:Fn} {ta cap:Array Value} (hs:E.slots t= .one (.fn f ta cap)):a.eval (.tmp t)= .func f ta cap:=by
 have:=h.slot t;rw [hs]at this;simp only [Eq,CE,C7]at this;exact this.1.1
theorem AC2 {Am:List γ->HL} {lt:γ->γ->Bool} {g:FuncId} {cap:Array Value} (c:Mp P Am lt g cap) {l:List γ} {x y:γ} {i j:Int} (hx:gi l i=some x) (hy:gi l j=some y) (d:Nat) {t:Nat} {o1 o2:Operand} {tys:Array TypeId}
  (hk:A3 P N ops rest (E.put (some d) (.one (.bool (lt x y)))) Q) (hA:E.amb=Am l:=by rfl) (ho:oo.op= .call {callee:= .value (.tmp t),args:= #[o1,o2],argTypes:=tys}:=by rfl) (hs:E.slots t= .one (.fn (.func g) #[] cap):=by rfl) (h1:E.cell1 P 0 o1=some (.int .i64 i):=by rfl) (h2:E.cell1 P 0 o2=some (.int .i64 j):=by rfl)
  (hd:oo.dst=some d:=by rfl) (hN:Nat.blt d N=true:=by rfl) (hg:Bm P ops E oo=some true:=by rfl):A3 P N ops (oo::rest) E Q:=by
 have hN':d<N:=by simpa [Bv]using hN
 intro w0 FA UA w a blk FS US hr hF hU;simp only [wpList,Ct hr hg,Cd];refine .inl ?_;have h:w0.B=(Am l).B:=hr.ambB.trans (by rw [hA])
 have m:∀b∈(Am l).B,b<w.heap.size:=fun b hb=>by
  rw [<-h]at hb;exact Bf (hr.ambF b hb).1 hr.size
 have hI:(Am l).I w:=by rw [<-hA];exact hr.ambI
 have f:=c.2 l i j x y hx hy w hI m;unfold Oper.wp;have e1:=CW hr h1;have e2:=CW hr h2;have k:(execOp a.eval oo).run P w= .ok (.enter g (#[.int .i64 i,.int .i64 j]++cap)) w:=by
  rw [R9 ho (AAm hr hs)];rw [c.1];simp [e1,e2]
 rw [k];simp only [Oper.upon];refine Calls.mono f ?_;rintro e w' ⟨rfl,n,hI'⟩
 obtain⟨FS',US',q1,q2,q3⟩:=OY (A':=E.amb) (s:= .one (.bool (lt x y))) (v:= .bool (lt x y)) hr hF hU hN' (by rw [h];exact n) rfl (by
  rw [hA]
  exact hI') ⟨⟨rfl,rfl,rfl⟩,rfl⟩
 rw [hd];exact hk _ _ _ _ _ _ _ _ q1 q2 q3
theorem AC0 {Am:List γ->HL} {sf:FuncId} {cap:Array Value} (c:OB P Am sf cap) (hB:∀l l',(Am l).B=(Am l').B) {l:List γ} {x y:γ} {i j:Int} (hx:gi l i=some x) (hy:gi l j=some y) (d:Nat) {t:Nat} {o1 o2:Operand} {tys:Array TypeId}
  (hk:A3 P N ops rest (({E with amb:=Am (si (si l i y) j x)}:St).put (some d) (.tup [])) Q) (hA:E.amb=Am l:=by rfl) (ho:oo.op= .call {callee:= .value (.tmp t),args:= #[o1,o2],argTypes:=tys}:=by rfl) (hs:E.slots t= .one (.fn (.func sf) #[] cap):=by rfl) (h1:E.cell1 P 0 o1=some (.int .i64 i):=by rfl) (h2:E.cell1 P 0 o2=some (.int .i64 j):=by rfl)
  (hd:oo.dst=some d:=by rfl) (hN:Nat.blt d N=true:=by rfl) (hg:Bm P ops E oo=some true:=by rfl):A3 P N ops (oo::rest) E Q:=by
 have hN':d<N:=by simpa [Bv]using hN
 intro w0 FA UA w a blk FS US hr hF hU;simp only [wpList,Ct hr hg,Cd];refine .inl ?_;have f:w0.B=(Am l).B:=hr.ambB.trans (by rw [hA])
 have h:∀b∈(Am l).B,b<w.heap.size:=fun b hb=>by
  rw [<-f]at hb;exact Bf (hr.ambF b hb).1 hr.size
 have hI:(Am l).I w:=by rw [<-hA];exact hr.ambI
 obtain⟨w',e,k,hI'⟩:=c l i j x y hx hy w hI h;unfold Oper.wp;have e1:=CW hr h1;have e2:=CW hr h2;have g:(execOp a.eval oo).run P w= .ok (.value (.tuple #[])) w':=by
  rw [R9 ho (AAm hr hs)];simpa [e1,e2]using e
 rw [g];rw [Oper.upon_value];obtain⟨FS',US',q1,q2,q3⟩:=OY (s:= .tup []) (v:= .tuple #[]) hr hF hU hN' (by rw [f];exact k) (by rw [hA];exact hB _ _) hI' ⟨[],rfl,rfl,rfl,rfl⟩;rw [hd];exact hk _ _ _ _ _ _ _ _ q1 q2 q3
def gi2 {γ:Type} (l:List γ) (i j:Int):Option (γ×γ):=(gi l i).bind fun x=>(gi l j).bind fun y=>some (x,y)
theorem Vi {Am:List γ->HL} {lt:γ->γ->Bool} {g:FuncId} {cap:Array Value} (a:Mp P Am lt g cap) {l:List γ} {i j:Int} {k:γ×γ->Option β} (h:(gi2 l i j).bind k=some rr) (d:Nat) {t:Nat} {o1 o2:Operand} {tys:Array TypeId}
  (hk:∀v,k v=some rr->A3 P N ops rest (E.put (some d) (.one (.bool (lt v.1 v.2)))) Q) (hA:E.amb=Am l:=by rfl) (ho:oo.op= .call {callee:= .value (.tmp t),args:= #[o1,o2],argTypes:=tys}:=by rfl) (hs:E.slots t= .one (.fn (.func g) #[] cap):=by rfl) (h1:E.cell1 P 0 o1=some (.int .i64 i):=by rfl) (h2:E.cell1 P 0 o2=some (.int .i64 j):=by rfl)
  (hd:oo.dst=some d:=by rfl) (hN:Nat.blt d N=true:=by rfl) (hg:Bm P ops E oo=some true:=by rfl):A3 P N ops (oo::rest) E Q:=by
 obtain⟨v,hv,h⟩:=Aq.1 h;obtain⟨x,hx,hv⟩:=Aq.1 hv;obtain⟨y,hy,hv⟩:=Aq.1 hv
 injection hv with hv
 subst hv;exact AC2 a hx hy d (hk _ h) hA ho hs h1 h2 hd hN hg
def sW {γ:Type} (l:List γ) (i j:Int):Option (List γ):=(gi l i).bind fun x=>(gi l j).bind fun y=>some (si (si l i y) j x)
theorem Vh {Am:List γ->HL} {sf:FuncId} {cap:Array Value} (a:OB P Am sf cap) (hB:∀l l',(Am l).B=(Am l').B) {l:List γ} {i j:Int} {k:List γ->Option β} (h:((sW l i j).bind k)=some rr) (d:Nat) {t:Nat} {o1 o2:Operand} {tys:Array TypeId}
  (hk:∀l',k l'=some rr->A3 P N ops rest (({E with amb:=Am l'}:St).put (some d) (.tup [])) Q) (hA:E.amb=Am l:=by rfl) (ho:oo.op= .call {callee:= .value (.tmp t),args:= #[o1,o2],argTypes:=tys}:=by rfl) (hs:E.slots t= .one (.fn (.func sf) #[] cap):=by rfl) (h1:E.cell1 P 0 o1=some (.int .i64 i):=by rfl) (h2:E.cell1 P 0 o2=some (.int .i64 j):=by rfl)
  (hd:oo.dst=some d:=by rfl) (hN:Nat.blt d N=true:=by rfl) (hg:Bm P ops E oo=some true:=by rfl):A3 P N ops (oo::rest) E Q:=by
 obtain⟨l',hl',h⟩:=Aq.1 h;obtain⟨x,hx,hl'⟩:=Aq.1 hl';obtain⟨y,hy,hl'⟩:=Aq.1 hl'
 injection hl' with hl'
 subst hl';exact AC0 a hB hx hy d (hk _ h) hA ho hs h1 h2 hd hN hg
def EX (ls:List (Nat×SV)) (bs:List (Root×List TV)) (A:HL):St:={A9 ls bs with amb:=A}
end
def TV.flat:TV->Bool
 | .int .. | .bool _| .str _| .fn .. =>true
 |_=>false
def ACQ:AV->Bool
 | .sv (.one t)=>t.flat
 | .sv (.agg cs)=>cs.all TV.flat
 |_=>false
theorem lG {w:World} {t:TV} {v:Value} {F U:List Nat} (h:C7 w t v F U) (ht:t.flat=true):F=[]/\U=[]:=by
 cases t<;>first|(cases ht;done)|(simp only [C7]at h;exact h.2)
theorem Np {w:World}:∀{ts:List TV} {vs:List Value} {F U:List Nat},Bw w ts vs F U->ts.all TV.flat=true->F=[]/\U=[]
 |[],vs,F,U,h,_=>by simp only [Bw]at h;exact h.2
 |t::ts,vs,F,U,h,ht=>by
  simp only [Ep,An]at ht;simp only [Bw]at h;obtain⟨v,vs',F1,F2,U1,U2,rfl,rfl,rfl,h1,h2⟩:=h;obtain⟨rfl,rfl⟩:=lG h1 ht.1;obtain⟨rfl,rfl⟩:=Np h2 ht.2;exact⟨rfl,rfl⟩
theorem EQ:∀{l:List AV},l.all ACQ=true->∀(w:World) (vs:List Value) (F U:List Nat),Ic w l vs F U->F=[]/\U=[]
 |[],_,w,vs,F,U,h=>h.2
 |s::l,hl,w,vs,F,U,h=>by
  simp only [Ep,An]at hl;obtain⟨v,vs',F1,F2,U1,U2,rfl,rfl,rfl,h1,h2⟩:=h;obtain⟨rfl,rfl⟩:=EQ hl.2 w vs' F2 U2 h2;have:F1=[]/\U1=[]:=by
   match s,hl.1,h1 with
   | .sv (.one t),ht,h1=>exact lG h1.1 ht
   | .sv (.agg cs),ht,h1=>obtain⟨_,_,h1⟩:=h1;exact Np h1 ht
  obtain⟨rfl,rfl⟩:=this;exact⟨rfl,rfl⟩
end Go.TI
namespace Go.TI
open Go Go.RowKit
def TV.val:TV->Value
 | .int k n=> .int k n
 | .bool b=> .bool b
 | .str s=> .string s
 | .fn f ta c=> .func f ta c
 |_=> .bool false
theorem ABc {w:World} {t:TV} {v:Value} {F U:List Nat} (h:C7 w t v F U) (ht:t.flat=true):v=t.val:=by
 cases t<;>first|(cases ht;done)|(simp only [C7]at h;exact h.1)
theorem W7 {w:World}:∀{ts:List TV} {vs:List Value} {F U:List Nat},Bw w ts vs F U->ts.all TV.flat=true->vs=ts.map TV.val
 |[],vs,F,U,h,_=>by simp only [Bw]at h;exact h.1
 |t::ts,vs,F,U,h,ht=>by
  simp only [Ep,An]at ht;simp only [Bw]at h;obtain⟨v,vs',F1,F2,U1,U2,rfl,_,_,h1,h2⟩:=h;rw [ABc h1 ht.1,W7 h2 ht.2];rfl
theorem AA0 {w:World} {t:TV} (ht:t.flat=true):C7 w t t.val [] []:=by
 cases t<;>first|(cases ht;done)|(simp [C7,TV.val])
theorem Vo {w:World}:∀{ts:List TV},ts.all TV.flat=true->Bw w ts (ts.map TV.val) [] []
 |[],_=>by simp [Bw]
 |t::ts,ht=>by
  simp only [Ep,An]at ht;simp only [Bw,BN];exact⟨_,_,[],[],[],[],rfl,rfl,rfl,AA0 ht.1,Vo ht.2⟩
theorem sQ {t:TV}:t.val.oneCell'=true:=by cases t<;>rfl
theorem MY (e:TypeId) (fz:Nat×Nat) (g:Nat):∀(vs:List Value) (o:Nat) (cur:Array Value) (w:World),w.heap[g]?=some (.cells cur e fz)->o+vs.length<=cur.size->(w.setCells g o vs).heap[g]?=some (.cells (setRow cur.toList o vs).toArray e fz)
 |[],o,cur,w,h,_=>by
  simp only [World.setCells];rw [h];congr 2;apply n7;simp [setRow]
 |v::vs,o,cur,w,h,hl=>by
  simp only [Ax]at hl;simp only [World.setCells];have h1:(w.setCell ⟨g,o,none⟩ v).heap[g]?=some (.cells (cur.setIfInBounds o v) e fz):=by
   simp only [World.setCell,Array.getElem?_modify,Cd,h,Bz];rfl
  rw [MY e fz g vs (o+1) (cur.setIfInBounds o v) _ h1 (by simp;omega)];congr 2;apply n7;simp only [Array.toList_setIfInBounds];apply CT;intro k;have l1:(cur.toList.take o).length=o:=by simp;omega
  have l2:((cur.toList.set o v).take (o+1)).length=o+1:=by simp;omega
  simp only [setRow,Ap]
  rcases Mu k o with hk|hk|hk
  ·rw [AP (by omega),AP (by omega),BZ,BZ,Ay (by omega),Ay hk,List.getElem?_set_ne (by omega)]
  ·subst hk;rw [AP (by omega),AR (by omega),BZ,Ay (by omega),List.getElem?_set_self (by simp;omega),l1];simp
  ·have eL:(List.take (o+1) (cur.toList.set o v)++(vs++List.drop (o+1+vs.length) (cur.toList.set o v)))[k]?=(vs++List.drop (o+1+vs.length) (cur.toList.set o v))[k-(o+1)]? :=by
    rw [AR (by omega),l2]
   have eR:(List.take o cur.toList++(v::vs++List.drop (o+(v::vs).length) cur.toList))[k]?=(vs++List.drop (o+(v::vs).length) cur.toList)[k-(o+1)]? :=by
    rw [AR (by omega),l1,show k-o=(k-(o+1))+1 by omega,BA,List.getElem?_cons_succ]
   rw [eL,eR];by_cases hv:k-(o+1)<vs.length
   ·rw [AP hv,AP hv]
   ·rw [AR (by omega),AR (by omega),Ca,Ca,List.getElem?_set_ne (by omega),Ax];congr 1;omega
section
variable {γ:Type}
structure uH (n b g cap:Nat) (e T:TypeId) (sz:Nat) (enc:γ->List TV) (w:World) (l:List γ):Prop where
 ne:b≠g
 len:l.length=n
 box:w.heap[b]?=some (.cells #[.slice (some ⟨g,0,none⟩) l.length cap] T (0,0))
 row:∃cur,w.heap[g]?=some (.cells cur e (0,0))/\cur.size=cap*sz/\cur.toList.take (l.length*sz)=(AN enc l).map TV.val
 le:l.length<=cap/\cap<=maxLen
def MT (n b g cap:Nat) (e T:TypeId) (sz:Nat) (enc:γ->List TV) (l:List γ):HL where
 B:=[b,g]
 I:=fun w=>uH n b g cap e T sz enc w l
 st:=fun w w' h hk=>⟨h.ne,h.len,by rw [hk b (by simp)];exact h.box,by rw [hk g (by simp)];exact h.row,h.le⟩
 rd:=fun ad=>if ad.spot.isSome=true then none else if ad.block=b then(if ad.off=0 then some (.slice (some ⟨g,0,none⟩) n cap)else none)else if ad.block=g then(if ad.off<l.length*sz then((AN enc l).map TV.val)[ad.off]? else none)else none
 rdI:=fun w ad v h hr=>by
  obtain⟨bl,off,spot⟩:=ad
  cases spot with
  |some s=>simp at hr
  |none=>
   simp only [Ie,Cr,Jt]at hr;split at hr
   ·rename_i hb;subst hb;split at hr
    ·rename_i ho;subst ho
     injection hr with hr
     subst hr;simp [World.cell?,h.box,h.len]
    ·cases hr
   ·split at hr
    ·rename_i hg;subst hg;split at hr
     ·rename_i ho;obtain⟨cur,h1,h2,h3⟩:=h.row;rw [<-h3,BZ,Ay ho]at hr;simpa [World.cell?,h1]using hr
     ·cases hr
    ·cases hr
theorem Xi (f:γ->List TV) (x:γ) (l:List γ):AN f (x::l)=f x++AN f l:=by simp [AN]
theorem Kn (g:Nat):∀(vs:List Value) (o:Nat) (w:World),(w.setCells g o vs).heap.size=w.heap.size
 |[],_,_=>rfl
 |v::vs,o,w=>by
  simp only [World.setCells];rw [Kn g vs,World.size_setCell]
theorem MP (g:Nat):∀(vs:List Value) (o:Nat) (w:World),(w.setCells g o vs).tape=w.tape
 |[],_,_=>rfl
 |v::vs,o,w=>by
  simp only [World.setCells];rw [MP g vs,World.tape_setCell]
theorem WK {α β:Type} (f:α->β) (A B:List α) (j:Nat):(setRow A j B).map f=setRow (A.map f) j (B.map f):=by
 simp [setRow,List.map_take,List.map_drop]
theorem bL {enc:γ->List TV} {sz:Nat} (a:∀x,(enc x).length=sz) (x z:γ):setRow (enc x) 0 (enc z)=enc z:=by
 simp only [setRow,HG,A7,Kf];rw [C8 (by rw [a,a];exact A4 _),As]
theorem ZF {enc:γ->List TV} {sz:Nat} (a:∀x,(enc x).length=sz) {l:List γ} {i:Int} {x z:γ} (h:gi l i=some x):setRow (AN enc l) (i.toNat*sz) (enc z)=AN enc (si l i z):=
 S7 a h (k:=0) (by rw [a];simp) (bL a x z)
theorem MH {α:Type} {l:List α} {i:Int} {x:α} (h:gi l i=some x):0<=i/\l[i.toNat]?=some x:=by
 unfold gi at h;split at h
 ·exact⟨by assumption,h⟩
 ·cases h
theorem oE {P:Program} {b g cap:Nat} {e T:TypeId} {sz:Nat} {enc:γ->List TV} (d:∀x,(enc x).length=sz) (n:Nat) {sf:FuncId} (gS:Bool) (hx:∀args W,(callFunc sf args).run P W=((Extern.ReflectliteSwapper.swap gS args).run P W).andThen fun v w'=> .ok (.value v) w')
  {ie:TypeInfo} (h7:P.info? e=some ie) (f:ie.size=sz) (r:∀w,(isAgg e).run P w= .ok true w):
  OB P (MT n b g cap e T sz enc) sf #[.slice (some ⟨g,0,none⟩) n cap,typeHandle P e]:=by
 intro l i j x y hi hj w hI hB;obtain⟨s,hn,u,⟨cur,hg,h0,h3⟩,h4⟩:=hI;obtain⟨i0,i1⟩:=MH hi;obtain⟨j0,j1⟩:=MH hj;obtain⟨a,rfl⟩:=Dt i0;obtain⟨c,rfl⟩:=Dt j0;simp only [B6]at i1 j1;have la:=(Ah.1 i1).1;have lc:=(Ah.1 j1).1;have hX:((enc x).map TV.val).length=sz:=by rw [Bu];exact d x
 have hY:((enc y).map TV.val).length=sz:=by rw [Bu];exact d y
 have a5:(AN enc l).length=l.length*sz:=E5 d l;have o:l.length*sz<=cur.size:=by rw [h0];exact Cl _ h4.1
 have h8:(a+1)*sz<=l.length*sz:=Cl _ la;have h9:(c+1)*sz<=l.length*sz:=Cl _ lc;rw [DR]at h8 h9;have cell:∀(m:Nat) (z:γ),l[m]?=some z->∀k v,((enc z).map TV.val)[k]?=some v->w.cell? ⟨g,0+m*ie.size+k,none⟩=some v:=by
  intro m z hm k v hk;have h5:=(Ah.1 hk).1;rw [Bu,d]at h5;have lm:=(Ah.1 hm).1;have a0:(m+1)*sz<=l.length*sz:=Cl _ lm;rw [DR]at a0;rw [f,Kf];have e1:(AN enc l)[m*sz+k]?=(enc z)[k]? :=by
   have:=LB d l m;have h2:(AN enc l)[m*sz+k]?=((AN enc l).drop (m*sz))[k]? :=by rw [Ca]
   rw [h2,this,Bq lm];have e3:AN enc (l[m]::l.drop (m+1))=enc l[m]++AN enc (l.drop (m+1)):=Xi _ _ _;have e4:l[m]=z:=by rw [Ab lm]at hm;injection hm
   rw [e3,e4,AP (by rw [d];exact h5)]
  have e2:cur.toList[m*sz+k]?=some v:=by
   have:(cur.toList.take (l.length*sz))[m*sz+k]?=cur.toList[m*sz+k]? :=by rw [BZ,Ay (by omega)]
   rw [<-this,h3,Bc,e1,<-Bc,hk]
  simp only [World.cell?,hg,Aa];simpa using e2
 have frz:∀(m k:Nat),w.frozen? ⟨g,0+m*ie.size+k,none⟩=false:=by
  intro m k;simp [World.frozen?,hg]
 have p:=Go.Lib.run_swap_cells (P:=P) gS e ie h7 r g 0 n cap a c (by omega) (by omega) ((enc x).map TV.val) ((enc y).map TV.val) (by rw [hX,f]) (by rw [hY,f]) (fun v hv=>by obtain⟨t,_,rfl⟩:=AL.1 hv;exact sQ) (fun v hv=>by obtain⟨t,_,rfl⟩:=AL.1 hv;exact sQ) w (cell a x i1) (cell c y j1) (fun k _=>frz a k) (fun k _=>frz c k);simp only [Kf,f]at p;have h1:=MY e (0,0) g ((enc y).map TV.val) (a*sz) cur w hg (by rw [hY];omega);have a1:(setRow cur.toList (a*sz) ((enc y).map TV.val)).toArray.size=cur.size:=by
  rw [List.size_toArray,FE (by rw [hY];simp;omega)];simp
 have h2:=MY e (0,0) g ((enc x).map TV.val) (c*sz) _ _ h1 (by rw [a1,hX];omega);have kB:∀k,k<w.heap.size->k≠g->((w.setCells g (a*sz) ((enc y).map TV.val)).setCells g (c*sz) ((enc x).map TV.val)).heap[k]?=w.heap[k]? :=by
  intro k hk h6;have s1:(w.setCells g (a*sz) ((enc y).map TV.val)).heap.size=w.heap.size:=Kn g _ _ _;rw [World.heap_setCells_other _ g _ _ (by rw [s1];exact hk) h6,World.heap_setCells_other _ g _ _ hk h6]
 refine⟨(w.setCells g (a*sz) ((enc y).map TV.val)).setCells g (c*sz) ((enc x).map TV.val),?_,⟨?_,?_,?_,?_,?_⟩,?_⟩
 ·rw [hx];have ea:(#[Value.int .i64 (a:Int),Value.int .i64 (c:Int)]++ #[Value.slice (some ⟨g,0,none⟩) n cap,typeHandle P e])= #[.int .i64 (a:Int),.int .i64 (c:Int),.slice (some ⟨g,0,none⟩) n cap,typeHandle P e]:=rfl;rw [ea,p];rfl
 ·rw [World.os_setCells,World.os_setCells]
 ·rw [MP,MP]
 ·rw [World.output_setCells,World.output_setCells]
 ·rw [Kn,Kn];exact A4 _
 ·intro k hk a2;exact kB k hk (fun e=>a2 (by rw [e];simp [MT]))
 ·have h:(si (si l (a:Int) y) (c:Int) x).length=l.length:=by simp [si]
  have lcur:cur.toList.length=cur.size:=by simp
  have q:(setRow cur.toList (a*sz) ((enc y).map TV.val)).length=cur.size:=by rw [FE (by rw [hY,lcur];omega),lcur]
  have a3:(setRow (setRow cur.toList (a*sz) ((enc y).map TV.val)) (c*sz) ((enc x).map TV.val)).length=cur.size:=by rw [FE (by rw [hX,q];omega),q]
  show uH n b g cap e T sz enc _ (si (si l (a:Int) y) (c:Int) x);refine⟨s,h.trans hn,?_,⟨_,h2,?_,?_⟩,by rw [h];exact h4⟩
  ·rw [kB b (hB b (by simp [MT])) s,h];exact u
  ·rw [List.size_toArray];exact a3.trans h0
  ·rw [h];show((setRow (setRow cur.toList (a*sz) ((enc y).map TV.val)) (c*sz) ((enc x).map TV.val))).take (l.length*sz)=_;rw [OU (by rw [hX];omega) (by rw [q];exact o),OU (by rw [hY];omega) (by rw [lcur];exact o),h3,<-WK,<-WK];have e1:setRow (AN enc l) (a*sz) (enc y)=AN enc (si l (a:Int) y):=by
    have:=ZF d (z:=y) hi
    rwa [B6]at this
   obtain⟨z0,a4⟩:∃z0,gi (si l (a:Int) y) (c:Int)=some z0:=by
    have lc2:c<(si l (a:Int) y).length:=by simp only [si,Iw];exact lc
    refine⟨(si l (a:Int) y)[c],?_⟩;unfold gi;rw [Ay (by omega),B6];exact Ab lc2
   have e2:=ZF d (z:=x) a4;rw [B6]at e2;rw [e1,e2]
end
end Go.TI
namespace Go.TI
open Go Go.RowKit
section
variable {N:Nat} {E:St} {P:Program} {ops:Array Oper} {o:Oper} {rest:List Oper} {K:St->Prop}
theorem uG {w0:Base} {FA UA:List Nat} {w:World} {a:Act} {blk:Root->Nat} {FS US:Root->List Nat} (h:CB w0 FA UA N w a E blk FS US) {t:Nat} {ad:Addr} (hs:E.slots t= .one (.adr ad)):a.eval (.tmp t)= .pointer (some ad):=by
 have:=h.slot t;rw [hs]at this;simp only [Eq,CE,C7]at this;exact this.1.1
theorem ABB {w0:Base} {FA UA:List Nat} {w:World} {a:Act} {blk:Root->Nat} {FS US:Root->List Nat} (h:CB w0 FA UA N w a E blk FS US) {t:Nat} {ad:Addr} {n c:Nat} (hs:E.slots t= .one (.hdr ad n c)):a.eval (.tmp t)= .slice (some ad) n c:=by
 have:=h.slot t;rw [hs]at this;simp only [Eq,CE,C7]at this;exact this.1.1
theorem Js.any (d:Nat) (t:TV) (hk:Js P N ops rest (E.put (some d) (.one t)) K)
  (b:∀(w0:Base) (FA UA:List Nat) (w:World) (a:Act) (blk:Root->Nat) (FS US:Root->List Nat),CB w0 FA UA N w a E blk FS US->∃v,(execOp a.eval o).run P w= .ok (.value v) w/\C7 w t v [] []/\v.cells= #[v])
  (hd:o.dst=some d:=by rfl) (hN:Nat.blt d N=true:=by rfl) (hg:Bm P ops E o=some true:=by rfl):Js P N ops (o::rest) E K:=by
 have hN':d<N:=by simpa [Bv]using hN
 intro w0 FA UA w a blk FS US k1 k2 k3;obtain⟨v,h1,h2,h3⟩:=b w0 FA UA w a blk FS US k1;simp only [wpStill,Ct k1 hg,Cd,Oper.still,h1,Oper.stillUpon_value];rw [hd];refine hk _ _ _ _ _ _ _ _ (k1.put (F:=[]) (U:=[]) hN' (by simp only [Eq];exact⟨F7 h2,fun _=>h3⟩) Zz.none) ?_ ?_
 ·rw [Bs (by simp),k2]
 ·rw [Bs (by simp),k3]
theorem iB (d:Nat) (t:TV) (v:Value) {ad:Addr} {ty:TypeId} {x:Nat} (hk:Js P N ops rest (E.put (some d) (.one t)) K) (hs:E.slots x= .one (.adr ad)) (b:E.amb.rd ad=some v) (hv:∀w,C7 w t v [] []) (hc:v.cells= #[v]) (ha:Xz P ty=false) (hu:(P.underlying ty).isSome=true)
  (ho:o.op= .load ty (.tmp x):=by rfl) (hd:o.dst=some d:=by rfl) (hN:Nat.blt d N=true:=by rfl) (hg:Bm P ops E o=some true:=by rfl):Js P N ops (o::rest) E K:=
 Js.any d t hk (fun w0 FA UA w a blk FS US h=>by
  have h1:=uG h hs;have h2:=E.amb.rdI w ad v h.ambI b;have c:P.underlying ty≠none:=by intro e;rw [e]at hu;cases hu
  refine⟨v,?_,hv w,hc⟩
  simp [execOp,ho,h1,Instr.loadAt,Instr.sureAddr,loadVar,SJ c,ha,h2]) hd hN hg
theorem iC (d:Nat) {ad:Addr} {st:TypeId} {x f:Nat} {fs:Array Field} {fd:Field} (hk:Js P N ops rest (E.put (some d) (.one (.adr (ad.add fd.offset)))) K) (hs:E.slots x= .one (.adr ad)) (c:P.underlying st=some (.struct fs)) (hf:fs[f]?=some fd) (b:P.cellsOf fd.type≠0)
  (ho:o.op= .fieldAddr st (.tmp x) f:=by rfl) (hd:o.dst=some d:=by rfl) (hN:Nat.blt d N=true:=by rfl) (hg:Bm P ops E o=some true:=by rfl):Js P N ops (o::rest) E K:=
 Js.any d (.adr (ad.add fd.offset)) hk (fun w0 FA UA w a blk FS US h=>by
  have h1:=uG h hs;obtain⟨i,hi,_⟩:=FG b;refine⟨.pointer (some (ad.add fd.offset)),?_,by simp [C7],rfl⟩
  simp [execOp,ho,h1,Instr.fieldAt,run_underlying c,hf,Instr.sureAddr,fieldPlace,run_sizeOf w hi,b]) hd hN hg
theorem AAN (d:Nat) {ad:Addr} {n c:Nat} {t e:TypeId} {x:Nat} {i:Operand} {k:IntKind} {m:Int} (hk:Js P N ops rest (E.put (some d) (.one (.adr (ad.add (m.toNat*P.cellsOf e))))) K) (hs:E.slots x= .one (.hdr ad n c)) (ht:P.underlying t=some (.slice e)) (hi:E.cell1 P 0 i=some (.int k m)) (h0:0<=m) (hm:m<n) (f:P.cellsOf e≠0)
  (ho:o.op= .indexAddr t (.tmp x) i:=by rfl) (hd:o.dst=some d:=by rfl) (hN:Nat.blt d N=true:=by rfl) (hg:Bm P ops E o=some true:=by rfl):Js P N ops (o::rest) E K:=
 Js.any d (.adr (ad.add (m.toNat*P.cellsOf e))) hk (fun w0 FA UA w a blk FS US h=>by
  have h1:=ABB h hs;have h2:=CW h hi;obtain⟨inf,b,_⟩:=FG f;refine⟨.pointer (some (ad.add (m.toNat*P.cellsOf e))),?_,by simp [C7],rfl⟩
  simp [execOp,ho,h1,h2,Instr.indexAt,run_underlying ht,asIntOf,h0,hm,run_sizeOf w b]) hd hN hg
end
def Sx (P:Program) (f:FuncId) (A:HL) (as:List AV) (t:TV):Prop:=
 ∀(w:World) (vs:List Value),Ic w as vs [] []->(∀b∈A.B,b<w.heap.size)->A.I w->Calls P f vs.toArray w fun e w'=>e= .returned (Sx.val t)/\Iz w w' A.B/\A.I w'
where
 val:TV->Value
 | .int k n=> .int k n
 | .bool b=> .bool b
 | .str s=> .string s
 | .fn f ta c=> .func f ta c
 |_=> .bool false
theorem yQ {w:World} {t:TV} {v:Value} {F U:List Nat} (h:C7 w t v F U) (ht:t.flat=true):v=Sx.val t:=by
 cases t<;>first|(cases ht;done)|(simp only [C7]at h;exact h.1)
theorem AAf {P:Program} {f:FuncId} {fn:Func} {c:Code} {as:List AV} {A:HL} {t:TV} (hf:P.funcs[f]?=some fn) (hb:fn.body=some c) (ht:t.flat=true)
  (h:Wp P fn.ntmps c (DT as A) fun e E=>(e= .normal\/e= .ret)/\E.amb=A/\∃E',Ew P E fn.results.toList=some ([.one t],E')):Sx P f A as t:=by
 intro w vs ha hB hA;obtain⟨blk,FS,US,g,hF,hU⟩:=NC (N:=fn.ntmps) ha CJ (by simp) (by simp) (A:=A) hA (fun b hb=>⟨hB b hb,by simp,by simp⟩);refine calls_of_wp hf hb (wp_mono (h _ _ _ _ _ _ _ _ g hF hU) ?_);rintro e a w' ⟨E,blk',FS',US',⟨he,i,E',h1⟩,h2,h3,h4⟩;obtain⟨us,FS2,US2,F,U,k1,k2,k3,k4,k5⟩:=IF h2 h1;have k6:=MC k2;have hv:=yQ k6.1 ht;have hI:A.I w':=by rw [<-i];exact h2.ambI
 have d:a.defers=[]/\∃v,(results fn a.tmps).run P w'= .ok v w'/\Ending.returned v= .returned (Sx.val t)/\Iz w w' A.B/\A.I w':=
  ⟨h2.nodef,_,K8 k1,by rw [hv],⟨h2.os,h2.tape,h2.output,h2.size,fun b h5 h6=>h2.keep b h5 (by simp) h6⟩,hI⟩
 rcases he with rfl|rfl
 ·exact d
 ·exact d
theorem vM {P : Program} {γ : Type} {Am : List γ → HL} {lt : γ → γ → Bool} {g : FuncId} {fn : Func} {ad : Addr} (hf : P.funcs[g]? = some fn) (hn : (fn.name == "runtime.NumGoroutine") = false) (hb : fn.body.isNone = false)
  (h:∀(l:List γ) (i j:Int) (x y:γ),gi l i=some x->gi l j=some y->(∃w,(Am l).I w)->Sx P g (Am l) [.sv (.one (.int .i64 i)),.sv (.one (.int .i64 j)),.sv (.one (.adr ad))] (.bool (lt x y))):Mp P Am lt g #[.pointer (some ad)]:=by
 refine⟨fun args w=>?_,fun l i j x y hx hy w hI hB=>?_⟩
 ·have a:fn.body≠none:=by intro e;simp [e]at hb
  have b : fn.name ≠ "runtime.NumGoroutine" := by intro e; rw [e] at hn; simp at hn
  simp [callFunc,hf,b,a]
 ·exact h l i j x y hx hy ⟨w,hI⟩ w [.int .i64 i,.int .i64 j,.pointer (some ad)]
   ⟨_,_,[],[],[],[],rfl,rfl,rfl,⟨by simp [C7],rfl⟩,⟨_,_,[],[],[],[],rfl,rfl,rfl,⟨by simp [C7],rfl⟩,⟨_,_,[],[],[],[],rfl,rfl,rfl,⟨by simp [C7],rfl⟩,⟨rfl,rfl,rfl⟩⟩⟩⟩ hB hI
end Go.TI
