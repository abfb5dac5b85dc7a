/- What walks of Go code need. No condition. -/
import Derived.Test.YtnlbnbfafkgldaaGreatSWT1
import Derived.Orders
import Derived.Still
import Derived.StillTail
import Derived.OrdersHeld
import Derived.Deep.Slices
import Derived.ChangeOld
import Derived.DataReads
import Derived.Lib.ReflectliteSwap
import Derived.Deep.Upon
set_option linter.unusedVariables false
namespace Go.TI
open Go Go.RowKit
section
variable (P:Program)
def Dg (E:St):List ResultVar->Option (List SV×St)
 |[]=>some ([],E)
 | .tmp t::rs=>match E.val P 0 (.tmp t)with
  |some s=>match JF E s with
   |some (xs,E1)=>match Dg E1 rs with
    |some (ss,E2)=>some (s.withCells xs::ss,E2)
    |none=>none
   |none=>none
  |none=>none
 | .cell t ty :: rs => match AU P E { dst := none, op := .load ty (.tmp t), type := ty, pos := "", after := #[], guard := none } with
  |some s=>match JF E s with
   |some (xs,E1)=>match Dg E1 rs with
    |some (ss,E2)=>some (s.withCells xs::ss,E2)
    |none=>none
   |none=>none
  |none=>none
end
def D6:List SV->SV
 |[s]=>s
 |ss=> .tup ss
section
variable {a:Act}
def NW (P:Program) (tmps:Array Value):ResultVar->Sem Value
 | .tmp t=>pure (tmps.getD t undef)
 | .cell a t=>do loadVar t (<-asAddr (tmps.getD a undef))
end
variable {P:Program} {E E':St} {N sz fuel d j by_ off:Nat} {α γ β S:Type} {ops:Array Oper} {Q:Exit->St->Prop} {w w':World} {rest:List Oper} {K:St->Prop} {listed:Array Bool} {i n:Int} {FA UA F U q:List Nat} {FS US:Root->List Nat} {oo:Oper} {blk:Root->Nat} {r:Root} {v:Value} {fn:Func} {as:List AV} {k k2 k1:IntKind} {md:Region.Mode} {g sf:FuncId} {o1 o2:Operand} {ss:List SV} {y:Code} {fs:Array Field} {lo:Option Operand} {A' A:Nz} {vs:List Value} {st:TypeId} {fd:Field} {zs:List TV} {T:Nat->Bool} {f:α->List TV} {l:List α} {x:α} {Am:List γ->Nz} {tx:Option β} {ty:Option β} {lt:γ->γ->Bool} {z:α} {c':β->List TV} {o':β->Prop}
theorem Us (fn:Func) (tmps:Array Value):results fn tmps=(do
  let vs<-fn.results.mapM (NW P tmps)
  pure (if h:vs.size=1 then vs[0]else .tuple vs)):=by
 unfold results;congr 1
section
variable {w0:Base} {a:Act}
theorem Jw:∀{rs:List ResultVar} {ss:List SV} {E E':St} {FS US:Root->List Nat},Cu w0 FA UA N w a E blk FS US->Dg P E rs=some (ss,E')->
  ∃vs FS' US' F U,(rs.mapM (NW P a.tmps)).run P w= .ok vs w/\NC w ss vs F U/\Cu w0 FA UA N w a E' blk FS' US'/\FS' .hand=FS .hand++F/\US' .hand=US .hand++U
 |[],ss,E,E',FS,US,h,ht=>by
  simp only[Dg,Ak,Bk]at ht;obtain⟨rfl,rfl⟩:=ht;exact⟨[],FS,US,[],[],by simp,by simp[NC],h,by simp,by simp⟩
 | .tmp t::rs,ss,E,E',FS,US,h,ht=>by
  simp only[Dg]at ht;split at ht
  ·rename_i s hs;split at ht
   ·rename_i xs E1 hx;split at ht
    ·rename_i ss' E2 d;simp only[Ak,Bk]at ht;obtain⟨rfl,rfl⟩:=ht;obtain⟨U,h1,h2⟩:=JU h hs;obtain⟨FS1,US1,F1,U1,h3,h4,h5,h6,_,_⟩:=I0 h h1 h2 hx;obtain⟨vs,FS2,US2,F2,U2,k1,k2,k3,k4,k5⟩:=Jw h4 d;obtain⟨hp,hl⟩:=PQ hx;refine⟨a.eval (.tmp t)::vs,FS2,US2,F1++F2,U1++U2,?_,?_,k3,by rw[k4,h5,Av],by rw[k5,h6,Av]⟩
     ·rw[List.mapM_cons];simp[NW,k1,Act.eval]
     simp only[NC];exact⟨_,vs,F1,F2,U1,U2,rfl,rfl,rfl,JV h1 hp hl h3,k2⟩
    cases ht
   cases ht
  cases ht
 | .cell t ty::rs,ss,E,E',FS,US,h,ht=>by
  simp only[Dg]at ht;split at ht
  ·rename_i s hs;split at ht
   ·rename_i xs E1 hx;split at ht
    ·rename_i ss' E2 d;simp only[Ak,Bk]at ht;obtain⟨rfl,rfl⟩:=ht;obtain⟨v,U,h0,h1,h2⟩:=MA h hs;obtain⟨FS1,US1,F1,U1,h3,h4,h5,h6,_,_⟩:=I0 h h1 h2 hx;obtain⟨vs,FS2,US2,F2,U2,k1,k2,k3,k4,k5⟩:=Jw h4 d;obtain⟨hp,hl⟩:=PQ hx;have b:=h0 w (λr _=>⟨λ_ _=>rfl,λ_ _=>rfl⟩);have e:(NW P a.tmps (.cell t ty)).run P w= .ok v w:=by
      have c:∃r q j,E.ptr? (.tmp t)=some (r,q,j):=by
       simp only[AU]at hs;split at hs
       ·rename_i r q j c;exact⟨r,q,j,c⟩
       cases hs
      obtain⟨r,q,j,c⟩:=c;obtain⟨_,ad,_,f⟩:=IU h c;simp only[execOp,Instr.loadAt,f,Instr.sureAddr]at b;simp only[Act.eval]at f;simp only[NW,f,asAddr];simp only[Sem.run_bind,Sem.run_pure,Result.andThen_ok]at b⊢
      cases hl:(loadVar ty ad).run P w with
      |ok u w2=>
       rw[hl]at b;simp only[Result.andThen_ok,Result.ok.injEq,Next.value.injEq]at b;obtain⟨rfl,rfl⟩:=b;rfl
      |halt x w2=>
       rw[hl]at b;simp at b
     refine⟨v::vs,FS2,US2,F1++F2,U1++U2,?_,?_,k3,by rw[k4,h5,Av],by rw[k5,h6,Av]⟩
     ·rw[List.mapM_cons];simp[e,k1]
     simp only[NC];exact⟨_,vs,F1,F2,U1,U2,rfl,rfl,rfl,JV h1 hp hl h3,k2⟩
    cases ht
   cases ht
  cases ht
end
section
variable {a:Act}
theorem NQ (h:(fn.results.toList.mapM (NW P a.tmps)).run P w= .ok vs w):(results fn a.tmps).run P w= .ok (if h:vs.length=1 then vs[0]else .tuple vs.toArray) w:=by
 rw[Us (P:=P)];have:fn.results.mapM (NW P a.tmps)=List.toArray<$>fn.results.toList.mapM (NW P a.tmps):=by
  rw[<-List.mapM_toArray]
 rw[this];simp[h]
end
theorem Od (h:NC w ss vs F U):TZ w (D6 ss) (if h:vs.length=1 then vs[0]else .tuple vs.toArray) F U:=by
 unfold D6;split
 ·rename_i s;simp only[NC]at h;obtain⟨v,a,F1,F2,U1,U2,rfl,rfl,rfl,h1,rfl,rfl,rfl⟩:=h;simpa using h1
 rename_i b;have hl:vs.length=ss.length:=by
  have:∀{ss:List SV} {vs:List Value} {F U:List Nat},NC w ss vs F U->vs.length=ss.length:=by
   intro ss
   induction ss with
   |nil=>intro vs F U h;simp only[NC]at h;simp[h.1]
   |cons s ss ih=>
    intro vs F U h;simp only[NC]at h;obtain⟨v,a,F1,F2,U1,U2,rfl,rfl,rfl,h1,h2⟩:=h;simp[ih h2]
  exact this h
 have:¬vs.length=1:=by
  intro h1;rw[h1]at hl
  match ss,hl with
  |[s],_=>exact b s rfl
 rw[dif_neg this];simp only[TZ];exact⟨vs,rfl,h⟩
theorem m9 {f:FuncId} {c:Code} {res:SV} (hf:P.funcs[f]?=some fn) (hb:fn.body=some c) (h:Wp P fn.ntmps c (Dc as) λe E=>(e= .normal\/e= .ret)/\∃ss E',Dg P E fn.results.toList=some (ss,E')/\D6 ss=res):
  A3 P f as res (List.replicate as.length .gone):=by
 intro w vs FA UA ha j i k;obtain⟨blk,FS,US,hr,hF,hU⟩:=R8 (N:=fn.ntmps) ha j i k (A:=Nz.none) trivial (λb hb=>by cases hb);refine calls_of_wp hf hb (wp_mono (h _ _ _ _ _ _ _ _ hr hF hU) ?_);rintro e a w' ⟨E,blk',FS',US',⟨he,ss,E',h1,rfl⟩,h2,h3,h4⟩;obtain⟨us,FS2,US2,F,U,k1,k2,k3,k4,k5⟩:=Jw h2 h1;rw[h3,AC]at k4;rw[h4,AC]at k5;have g:∀(n:Nat) (vs:List Value),vs.length=n->Iz w' (List.replicate n .gone) vs [] []:=by
  intro n
  induction n with
  |zero=>intro vs hv;simp at hv;subst hv;exact⟨rfl,rfl,rfl⟩
  |succ n ih=>
   intro vs hv
   cases vs with
   |nil=>simp at hv
   |cons v vs=>exact⟨v,vs,[],[],[],[],rfl,rfl,rfl,⟨rfl,rfl⟩,ih vs (by simpa using hv)⟩
 have l:vs.length=as.length:=by
  obtain⟨_,_,_,_,h5,_⟩:=Pn ha;exact h5
 have d:a.defers=[]/\∃v,(results fn a.tmps).run P w'= .ok v w'/\∃v' F U G V,Ending.returned v= .returned v'/\s6 w w' FA UA (D6 ss) (List.replicate as.length .gone) vs v' F U G V:=by
  refine⟨h2.nodef,_,NQ k1,_,F,U,[],[],rfl,?_⟩
  exact{
   res:=Od k2
   fin:=g _ _ l
   nodup:=by simpa[<-k4]using k3.nodup .hand
   dis:=by
    intro b hb hb';simp only[Aw]at hb hb';rw[<-k4]at hb;rw[<-k5]at hb';exact k3.disU .hand .hand b hb hb'
   inF:=by
    intro b hb;simp only[Aw]at hb;rw[<-k4]at hb;exact k3.inF .hand b hb
   inU:=by
    intro b hb;simp only[Aw]at hb;rw[<-k5]at hb;exact k3.inU .hand b hb
   os:=k3.os
   tape:=k3.tape
   output:=k3.output
   size:=k3.size
   keep:=λb hb hF=>k3.keep b hb hF (λe=>by cases e)}
 rcases he with rfl|rfl
 ·exact d
 exact d
theorem tN {l:List Oper} {ops:Array Oper} (t:Nat) {b:Bool} (_:E.cell1 P 0 (.tmp t)=some (.bool b)) (ht:b=true->EY P N ops l E Q) (hf:b=false->EY P N ops l E Q):EY P N ops l E Q:=by
 cases b
 ·exact hf rfl
 exact ht rfl
def r9 (ls:List (Nat×SV)) (bs:List (Root×List TV)):St where
 slots:=λn=>(ls.lookup n).getD (.one .junk)
 boxes:=λr=>bs.lookup r
 ver:=λ_=>0
 gen:=λ_=>0
def gW (ls:List Nat) (bs:List Root):Root->Bool
 | .slot n=>ls.contains n
 |r=>bs.contains r
def Rj (E:St) (ls:List Nat) (bs:List Root):TV->TV
 | .view r v q j=>if E.ver r=v/\gW ls bs r=true then .view r 0 q j else .junk
 | .ptr r v q j=>if E.stamp r q=v/\gW ls bs r=true then .ptr r 0 q j else .junk
 |t=>t
def tF (E:St) (ls:List Nat) (bs:List Root):SV->SV
 | .one t=> .one (Rj E ls bs t)
 | .agg cs=> .agg (cs.map (Rj E ls bs))
 | .tup _=> .one .junk
def JH (E:St) (ls:List Nat) (bs:List Root):St:={r9 (ls.map λn=>(n,tF E ls bs (E.slots n))) (bs.map λr=>(r,(E.boxes r).getD []))with amb:=E.amb,fz:=E.fz}
theorem Rk {f:Nat->SV}:∀{ls:List Nat} {n:Nat},((ls.map λn=>(n,f n)).lookup n)=if ls.contains n=true then some (f n)else none
 |[],n=>rfl
 |m::ls,n=>by
  simp only[BO,List.lookup_cons,List.contains_cons];by_cases h:n=m
  ·subst h;simp
  have:(n==m)=false:=by simpa using h
  rw[this,Rk];simp
theorem FN {f:Root->List TV}:∀{bs:List Root} {r:Root},((bs.map λr=>(r,f r)).lookup r)=if bs.contains r=true then some (f r)else none
 |[],r=>rfl
 |s::bs,r=>by
  simp only[BO,List.lookup_cons,List.contains_cons];by_cases h:r=s
  ·subst h;simp
  have:(r==s)=false:=by simpa using h
  rw[this,FN];simp
theorem mM {ls:List Nat} {bs:List Root} {o:Bool} {e sz:Nat} {a:List TV}:Rj E ls bs (.sl o e sz a)= .sl o e sz a:=rfl
theorem nM {ls:List Nat} {bs:List Root} {cs a:List TV} {c:Nat} (h:BN cs (c::q)=some a):BN (cs.map (Rj E ls bs)) (c::q)=some a:=by
 simp only[BN,AF]at h⊢;split at h
 ·rename_i o e sz b hc;simp only[hc,Bt,mM];exact h
 cases h
theorem jD {ls:List Nat} {bs:List Root} (hk:gW ls bs r=true) (hb:∀r∈bs,r.mem=true/\(E.boxes r).isSome=true) (c:E.boxes .hand=none):
  (∀n,r≠ .slot n)->(JH E ls bs).root r=E.root r:=by
 intro hn;have a:∀r,bs.contains r=true->(bs.map λr=>(r,(E.boxes r).getD [])).lookup r=E.boxes r:=by
  intro r hr;rw[FN,Ar hr];obtain⟨cs,b⟩:=Eo.1 (hb r (by simpa using hr)).2;rw[b];rfl
 cases r with
 |slot n=>exact absurd rfl (hn n)
 |box n=>exact a _ hk
 |ext n=>exact a _ hk
 |hand=>exact a _ hk
theorem W6 {n:Nat} {ls:List Nat} {bs:List Root}:(JH E ls bs).slots n=if ls.contains n=true then tF E ls bs (E.slots n)else .one .junk:=by
 simp only[JH,r9];rw[Rk];split<;>rfl
theorem U5 {ls:List Nat} {bs:List Root} (hk:gW ls bs r=true) (hb:∀r∈bs,r.mem=true/\(E.boxes r).isSome=true) (d:E.boxes .hand=none) (hq:q=[]->r.mem=true\/Iw (E.place r q j)=true) (hs:(E.place r q j).isSome=true):(JH E ls bs).place r q j=E.place r q j:=by
 by_cases b:∃n,r= .slot n
 ·obtain⟨n,rfl⟩:=b;have hk':ls.contains n=true:=hk;simp only[St.place,St.root,Aa]at hs hq⊢;rw[W6,Ar hk'];have a:(tF E ls bs (E.slots n)).cells=(E.slots n).cells.map (Rj E ls bs)\/(E.slots n).cells=[]:=by
   cases E.slots n with
   |one t=>exact .inl rfl
   |agg cs=>exact .inl rfl
   |tup ss=>exact .inr rfl
  rcases a with hc|hc
  ·rw[hc]
   cases q with
   |nil=>
    rcases hq rfl with h1|h1
    ·cases h1
    simp only[BN,Aa]at h1⊢;rw[AF]
    cases hx:(E.slots n).cells[j]? with
    |none=>rw[hx]at h1;cases h1
    |some t=>
     rw[hx]at h1;cases t<;>first|rfl|cases h1
   |cons c q=>
    cases hx:BN (E.slots n).cells (c::q)with
    |none=>rw[hx]at hs;cases hs
    |some row=>rw[nM hx]
  rw[hc]at hs;exfalso
  cases q with
  |nil=>simp[BN]at hs
  |cons c q=>simp[BN]at hs
 simp only[St.place,jD hk hb d (λn e=>b ⟨n,e⟩)]
theorem Vi {a:Act} {ls:List Nat} {bs:List Root} (hb:∀r∈bs,r.mem=true/\(E.boxes r).isSome=true) (d:E.boxes .hand=none) {t:TV} (h:C1 w a E blk t v F U):C1 w a (JH E ls bs) blk (Rj E ls bs t) v F U:=by
 cases t with
 |view r ver q j=>
  obtain⟨rfl,rfl,_,hc⟩:=h;simp only[Rj];split
  ·rename_i c;obtain⟨h1,h2⟩:=hc c.1;refine⟨rfl,rfl,Ku _,λ_=>⟨h1,?_⟩⟩;rw[U5 c.2 hb d (λ_=> .inr h2) (by cases hx:E.place r q j with|none=>rw[hx]at h2;cases h2|some _=>rfl)];exact h2
  exact⟨rfl,rfl⟩
 |ptr r ver q j=>
  obtain⟨rfl,rfl,_,hc⟩:=h;simp only[Rj];split
  ·rename_i c;obtain⟨h1,ad,h2,h3⟩:=hc c.1;refine⟨rfl,rfl,Ku _,λ_=>⟨?_,ad,h2,h3⟩⟩;rw[U5 c.2 hb d (λhq=> .inl (by subst hq;cases r<;>first|rfl|(simp[pa]at h2;done))) h1];exact h1
  exact⟨rfl,rfl⟩
 |junk=>exact h
 |int k n=>exact h
 |bool b=>exact h
 |str s=>exact h
 |fn _ _ _=>exact h
 |adr _=>exact h
 |hdr _ _ _=>exact h
 |sl o e sz cells=>exact h
theorem ST {a:Act} {ls:List Nat} {bs:List Root} (hb:∀r∈bs,r.mem=true/\(E.boxes r).isSome=true) (b:E.boxes .hand=none):∀{ts:List TV} {vs:List Value} {F U:List Nat},Cy w a E blk ts vs F U->Cy w a (JH E ls bs) blk (ts.map (Rj E ls bs)) vs F U
 |[],_,_,_,h=>h
 |t::ts,vs,F,U,h=>by
  obtain⟨v,c,F1,F2,U1,U2,h1,h2,h3,h4,h5⟩:=h;exact⟨v,c,F1,F2,U1,U2,h1,h2,h3,Vi hb b h4,ST hb b h5⟩
theorem Cu.norm {w0:Base} {a:Act} (h:Cu w0 FA UA N w a E blk FS US) (ls:List Nat) (bs:List Root) (hb:∀r∈bs,r.mem=true/\(E.boxes r).isSome=true):
  ∃FS' US',Cu w0 FA UA N w a (JH E ls bs) blk FS' US'/\FS' .hand=[]/\US' .hand=[]:=by
 have e:=h.nohand
 let st:Root->Bool:=λr=>match r with
  | .slot n=>ls.contains n&&(match E.slots n with| .tup _=>false|_=>true)
  | .hand=>false
  |r=>bs.contains r
 let FS':Root->List Nat:=λr=>if st r=true then FS r else []
 let US':Root->List Nat:=λr=>if st r=true then US r else []
 have hF:∀r b,b∈FS' r->b∈FS r:=by intro r b hx;simp only[FS']at hx;split at hx;exact hx;cases hx
 have hU:∀r b,b∈US' r->b∈US r:=by intro r b hx;simp only[US']at hx;split at hx;exact hx;cases hx
 refine⟨FS',US',?_,by simp[FS',st],by simp[US',st]⟩;constructor
 ·intro n;rw[W6];have hs:=h.slot n
  cases hc:ls.contains n with
  |false=>
   have:st (.slot n)=false:=by show(ls.contains n&&_)=false;rw[hc];rfl
   simp[DD,C1,TV.isJunk,FS',US',this]
  |true=>
   rw[Ar rfl]
   cases c:E.slots n with
   |one t=>
    have:st (.slot n)=true:=by show(ls.contains n&&_)=true;rw[hc,c];rfl
    rw[c]at hs;simp only[DD]at hs;simp only[tF,DD,FS',US',this,BU];refine⟨Vi hb e hs.1,λhj=>hs.2 ?_⟩;cases t<;>first|rfl|cases hj
   |agg cs=>
    have:st (.slot n)=true:=by show(ls.contains n&&_)=true;rw[hc,c];rfl
    rw[c]at hs;simp only[DD]at hs;obtain⟨vs,h1,h2⟩:=hs;simp only[tF,DD,FS',US',this,BU];exact⟨vs,h1,ST hb e h2⟩
   |tup ss=>
    have:st (.slot n)=false:=by show(ls.contains n&&_)=false;rw[hc,c];rfl
    simp[tF,DD,C1,TV.isJunk,FS',US',this]
 ·intro r hr
  cases hc:bs.contains r with
  |false=>
   have d:st r=false:=by cases r<;>first|exact hc|cases hr
   refine .inl ⟨?_,by simp[FS',d],by simp[US',d]⟩;show(bs.map λr=>(r,(E.boxes r).getD [])).lookup r=none;rw[FN,Au (by rw[hc];simp)]
  |true=>
   have d:st r=true:=by cases r<;>first|exact hc|cases hr
   have f:(JH E ls bs).boxes r=E.boxes r:=by
    show(bs.map λr=>(r,(E.boxes r).getD [])).lookup r=_;rw[FN,Ar hc];obtain⟨cs,g⟩:=Eo.1 (hb r (by simpa using hc)).2;rw[g];rfl
   rw[f];simp only[FS',US',d,BU];exact h.box r hr
 ·show(bs.map λr=>(r,(E.boxes r).getD [])).lookup .hand=none;rw[FN,Au];intro hx;have:=(hb .hand (by simpa using hx)).1;cases this
 ·intro r;simp only[FS'];split
  ·exact h.nodup r
  exact Ce
 ·exact λr s i b hx hy=>h.dis r s i b (hF r b hx) (hF s b hy)
 ·exact λr s b hx hy=>h.disU r s b (hF r b hx) (hU s b hy)
 ·exact λr b hx=>h.inF r b (hF r b hx)
 ·exact λr b hx=>h.inU r b (hU r b hx)
 ·exact h.disA
 ·exact h.os
 ·exact h.tape
 ·exact h.output
 ·exact h.size
 ·exact h.keep
 ·exact h.len
 ·exact h.nodef
 ·exact h.xblk
 ·exact h.ambB
 ·exact h.ambI
 ·exact h.frz
 ·exact h.ambF
 exact h.pin
theorem Wp.norm {c:Code} (ls:List Nat) (bs:List Root) (E':St) (hb:bs.all (λr=>r.mem&&(E.boxes r).isSome)=true) (hE:JH E ls bs=E') (h:Wp P N c E' Q):Wp P N c E Q:=by
 intro w0 FA UA w a blk FS US hr hF hU
 obtain⟨FS',US',h1,h2,h3⟩:=hr.norm ls bs (λr hm=>by
  have:=Ca.1 hb r hm
  simpa using this)
 rw[hE]at h1;exact h _ _ _ _ _ _ _ _ h1 h2 h3
def kL (P:Program) (N:Nat) (ops:Array Oper) (b:Nat) (listed:Array Bool) (E:St) (Q:Exit->St->Prop):Prop:=∀(w0:Base) (FA UA:List Nat) (w:World) (a:Act) (blk:Root->Nat) (FS US:Root->List Nat),Cu w0 FA UA N w a E blk FS US->FS .hand=[]->US .hand=[]->wpAny P .any ops (bC w0 FA UA N Q) b listed a w
def wR (P:Program) (N:Nat) (ops:Array Oper) (i:Nat) (E:St) (K:St->Prop) (Q:Exit->St->Prop):Prop:=∀(w0:Base) (FA UA:List Nat) (w:World) (a:Act) (blk:Root->Nat) (FS US:Root->List Nat),Cu w0 FA UA N w a E blk FS US->FS .hand=[]->US .hand=[]->
  wpOp P ops (bC w0 FA UA N Q) i (λa' w'=>∃E' blk' FS' US',K E'/\Cu w0 FA UA N w' a' E' blk' FS' US'/\FS' .hand=[]/\US' .hand=[]) a w
theorem uY (hr:Region.ready .any ops listed=[]) (h:Q .normal E):kL P N ops fuel listed E Q:=
 λw0 FA UA w a blk FS US k1 k2 k3=>wpAny_done hr ⟨E,blk,FS,US,h,k1,k2,k3⟩ fuel
section
variable {i:Nat}
theorem kL.all (rs:List Nat) (hr:Region.ready .any ops listed=rs) (b:rs≠ []) (h:∀i∈rs,wR P N ops i E (λE'=>kL P N ops fuel (listed.setIfInBounds i true) E' Q) Q):kL P N ops (fuel+1) listed E Q:=
 λw0 FA UA w a blk FS US k1 k2 k3=>wpAny_all hr b λi hi=>wpOp_mono (λa' w' ⟨E',blk',FS',US',m1,m2,m3,m4⟩=>m1 _ _ _ _ _ _ _ _ m2 m3 m4) (h i hi _ _ _ _ _ _ _ _ k1 k2 k3)
end
theorem kL.one (i:Nat) (hr:Region.ready .any ops listed=[i]) (h:wR P N ops i E (λE'=>kL P N ops fuel (listed.setIfInBounds i true) E' Q) Q):kL P N ops (fuel+1) listed E Q:=
 kL.all [i] hr (by simp) λj hj=>by
  have:j=i:=by simpa using hj
  subst this;exact h
theorem kL.take {o:Oper} (i:Nat) (s:SV) (ho:ops[i]?=some o) (hs:Region.noSelect ops=true) (hf:Region.free .any ops listed i=true) (hr:(Region.ready .any ops listed).contains i=true) (hQ:∀c E,Q (.panic c) E->False) (hg:Bp P ops E o=some true) (hd:o.dst=some d) (hN:d<N) (hp:AU P E o=some s) (hn:NZ E o=none) (h:kL P N ops fuel (listed.setIfInBounds i true) (E.put (some d) s) Q):kL P N ops (fuel+1) listed E Q:=by
 intro w0 FA UA w a blk FS US k1 k2 k3;obtain⟨v,U,h1,h2,h3⟩:=MA k1 hp;refine wpAny_take (v:=v) ho hs hf hr (λc a w hx=>?_) (.inl ⟨BS k1 hg,λw2=>h1 w2 (λr b=>by rw[hn]at b;cases b)⟩) ?_
 ·obtain⟨E',blk',FS',US',m1,_⟩:=hx;exact(hQ c E' m1).elim
 rw[hd];refine h _ _ _ _ _ _ _ _ (k1.put hN h2 (Kr k1 h3 _)) ?_ ?_
 ·rw[Bg (by simp),k2]
 rw[Bg (by simp),k3]
def Fx (P:Program) (N:Nat) (ops:Array Oper) (l:List Oper) (E:St) (K:St->Prop):Prop:=∀(w0:Base) (FA UA:List Nat) (w:World) (a:Act) (blk:Root->Nat) (FS US:Root->List Nat),Cu w0 FA UA N w a E blk FS US->FS .hand=[]->US .hand=[]->
  wpStill P ops w (λa'=>∃E' blk' FS' US',K E'/\Cu w0 FA UA N w a' E' blk' FS' US'/\FS' .hand=[]/\US' .hand=[]) l a
def Hy (P:Program) (E:St) (o:Oper):Option SV:=match o.op with
 | .build t parts=>TA P E t parts.toList
 |_=>AU P E o
theorem Uc {w0:Base} {a:Act} {o:Oper} (h:Cu w0 FA UA N w a E blk FS US) {s:SV} (hs:Hy P E o=some s):DX P w a E blk FS US o s:=by
 unfold Hy at hs;split at hs
 ·rename_i ho;exact ZE h ho hs
 exact MA h hs
theorem Fx.nil (h:K E):Fx P N ops [] E K:=λw0 FA UA w a blk FS US k1 k2 k3=>⟨E,blk,FS,US,h,k1,k2,k3⟩
theorem Fx.op {o:Oper} (s:SV) (hg:Bp P ops E o=some true) (hd:o.dst=some d) (hN:d<N) (hs:Hy P E o=some s) (h:Fx P N ops rest (E.put (some d) s) K):Fx P N ops (o::rest) E K:=by
 intro w0 FA UA w a blk FS US k1 k2 k3;obtain⟨v,U,h1,h2,h3⟩:=Uc k1 hs;have hr:=h1 w (λr _=>⟨λ_ _=>rfl,λ_ _=>rfl⟩);simp only[wpStill,BS k1 hg,BU,Oper.still,hr,Oper.stillUpon_value];rw[hd];refine h _ _ _ _ _ _ _ _ (k1.put hN h2 (Kr k1 h3 _)) ?_ ?_
 ·rw[Bg (by simp),k2]
 rw[Bg (by simp),k3]
theorem n7 {o:Oper} (hd:o.dst=some d) (hN:d<N) (hg:Bp P ops E o=some false) (h:Fx P N ops rest (E.put (some d) (.tup [])) K):Fx P N ops (o::rest) E K:=by
 intro w0 FA UA w a blk FS US hr hF hU;simp only[wpStill,BS hr hg];rw[Au (by simp),hd];refine h _ _ _ _ _ _ _ _ (hr.put (F:=[]) (U:=[]) hN (by simp only[DD];exact⟨[],rfl,by simp[L3]⟩) VW.none) ?_ ?_
 ·rw[Bg (by simp),hF]
 rw[Bg (by simp),hU]
theorem tM {l:List Oper} (t:Nat) {b:Bool} (_:E.cell1 P 0 (.tmp t)=some (.bool b)) (ht:b=true->Fx P N ops l E K) (hf:b=false->Fx P N ops l E K):Fx P N ops l E K:=by
 cases b
 ·exact hf rfl
 exact ht rfl
theorem Qr {l:List Oper} {id:Nat} (hm:P.follows .mixedOrders=true) (hB:Region.lexB .any l.toArray=true) (h:Fx P N l.toArray l E (λE'=>Q .normal E')):Wp P N (.region id l.toArray true) E Q:=by
 intro w0 FA UA w a blk FS US k1 k2 k3;obtain⟨FS',US',m1,m2,m3⟩:=k1.drop (w':={w with drawn:=w.drawn+1}) (A5 _) rfl rfl rfl (λ_ _ _=>rfl);exact wp_region_still_lit hm hB (h _ _ _ _ _ _ _ _ m1 m2 m3)
section
variable {a:Act}
theorem Mm {Q1 Q2:Act->Prop} (hq:∀a,Q1 a->Q2 a):∀{l:List Oper} {a:Act},wpStill P ops w Q1 l a->wpStill P ops w Q2 l a
 |[],a,h=>hq a h
 |o::l,a,h=>by
  simp only[wpStill]at h⊢;split
  ·rename_i hw;rw[Ar hw]at h;exact Oper.still_mono (λa k=>Mm hq k) h
  rename_i hw;rw[Au hw]at h;exact Mm hq h
end
theorem e7 {l:List Oper} {id:Nat} (n:Nat) (hm:P.follows .mixedOrders=true) (hB:Region.lexTailB .any l.toArray n=true) (h:Fx P N l.toArray (l.take n) E (λE'=>EY P N l.toArray (l.drop n) E' Q)):Wp P N (.region id l.toArray true) E Q:=by
 intro w0 FA UA w a blk FS US k1 k2 k3;obtain⟨FS',US',m1,m2,m3⟩:=k1.drop (w':={w with drawn:=w.drawn+1}) (A5 _) rfl rfl rfl (λ_ _ _=>rfl);refine wp_region_still_tail n hm hB (Mm ?_ (h _ _ _ _ _ _ _ _ m1 m2 m3));rintro a' ⟨E',blk',FS2,US2,h1,h2,h3,h4⟩;exact h1 _ _ _ _ _ _ _ _ h2 h3 h4
def AB (f:α->List TV) (l:List α):List TV:=(l.map f).flatten
def gi (l:List α) (i:Int):Option α:=if 0<=i then l[i.toNat]? else none
def si (l:List α) (i:Int) (x:α):List α:=l.set i.toNat x
def ln (l:List α):Int:=(l.length:Nat)
theorem Em (hf:∀x,(f x).length=sz):∀l:List α,(AB f l).length=l.length*sz
 |[]=>by simp[AB]
 |x::l=>by
  have:=Em hf l;simp only[AB,BO,Qt,Ah,AH,hf]at this⊢;rw[this,Df,Tn]
theorem Fq (x:α) (l:List α):AB f (x::l)=f x++AB f l:=rfl
theorem Oy (l m:List α):AB f (l++m)=AB f l++AB f m:=by simp[AB]
theorem T4 (h:gi l i=some x):0<=i/\i.toNat<l.length/\l[i.toNat]?=some x:=by
 unfold gi at h;split at h
 ·exact⟨by assumption,(Ag.1 h).1,h⟩
 cases h
theorem HO (hf:∀x,(f x).length=sz):∀(l:List α) (n:Nat),(AB f l).drop (n*sz)=AB f (l.drop n)
 |l,0=>by simp
 |[],n+1=>by simp[AB]
 |x::l,n+1=>by
  rw[Fq,List.drop_succ_cons,<-HO hf l n,Df,Tn,<-DG,List.drop_left' (hf x)]
theorem nA (hf:∀x,(f x).length=sz) (h:gi l i=some x):((AB f l).drop (i.toNat*sz)).take sz=f x:=by
 obtain⟨_,h1,h2⟩:=T4 h;rw[HO hf,BP h1,Fq,List.take_left' (hf _)];rw[Ad h1]at h2
 injection h2 with h2
 rw[h2]
theorem hO {k:Nat} (hf:∀x,(f x).length=sz) (h:gi l i=some x) (hk:k<sz):(AB f l)[i.toNat*sz+k]?=(f x)[k]? :=by
 rw[<-nA hf h,B9,Ar hk,BJ]
theorem Yn (hf:∀x,(f x).length=sz) (h:gi l i=some x):(i.toNat+1)*sz<=(AB f l).length:=by
 rw[Em hf];exact B4 _ (T4 h).2.1
theorem S9 (hf:∀x,(f x).length=sz):∀(l:List α) (n:Nat) (y:List TV) (z:α) {k:Nat} {x:α},l[n]?=some x->k+y.length<=sz->setRow (f x) k y=f z->setRow (AB f l) (n*sz+k) y=AB f (l.set n z)
 |[],n,y,z,k,x,h,_,_=>by simp at h
 |x0::l,0,y,z,k,x,h,hk,he=>by
  simp at h;subst h;rw[Dz,Fq,Fq,<-he];have h1:=hf x0;simp only[setRow,Nat.zero_mul,Gk];rw[List.take_append_of_le_length (by omega),List.drop_append_of_le_length (by omega)];simp
 |x0::l,n+1,y,z,k,x,h,hk,he=>by
  have ih:=S9 hf l n y z (by simpa using h) hk he;rw[Kk,Fq,Fq,<-ih];have h1:=hf x0;simp only[setRow,Df];rw[show n*sz+sz+k=(f x0).length+(n*sz+k) by omega,Gr,List.take_append,List.drop_append,AT (by omega),Cx (by omega)];simp
theorem Ws {k:Nat} {y:List TV} (hf:∀x,(f x).length=sz) (h:gi l i=some x) (hk:Nat.ble (k+y.length) sz=true) (he:setRow (f x) k y=f z):setRow (AB f l) (i.toNat*sz+k) y=AB f (si l i z):=
 S9 hf l _ y z (T4 h).2.2 (by simpa[Mh]using hk) he
abbrev I (n:Int):SV:= .one (.int .i64 n)
abbrev B (b:Bool):SV:= .one (.bool b)
abbrev Y (s:ByteArray):SV:= .one (.str s)
def M4 (body:S->Option (S⊕α)):Nat->S->Option α
 |0,_=>none
 |n+1,s=>match body s with
  |none=>none
  |some (.inl s')=>M4 body n s'
  |some (.inr a)=>some a
theorem Sa {body:S->Option (S⊕α)} {a:α}:∀{n m:Nat} {s:S},M4 body n s=some a->n<=m->M4 body m s=some a
 |0,_,_,h,_=>by cases h
 |n+1,0,_,_,h=>by omega
 |n+1,m+1,s,h,hm=>by
  simp only[M4]at h⊢;split at h
  ·cases h
  ·exact Sa h (by omega)
  exact h
open Classical in
noncomputable def Aq (body:S->Option (S⊕α)) (s:S):Option α:=
 if h:∃a n,M4 body n s=some a then some h.choose else none
theorem Gd {body:S->Option (S⊕α)} {s:S} {a:α}:Aq body s=some a↔∃n,M4 body n s=some a:=by
 unfold Aq;constructor
 ·intro h;split at h
  ·rename_i he
   injection h with h
   rw[<-h];exact he.choose_spec
  cases h
 rintro⟨n,h⟩;have he:∃a n,M4 body n s=some a:=⟨a,n,h⟩;rw[dif_pos he];obtain⟨m,hm⟩:=he.choose_spec;have h1:=Sa hm (Nat.le_max_left m n);have h2:=Sa h (Nat.le_max_right m n);rw[h1]at h2;exact h2
theorem A9 (body:S->Option (S⊕α)) (s:S):Aq body s=match body s with
  |none=>none
  |some (.inl s')=>Aq body s'
  |some (.inr a)=>some a:=by
 have b:∀a,Aq body s=some a↔(match body s with|none=>none|some (.inl s')=>Aq body s'|some (.inr a)=>some a)=some a:=by
  intro a;rw[Gd];constructor
  ·rintro⟨n,h⟩
   cases n with
   |zero=>cases h
   |succ n=>
    simp only[M4]at h;split at h
    ·cases h
    ·rename_i s' hb;exact Gd.2 ⟨n,h⟩
    rename_i a' hb;simpa only[hb]using h
  intro h;split at h
  ·cases h
  ·rename_i s' hb;obtain⟨n,hn⟩:=Gd.1 h;exact⟨n+1,by simp only[M4,hb];exact hn⟩
  rename_i a' hb;exact⟨1,by simp only[M4,hb];exact h⟩
 cases hx:Aq body s with
 |some a=>exact((b a).1 hx).symm
 |none=>
  cases hy:(match body s with|none=>none|some (.inl s')=>Aq body s'|some (.inr a)=>some a:Option α)with
  |none=>rfl
  |some a=>rw[(b a).2 hy]at hx;cases hx
def kG (E:St) (l:List (Root×List TV)):St:=l.foldl (λE x=>(E.setRoot x.1 x.2).bump x.1) E
def St.rs (E:St) (t:Nat) (b:Bool):St:={E with slots:=BX E.slots t (B b)}
theorem Wz {t:Nat} {b:Bool} (h:E.slots t=B b):E.rs t b=E:=by
 have:BX E.slots t (B b)=E.slots:=by
  funext n;simp only[BX];split
  ·rename_i hn;rw[hn,h]
  rfl
 unfold St.rs;rw[this]
theorem EY.o (d:Nat) (s:SV) (h:EY P N ops rest (E.put (some d) s) Q) (hs:Cc P N false E oo=some (E.put (some d) s):=by rfl) (hg:Bp P ops E oo=some true:=by rfl):EY P N ops (oo::rest) E Q:=EY.op false hg hs h
theorem EY.b (m:List (Root×List TV)) (d:Nat) (xs:List TV) (h:EY P N ops rest ((kG E m).newBox d xs) Q) (hs:Cc P N false E oo=some ((kG E m).newBox d xs):=by rfl) (hg:Bp P ops E oo=some true:=by rfl):EY P N ops (oo::rest) E Q:=EY.op false hg hs h
theorem wN (mv:Bool) (m:List (Root×List TV)) (d:Nat) (s:SV) (h:EY P N ops rest ((kG E m).put (some d) s) Q) (hs:Cc P N mv E oo=some ((kG E m).put (some d) s):=by rfl) (hg:Bp P ops E oo=some true:=by rfl):EY P N ops (oo::rest) E Q:=EY.op mv hg hs h
theorem EY.s (m:List (Root×List TV)) (rt:Root) (cs:List TV) (h:EY P N ops rest ((kG E m).setRoot rt cs) Q) (hs:Cc P N false E oo=some ((kG E m).setRoot rt cs):=by rfl) (hg:Bp P ops E oo=some true:=by rfl):EY P N ops (oo::rest) E Q:=EY.op false hg hs h
theorem s8 {l:List Oper} {r:β} {b:Bool} (h:(bif b then tx else ty)=some r) (t:Nat) (ht:tx=some r->EY P N ops l (E.rs t true) Q) (hf:ty=some r->EY P N ops l (E.rs t false) Q) (hc:E.slots t=B b:=by rfl):EY P N ops l E Q:=by
 cases b
 ·rw[Wz hc]at hf;exact hf h
 rw[Wz hc]at ht;exact ht h
theorem Wp.c {r:β} {x:Code} {c:Operand} {b:Bool} (h:(bif b then tx else ty)=some r) (ht:tx=some r->Wp P N x E Q) (hf:ty=some r->Wp P N y E Q) (hc:E.cell1 P 0 c=some (.bool b):=by rfl):Wp P N (.cond c x y) E Q:=by
 refine Wp.cond hc (λhb=>?_) (λhb=>?_)
 ·subst hb;exact ht h
 subst hb;exact hf h
theorem uR {x:Code} {c:Operand} (ht:Wp P N x E Q) (hc:E.cell1 P 0 c=some (.bool true):=by rfl):Wp P N (.cond c x y) E Q:=Wp.cond hc (λ_=>ht) (λh=>by cases h)
theorem uS {x:Code} {c:Operand} (hf:Wp P N y E Q) (hc:E.cell1 P 0 c=some (.bool false):=by rfl):Wp P N (.cond c x y) E Q:=Wp.cond hc (λh=>by cases h) (λ_=>hf)
def pk (o:Oper):Bool:=match o.op with
 | .nilCheck _| .pick .. | .binOp .. | .unOp .. | .convert .. | .fieldAddr .. | .indexAddr .. | .load .. | .index .. | .slice .. =>true
 | .call c=>match c.callee with
  | .builtin .len| .builtin .min| .builtin .max=>true
  |_=>false
 |_=>false
theorem j7 {o:Oper} {s:SV} {src dst:TypeId} {x:Operand} (ho:o.op= .convert src dst x) (hp:AU P E o=some s):Pg P E d src dst x=none:=by
 unfold AU at hp;simp only[ho]at hp;unfold Pg;split
 ·rename_i e hd;split
  ·rename_i b hs hb;simp only[hd,hs,hb]at hp;cases hp
  rfl
 rfl
theorem fU {o:Oper} {s:SV} (hp:AU P E o=some s) (hd:o.dst=some d:=by rfl) (hN:Nat.blt d N=true:=by rfl) (hk:pk o=true:=by rfl):Cc P N false E o=some (E.put (some d) s):=by
 have hN':d<N:=by simpa[Bi]using hN
 unfold pk at hk;unfold Cc;rw[hd];simp only[Ar hN'];split at hk<;>rename_i ho<;>try (cases hk;done)
 all_goals first|(simp only[ho,j7 ho hp,hp,Bt];done)|simp only[ho,hp,Bt]
 rename_i c;split at hk<;>rename_i hc<;>try (cases hk;done)
 all_goals simp only[hc,Bt]
theorem fV {o:Oper} {s:SV} (hp:AU P E o=some s) (hk:pk o=true:=by rfl):Hy P E o=some s:=by
 unfold pk at hk;unfold Hy;split at hk<;>rename_i ho<;>try (cases hk;done)
 all_goals simp only[ho];exact hp
theorem vN {o:Oper} (hf:∀x,(f x).length=sz) (r:Root) (q:List Nat) (j:Nat) (hx:gi l n=some x) {t e e':TypeId} {a i:Operand} {b:Bool} (hp:E.place r q j=some (.sl b e' sz (AB f l)):=by rfl) (ho:o.op= .indexAddr t a i:=by rfl) (ht:P.underlying t=some (.slice e):=by rfl) (hi:E.cell1 P 0 i=some (.int k n):=by rfl) (hr:E.ref a=some (r,q,j):=by rfl) (c:P.cellsOf e=sz:=by rfl) (h0:Nat.blt 0 sz=true:=by rfl):AU P E o=some (.one (.ptr r (E.ver r) (q++ [j]) (n.toNat*sz+0))):=by
 have h0':0<sz:=by simpa[Bi]using h0
 simp only[AU,ho,ht,hi,hr,hp];rw[Ar ⟨c.symm,h0',(T4 hx).1,Yn hf hx⟩];rfl
theorem vO {o:Oper} {fl:Nat} (hf:∀x,(f x).length=sz) (r:Root) (q:List Nat) (k:Nat) (hx:gi l n=some x) {a:Operand} (hr:(E.root r).bind (λcs=>BN cs q)=some (AB f l):=by rfl) (ho:o.op= .fieldAddr st a fl:=by rfl) (hs:P.underlying st=some (.struct fs):=by rfl) (hp:E.ptr? a=some (r,q,n.toNat*sz+k):=by rfl) (b:fs[fl]?=some fd:=by rfl) (hc:Nat.beq (P.cellsOf fd.type) 0=false:=by rfl) {m:Nat} (hm:k+fd.offset=m:=by rfl) (hk:Nat.blt (k+fd.offset) sz=true:=by rfl):AU P E o=some (.one (.ptr r (E.stamp r q) q (n.toNat*sz+m))):=by
 subst hm;have hc':P.cellsOf fd.type≠0:=by intro h;rw[h]at hc;cases hc
 have hk':k+fd.offset<sz:=by simpa[Bi]using hk
 have c:(E.place r q (n.toNat*sz+k+fd.offset)).isSome=true:=by
  obtain⟨cs,h1,h2⟩:=Ao.1 hr;simp only[St.place,h1,Aa,h2,Gr,hO hf hx hk'];rw[Ad (by rw[hf];exact hk')];rfl
 simp only[AU,ho,hs,hp,b];rw[Au hc',Ar c,Gr]
theorem vM {o:Oper} (hf:∀x,(f x).length=sz) (r:Root) (q:List Nat) (k:Nat) (u:TV) (hx:gi l n=some x) {t:TypeId} {a:Operand} (hr:(E.root r).bind (λcs=>BN cs q)=some (AB f l):=by rfl) (ho:o.op= .load t a:=by rfl) (hp:E.ptr? a=some (r,q,n.toNat*sz+k):=by rfl) (ha:VR P t=false:=by rfl) (h1:P.cellsOf t=1:=by rfl) (hu:(P.underlying t).isSome=true:=by rfl) (hk:Nat.blt k sz=true:=by rfl) (hj:(f x)[k]?=some u:=by rfl):AU P E o=some (.one (rP E r q (n.toNat*sz+k) u)):=by
 have hk':k<sz:=by simpa[Bi]using hk
 have b:=Yn hf hx;rw[Df]at b;simp only[AU,ho,hp,hr,ha,h1];rw[Ar (by omega),Au (by simp),Ar ⟨trivial,hu⟩,hO hf hx hk',hj];rfl
theorem vK {o:Oper} (hf:∀x,(f x).length=sz) (r:Root) (q:List Nat) (k m:Nat) (hx:gi l n=some x) {t:TypeId} {a:Operand} (hr:(E.root r).bind (λcs=>BN cs q)=some (AB f l):=by rfl) (ho:o.op= .load t a:=by rfl) (hp:E.ptr? a=some (r,q,n.toNat*sz+k):=by rfl) (ha:VR P t=true:=by rfl) (h1:P.cellsOf t=m:=by rfl) (hk:Nat.ble (k+m) sz=true:=by rfl):AU P E o=some (.agg (QW E r q (n.toNat*sz+k) (((f x).drop k).take m))):=by
 have hk':k+m<=sz:=by simpa[Mh]using hk
 have b:=Yn hf hx;rw[Df]at b;simp only[AU,ho,hp,hr,ha,h1];rw[Ar (by omega),Ar trivial,<-nA hf hx,List.drop_take,List.take_take,Nat.min_eq_left (by omega),DG]
theorem vL {o:Oper} (hf:∀x,(f x).length=sz) (l:List α) {t e e':TypeId} {a:Operand} {b:Bool} (ho:o.op= .call {callee:= .builtin .len,args:= #[a],argTypes:= #[t]}:=by rfl) (ht:P.underlying t=some (.slice e):=by rfl) (hr:E.ref a=some (r,q,j):=by rfl) (hp:E.place r q j=some (.sl b e' sz (AB f l)):=by rfl) (h0:Nat.blt 0 sz=true:=by rfl):AU P E o=some (.one (.int .i64 (ln l))):=by
 have h0':0<sz:=by simpa[Bi]using h0
 have:(AB f l).length/sz=l.length:=by rw[Em hf];exact Ee _ h0'
 simp only[AU,ho,Lz,ht,St.sliceCells,hr,hp];rw[Ar h0',this];rfl
def sx (s:ByteArray) (i:Int):Option Int:=if 0<=i/\i<s.size then some (AU.bt s i)else none
def sub (s:ByteArray) (l h:Int):Option ByteArray:=if 0<=l/\l<=h/\h<=s.size then some (s.extract l.toNat h.toNat)else none
def T9 (a b:ByteArray):Option ByteArray:=if((a.size+b.size:Nat):Int)>9223372036854775807 then none else some (a++b)
def EU (s:ByteArray):Int:=(s.size:Nat)
def seq (a b:ByteArray):Bool:=a.toList==b.toList
theorem vJ {o:Oper} {s:ByteArray} {n b:Int} (h:sx s n=some b) {t:TypeId} {a i:Operand} (ho:o.op= .index t a i:=by rfl) (ht:P.underlying t=some .string:=by rfl) (ha:E.cell1 P t a=some (.str s):=by rfl) (hi:E.cell1 P 0 i=some (.int k n):=by rfl):
  AU P E o=some (.one (.int .u8 b)):=by
 unfold sx at h;split at h
 ·rename_i hc
  injection h with h
  simp only[AU,ho,ht,ha,hi];rw[Ar hc,h]
 cases h
section
variable {o:Oper}
theorem t6 {l h:Int} {hi:Option Operand} {k':IntKind} {s u:ByteArray} (hx:sub s l h=some u) {t:TypeId} {a:Operand} (ho:o.op= .slice t a lo hi none:=by rfl) (ht:P.underlying t=some .string:=by rfl) (ha:E.cell1 P t a=some (.str s):=by rfl) (hl:(match lo with|some o=>E.cell1 P 0 o|none=>some (.int .i64 0))=some (.int k l):=by rfl) (hh:(match hi with|some o=>E.cell1 P 0 o|none=>some (.int .i64 s.size))=some (.int k' h):=by rfl):
  AU P E o=some (.one (.str u)):=by
 unfold sub at hx;split at hx
 ·rename_i hc
  injection hx with hx
  have fin:(if 0<=l/\l<=h/\h<=(s.size:Int)then some (SV.one (.str (s.extract l.toNat h.toNat)))else none)=some (.one (.str u)):=by rw[Ar hc,hx]
  cases lo with
  |none=>
   injection hl with hl
   injection hl with _ hl
   subst hl
   cases hi with
   |none=>
    injection hh with hh
    injection hh with _ hh
    subst hh;simpa only[AU,ho,ht,ha]using fin
   |some y=>
    have hh':E.cell1 P 0 y=some (.int k' h):=hh;simpa only[AU,ho,ht,ha,hh']using fin
  |some z=>
   have hl':E.cell1 P 0 z=some (.int k l):=hl
   cases hi with
   |none=>
    injection hh with hh
    injection hh with _ hh
    subst hh;simpa only[AU,ho,ht,ha,hl']using fin
   |some y=>
    have hh':E.cell1 P 0 y=some (.int k' h):=hh;simpa only[AU,ho,ht,ha,hl',hh']using fin
 cases hx
end
theorem uA {o:Oper} {x y:Operand} {a b u:ByteArray} (hx:T9 a b=some u) {t t':TypeId} (ho:o.op= .binOp .add t x y t':=by rfl) (ha:E.cell1 P t x=some (.str a):=by rfl) (hb:E.cell1 P t y=some (.str b):=by rfl):
  AU P E o=some (.one (.str u)):=by
 unfold T9 at hx;split at hx
 ·cases hx
 rename_i hc
 injection hx with hx
 simp only[AU,ho,ha,hb,Vo,BU,Vq];rw[Au hc,hx];rfl
def Ho (cs:List TV):Bool:=cs.all λt=>match t with
 | .int .. | .bool _| .str _| .sl false .. =>true
 |_=>false
theorem Ui {E:St} {r:Root} {q:List Nat}:∀{cs:List TV} (c:Nat),Ho cs=true->QW E r q c cs=cs
 |[],c,h=>rfl
 |t::ts,c,h=>by
  simp only[Ho,DE,Ai]at h;have ih:=Ui (E:=E) (r:=r) (q:=q) (c+1) (show Ho ts=true from h.2);simp only[QW,ih]
  cases t with
  |sl o e sz cells=>cases o<;>first|rfl|(have:=h.1;simp at this)
  |_=>rfl
theorem Nj {E:St}:∀{cs:List TV},Ho cs=true->Ea E cs=some (cs,E)
 |[],h=>rfl
 |t::ts,h=>by
  simp only[Ho,DE,Ai]at h;have ih:=Nj (E:=E) (show Ho ts=true from h.2);have h1:=h.1;have hr:∀E1 E2 t,(∀r v q j,t≠ .view r v q j)->List.map (rU E1 E2 t) ts=ts:=by
   intro E1 E2 t ht;have:rU E1 E2 t=id:=by
    funext u;cases t<;>first|rfl|exact absurd rfl (ht _ _ _ _)
   rw[this,kK]
  rw[NE];cases t<;>simp only[Da]<;>first|(rw[hr _ _ _ (by intros;simp)];simp only[ih])|(simp at h1;done)
theorem Qa (hf:∀x,Ho (f x)=true):∀l:List α,Ho (AB f l)=true
 |[]=>rfl
 |x::l=>by
  have:=Qa hf l;rw[Fq];unfold Ho at*;rw[List.all_append,hf,this];rfl
def ap (by_:Nat) (l m:List α):Option (List α):=if(l.length+m.length)*by_<=140737488355328 then some (l++m)else none
def mk (by_:Nat) (z:α) (n:Int):Option (List α):=if 0<=n/\(by_:Int)*n<=281474976710656/\n<=9223372036854775807 then some (List.replicate n.toNat z)else none
theorem qD {l m u:List α} (h:ap by_ l m=some u):u=l++m/\(l.length+m.length)*by_<=140737488355328:=by
 unfold ap at h;split at h
 ·injection h with h;exact⟨h.symm,by assumption⟩
 cases h
theorem NX (h:f z=zs):∀n,(List.replicate n zs).flatten=AB f (List.replicate n z)
 |0=>rfl
 |n+1=>by rw[List.replicate_succ,Qt,NX h n,List.replicate_succ,Fq,h]
theorem vE {o:Oper} {u:List α} {kl kc:IntKind} (z:α) (h:mk by_ z n=some u) {t e:TypeId} {l c:Operand} (ho:o.op= .makeSlice t l c:=by rfl) (hd:o.dst=some d:=by rfl) (hN:Nat.blt d N=true:=by rfl) (ht:P.underlying t=some (.slice e):=by rfl) (hl:E.cell1 P 0 l=some (.int kl n):=by rfl) (hc:E.cell1 P 0 c=some (.int kc n):=by rfl) (hz:IN P e=some zs:=by rfl) (hfz:f z=zs:=by rfl) (hb:P.bytesOf e=by_:=by rfl) (b:P.cellsOf e=sz:=by rfl):
  Cc P N false E o=some (E.put (some d) (.one (.sl true e sz (AB f u)))):=by
 have hN':d<N:=by simpa[Bi]using hN
 unfold mk at h;split at h
 ·rename_i a
  injection h with h
  subst h;unfold Cc;rw[hd];simp only[Ar hN',ho,T6,ht,hl,hc,hz];rw[Ar ⟨trivial,a.1,by rw[hb];exact a.2.1,a.2.2⟩,NX hfz,b]
 cases h
section
variable {o:Oper}
structure At (cs:List TV) (q:List Nat) (row:List TV) (g:List TV->List TV) (cs':List TV):Prop where
 c:BN cs q=some row
 o:L7 cs q=true
 u:Dh cs q g=cs'
end
theorem At.one {g:List TV->List TV} {row' cs':List TV} {cs a:List TV} {c:Nat} {e s:Nat} (h:g a=row') (hc:cs[c]?=some (.sl true e s a):=by rfl) (hs:cs.set c (.sl true e s row')=cs':=by rfl):At cs [c] a g cs':=
 ⟨by simp[BN,hc],by simp[L7,hc],by simp[Dh,hc,h,hs]⟩
theorem sL (hf:∀x,(f x).length=sz) (hx:gi l n=some x) {k m:Nat} (hk:Nat.ble (k+m) sz=true):n.toNat*sz+k+m<=(AB f l).length:=by
 have:=Yn hf hx;rw[Df]at this;have h1:k+m<=sz:=by simpa[Mh]using hk
 omega
def SV.comps:SV->List SV
 | .tup ss=>ss
 |_=>[]
def St.ex (E:St) (n ix:Nat):St:={E with slots:=BX E.slots n (.tup ((E.slots n).comps.set ix (.one .junk)))}
theorem wO (n ix d:Nat) (s:SV) (h:EY P N ops rest ((E.ex n ix).put (some d) s) Q) (hs:Cc P N false E oo=some ((E.ex n ix).put (some d) s):=by rfl) (hg:Bp P ops E oo=some true:=by rfl):EY P N ops (oo::rest) E Q:=EY.op false hg hs h
theorem Fx.o (d:Nat) (s:SV) (h:Fx P N ops rest (E.put (some d) s) K) (hs:Hy P E oo=some s:=by rfl) (hg:Bp P ops E oo=some true:=by rfl) (hd:oo.dst=some d:=by rfl) (hN:Nat.blt d N=true:=by rfl):Fx P N ops (oo::rest) E K:=
 Fx.op s hg hd (by simpa[Bi]using hN) hs h
theorem sW {l:List Oper} {r:β} {b:Bool} (h:(bif b then tx else ty)=some r) (t:Nat) (ht:tx=some r->Fx P N ops l (E.rs t true) K) (hf:ty=some r->Fx P N ops l (E.rs t false) K) (hc:E.slots t=B b:=by rfl):Fx P N ops l E K:=by
 cases b
 ·rw[Wz hc]at hf;exact hf h
 rw[Wz hc]at ht;exact ht h
theorem De {g:α->List TV} (h:∀x,By (f x)=g x):∀l:List α,By (AB f l)=AB g l
 |[]=>rfl
 |x::l=>by
  have c:∀a b:List TV,By (a++b)=By a++By b:=by
   intro a b
   induction a with
   |nil=>rfl
   |cons t ts ih=>simp only[Ci,By,ih]
  rw[Fq,Fq,c,h,De h l]
theorem OT (h:∀x,Bb (f x)=false):∀l:List α,Bb (AB f l)=false
 |[]=>rfl
 |x::l=>by
  have c:∀a b:List TV,Bb (a++b)=(Bb a||Bb b):=by
   intro a b
   induction a with
   |nil=>rfl
   |cons t ts ih=>simp only[Ci,Bb,ih,Bool.or_assoc]
  rw[Fq,c,h,OT h l];rfl
def ad (a b:Int):Int:=IntKind.i64.wrap (a+b)
def sb (a b:Int):Int:=IntKind.i64.wrap (a-b)
def ml (a b:Int):Int:=IntKind.i64.wrap (a*b)
def qu (a b:Int):Int:=IntKind.i64.wrap (a.tdiv b)
def xr (a b:Int):Int:=IntKind.u32.wrap (BitVec.ofInt 32 a^^^BitVec.ofInt 32 b).toNat
def an (a b:Int):Int:=IntKind.u32.wrap (BitVec.ofInt 32 a&&&BitVec.ofInt 32 b).toNat
def bs (l:List UInt8):ByteArray:=⟨l.toArray⟩
section
variable (P:Program) (md:Region.Mode) (ops:Array Oper) (Q:Exit->Act->World->Prop) (T:Nat->Bool)
def TG:Nat->Array Bool->Act->World->Prop
 |0,listed,a,w=>Region.ready md ops listed=[]/\Q .normal a w
 |fuel+1,listed,a,w=>(Region.ready md ops listed=[]->Q .normal a w)/\
  ∀i∈Region.ready md ops listed,wpOp P ops Q i (λa' w'=>(T i=false->D1 w w')/\TG fuel (listed.setIfInBounds i true) a' w') a w
end
theorem TF {Q:Exit->Act->World->Prop}:∀(b:Nat) (listed:Array Bool) (a:Act) (w:World),TG P md ops Q T b listed a w->wpAny P md ops Q b listed a w
 |0,_,_,_,h=>h
 |b+1,_,_,_,h=>⟨h.1,λi hi=>wpOp_mono (λa' w' h'=>TF b _ a' w' h'.2) (h.2 i hi)⟩
section
variable (md:Region.Mode) (ops:Array Oper)
def TH (i:Nat):Nat->Nat->Bool
 |0,_=>false
 |n+1,j=>match ops[j]? with
  |some o=>o.after.any λe=>Region.binds md e&&(e.on==i||TH i n e.on)
  |none=>false
end
def Vz (md:Region.Mode) (ops:Array Oper) (listed:Array Bool):Prop:=∀k o,ops[k]?=some o->listed.getD k false=true->∀e∈o.after,Region.binds md e=true->listed.getD e.on false=true
theorem Qv {i:Nat} (hc:Vz md ops listed):∀{n j:Nat} {o:Oper},ops[j]?=some o->(∀e∈o.after,Region.binds md e=true->listed.getD e.on false=true)->TH md ops i n j=true->listed.getD i false=true
 |0,j,o,_,_,h=>by cases h
 |n+1,j,o,ho,ha,h=>by
  simp only[TH,ho]at h;obtain⟨e,he,hb⟩:=Array.any_eq_true'.1 h;simp only[Ai,BM,DF]at hb;have h1:=ha e he hb.1
  rcases hb.2 with h2|h2
  ·rw[<-h2];exact h1
  cases hk:ops[e.on]? with
  |none=>
   cases n with
   |zero=>cases h2
   |succ n=>simp[TH,hk]at h2
  |some ok=>exact Qv hc hk (hc e.on ok hk h1) h2
theorem II (hc:Vz md ops listed) (hr:j∈Region.ready md ops listed):Vz md ops (listed.setIfInBounds j true):=by
 intro k o hk hl e he hb
 have a:∀m,listed.getD m false=true->(listed.setIfInBounds j true).getD m false=true:=λm hm=>getD_set_true hm
 by_cases b:k=j
 ·subst b;obtain⟨_,o',ho',c⟩:=mem_ready.1 hr;rw[hk]at ho'
  injection ho' with ho'
  subst ho';exact a _ (c e he hb)
 rw[getD_set_ne false (Ep b)]at hl;exact a _ (hc k o hk hl e he hb)
theorem JT {Q:Exit->Act->World->Prop} {i:Nat} {oi:Oper} {n:Nat} (hi:ops[i]?=some oi) (m:∀(j:Nat) (o:Oper) cs b,ops[j]?=some o->o.op≠ .select cs b) (hQ:∀c a w,Q (.panic c) (a.put oi.dst v) w->Q (.panic c) a w) (h7:T i=false) (hT:∀j,T j=true->TH md ops i n j=true):
  ∀(d:Nat) (listed:Array Bool) (a:Act) (w:World),Vz md ops listed->
   (∀j oj,ops[j]?=some oj->j≠i->listed.getD j true=false->(∀e∈oj.after,Region.binds md e=true->e.on≠i)->oi.apart ops oj=true)->
   i∈Region.ready md ops listed->YieldsIf P ops (D1 w) oi v a->
   TG P md ops Q T d (listed.setIfInBounds i true) (a.put oi.dst v) w->TG P md ops Q T (d+1) listed a w:=by
 intro d
 induction d with
 |zero=>
  intro listed a w _ _ hr hy H;refine⟨λh=>(by rw[h]at hr;cases hr),λj hj=>?_⟩;by_cases f:j=i
  ·subst f;exact hy.wpOp hi D1.refl ⟨λ_=>D1.refl,H⟩
  have:=ready_mono hj f;rw[H.1]at this;cases this
 |succ d ih=>
  intro listed a w t g hr hy H;refine⟨λh=>(by rw[h]at hr;cases hr),λj hj=>?_⟩;by_cases f:j=i
  ·subst f;exact hy.wpOp hi D1.refl ⟨λ_=>D1.refl,H⟩
  have h1:=H.2 j (ready_mono hj f);obtain⟨p,oj,l,q⟩:=mem_ready.1 hj;have r:listed.getD i false=false:=by
   have h0:=(mem_ready.1 hr).1
   rcases Cv i listed.size with h'|h'
   ·simpa[h']using h0
   simp[EX h']
  have s:T j=false:=by
   cases s:T j with
   |false=>rfl
   |true=>
    have:=Qv t l q (hT j s);rw[r]at this;cases this
  have u:∀e∈oj.after,Region.binds md e=true->e.on≠i:=λe he hb z=>by
   have h1:=q e he hb;rw[z,r]at h1;cases h1
  have h2:=wpOp_putIf l (g j oj l f p u) (λcs b=>m i oi cs b hi) (λcs b=>m j oj cs b l) hQ hy h1;have hfree':∀k ok,ops[k]?=some ok->k≠i->(listed.setIfInBounds j true).getD k true=false->
    (∀e∈ok.after,Region.binds md e=true->e.on≠i)->oi.apart ops ok=true:=λk ok hk h4 x h5=>by
   refine g k ok hk h4 ?_ h5;by_cases y:j=k
   ·subst y;exact p
   rw[getD_set_ne true y]at x;exact x
  refine wpOp_mono (λa' w' h3=>⟨h3.2.1,ih (listed.setIfInBounds j true) a' w' (II t hj) hfree' (ready_mono hr (Ep f)) ?_ ?_⟩) h2
  ·exact h3.1.imp (λ⟨p1,p2⟩=>⟨p1,λw2 h6=>p2 w2 ((h3.2.1 s).trans h6)⟩) id
  rw[Array.setIfInBounds_comm _ _ f];exact h3.2.2
def SZ (P:Program) (N:Nat) (ops:Array Oper) (ts:List Nat) (b:Nat) (listed:Array Bool) (E:St) (Q:Exit->St->Prop):Prop:=(∀c E,Q (.panic c) E->False)->Vz .any ops listed->∀(w0:Base) (FA UA:List Nat) (w:World) (a:Act) (blk:Root->Nat) (FS US:Root->List Nat),Cu w0 FA UA N w a E blk FS US->FS .hand=[]->US .hand=[]->TG P .any ops (bC w0 FA UA N Q) (λi=>ts.contains i) b listed a w
def Vy (P:Program) (N:Nat) (ops:Array Oper) (ts:List Nat) (i:Nat) (E:St) (K:St->Prop) (Q:Exit->St->Prop):Prop:=∀(w0:Base) (FA UA:List Nat) (w:World) (a:Act) (blk:Root->Nat) (FS US:Root->List Nat),Cu w0 FA UA N w a E blk FS US->FS .hand=[]->US .hand=[]->
  wpOp P ops (bC w0 FA UA N Q) i (λa' w'=>(ts.contains i=false->D1 w w')/\∃E' blk' FS' US',K E'/\Cu w0 FA UA N w' a' E' blk' FS' US'/\FS' .hand=[]/\US' .hand=[]) a w
theorem Vy.op {ts:List Nat} (i:Nat) {o:Oper} (mv:Bool) (h:K E') (hs:Cc P N mv E o=some E') (ho:ops[i]?=some o) (hg:Bp P ops E o=some true) (hk:(kp o||ts.contains i)=true):Vy P N ops ts i E K Q:=by
 intro w0 FA UA w a blk FS US hr hF hU;unfold wpOp;simp only[ho,BS hr hg,BU];refine .inl ((NH hr hF hU hs).wp λw' v blk' FS' US' k1 k2 k3 k4=>⟨λht=>k4 (by rw[ht,Mj]at hk;exact hk),_,_,_,_,h,k1,k2,k3⟩)
theorem Vy.call {ts:List Nat} {f:FuncId} {n:Nat} (i:Nat) {o:Oper} {args:Array Operand} {tys:Array TypeId} (hi:ops[i]?=some o) (ho:o.op= .call {callee:= .value (.func f),args:=args,argTypes:=tys}) (hf:Yk P f) (hg:Bp P ops E o=some true) (hN:∀d,o.dst=some d->d<N) (l:List (Bool×TypeId×Operand)) (hl:l.map (λx=>x.2.2)=args.toList) (b:(l.all (λx=>!x.1)||ts.contains i)=true) {c:SV} (e:A3 P f as c (List.replicate n .gone)) (he:T7 P E o.dst l as c E') (h:K E'):Vy P N ops ts i E K Q:=by
 intro w0 FA UA w a blk FS US hr hF hU;unfold wpOp;simp only[hi,BS hr hg,BU];exact .inl (WS hr hF hU ho hf hN hl e he λw' v blk' FS' US' k1 k2 k3 k4=>⟨λht=>k4 (by rw[ht,Mj]at b;exact b),_,_,_,_,h,k1,k2,k3⟩)
theorem oD {ts:List Nat} (h:Q .normal E) (hr:Region.ready .any ops listed=[]:=by decide+kernel):SZ P N ops ts fuel listed E Q:=
 λ_ _ w0 FA UA w a blk FS US k1 k2 k3=>by
  have hq:bC w0 FA UA N Q .normal a w:=⟨E,blk,FS,US,h,k1,k2,k3⟩
  cases fuel with
  |zero=>exact⟨hr,hq⟩
  |succ n=>exact⟨λ_=>hq,by rw[hr];simp⟩
section
variable {ts:List Nat}
theorem SZ.all (rs:List Nat) (h:∀i∈rs,Vy P N ops ts i E (λE'=>SZ P N ops ts fuel (listed.setIfInBounds i true) E' Q) Q) (hr:Region.ready .any ops listed=rs) (b:rs≠ []):SZ P N ops ts (fuel+1) listed E Q:=
 λhQ hc w0 FA UA w a blk FS US k1 k2 k3=>⟨λh0=>absurd (hr▸h0) b,λi hi=>by
  have hi':i∈rs:=hr▸hi
  exact wpOp_mono (λa' w' ⟨m0,E',blk',FS',US',m1,m2,m3,m4⟩=>⟨m0,m1 hQ (II hc hi) _ _ _ _ _ _ _ _ m2 m3 m4⟩) (h i hi' _ _ _ _ _ _ _ _ k1 k2 k3)⟩
end
def Pf (ops:Array Oper) (ts:List Nat) (n i:Nat) (listed:Array Bool):Bool:=Region.noSelect ops&&Region.free .any ops listed i&&(Region.ready .any ops listed).contains i&&!ts.contains i&&ts.all λj=>TH .any ops i n j
theorem Rz {ts:List Nat} {n i:Nat} (h:Pf ops ts n i listed=true):Region.noSelect ops=true/\Region.free .any ops listed i=true/\i∈Region.ready .any ops listed/\ts.contains i=false/\∀j,ts.contains j=true->TH .any ops i n j=true:=by
 simp only[Pf,Ai,CH,Ca]at h;obtain⟨⟨⟨⟨h1,h2⟩,h3⟩,h4⟩,h5⟩:=h;exact⟨h1,h2,by simpa using h3,h4,λj hj=>h5 j (by simpa using hj)⟩
theorem SZ.take {ts:List Nat} (n i:Nat) {o:Oper} (d:Nat) (s:SV) (h:SZ P N ops ts fuel (listed.setIfInBounds i true) (E.put (some d) s) Q) (hs:Hy P E o=some s) (ho:ops[i]?=some o) (f:Pf ops ts n i listed=true) (hg:Bp P ops E o=some true) (hd:o.dst=some d) (hN:Nat.blt d N=true):SZ P N ops ts (fuel+1) listed E Q:=by
 intro hQ hc w0 FA UA w a blk FS US k1 k2 k3;obtain⟨e1,e2,e3,e4,e5⟩:=Rz f;obtain⟨v,U,h1,h2,h3⟩:=Uc k1 hs;refine JT (v:=v) (n:=n) ho (Region.noSelect_spec e1) (λc a w hx=>?_) e4 e5 fuel listed a w hc (Region.free_spec ho e2) e3 (.inl ⟨BS k1 hg,λw2 e=>?_⟩) ?_
 ·obtain⟨E',blk',FS',US',m1,_⟩:=hx;exact(hQ c E' m1).elim
 ·exact h1 w2 (λr hr=>⟨λb hb=>e.2 b (k1.inF r b hb).2,λb hb=>e.2 b (k1.inU r b hb).2⟩)
 rw[hd];refine h hQ (II hc e3) _ _ _ _ _ _ _ _ (k1.put (by simpa[Bi]using hN) h2 (Kr k1 h3 _)) ?_ ?_
 ·rw[Bg (by simp),k2]
 rw[Bg (by simp),k3]
theorem Y8 {ts:List Nat} (n i:Nat) {o:Oper} (d:Nat) (h:SZ P N ops ts fuel (listed.setIfInBounds i true) (E.put (some d) (.tup [])) Q) (ho:ops[i]?=some o) (b:Pf ops ts n i listed=true) (hg:Bp P ops E o=some false) (hd:o.dst=some d) (hN:Nat.blt d N=true):SZ P N ops ts (fuel+1) listed E Q:=by
 intro hQ hc w0 FA UA w a blk FS US k1 k2 k3;obtain⟨e1,e2,e3,e4,e5⟩:=Rz b;refine JT (v:=undef) (n:=n) ho (Region.noSelect_spec e1) (λc a w hx=>?_) e4 e5 fuel listed a w hc (Region.free_spec ho e2) e3 (.inr ⟨BS k1 hg,rfl⟩) ?_
 ·obtain⟨E',blk',FS',US',m1,_⟩:=hx;exact(hQ c E' m1).elim
 rw[hd];refine h hQ (II hc e3) _ _ _ _ _ _ _ _ (k1.put (F:=[]) (U:=[]) (by simpa[Bi]using hN) (by simp only[DD];exact⟨[],rfl,by simp[L3]⟩) VW.none) ?_ ?_
 ·rw[Bg (by simp),k2]
 rw[Bg (by simp),k3]
theorem e8 {id:Nat} (n:Nat) (ts:List Nat) (hm:P.follows .mixedOrders=true) (hQ:∀c E,Q (.panic c) E->False) (h:SZ P N ops ts n (Array.replicate n false) E Q) (hn:ops.size=n:=by rfl):Wp P N (.region id ops true) E Q:=by
 subst hn;intro w0 FA UA w a blk FS US k1 k2 k3;refine wp_region_any hm (TF (T:=λi=>ts.contains i) _ _ _ _ ?_);obtain⟨FS',US',m1,m2,m3⟩:=k1.drop (w':={w with drawn:=w.drawn+1}) (A5 _) rfl rfl rfl (λ_ _ _=>rfl);refine h hQ (λk o hk hl=>?_) _ _ _ _ _ _ _ _ m1 m2 m3;exfalso;rw[D3]at hl
 rcases Cv k ops.size with h'|h'
 ·simp[h']at hl
 simp[h']at hl
theorem SZ.o {ts:List Nat} (n i d:Nat) (s:SV) {o:Oper} (h:SZ P N ops ts fuel (listed.setIfInBounds i true) (E.put (some d) s) Q) (ho:ops[i]?=some o:=by rfl) (hs:Hy P E o=some s:=by rfl) (a:Pf ops ts n i listed=true:=by decide+kernel) (hg:Bp P ops E o=some true:=by rfl) (hd:o.dst=some d:=by rfl) (hN:Nat.blt d N=true:=by rfl):SZ P N ops ts (fuel+1) listed E Q:=SZ.take n i d s h hs ho a hg hd hN
theorem tC {ts:List Nat} {r:β} {b:Bool} (h:(bif b then tx else ty)=some r) (t:Nat) (ht:tx=some r->SZ P N ops ts fuel listed (E.rs t true) Q) (hf:ty=some r->SZ P N ops ts fuel listed (E.rs t false) Q) (hc:E.slots t=B b:=by rfl):SZ P N ops ts fuel listed E Q:=by
 cases b
 ·rw[Wz hc]at hf;exact hf h
 rw[Wz hc]at ht;exact ht h
theorem Vy.o {ts:List Nat} (i d:Nat) (s:SV) {o:Oper} (h:K (E.put (some d) s)) (ho:ops[i]?=some o:=by rfl) (hs:Cc P N false E o=some (E.put (some d) s):=by rfl) (hg:Bp P ops E o=some true:=by rfl) (hk:(kp o||ts.contains i)=true:=by rfl):Vy P N ops ts i E K Q:=Vy.op i false h hs ho hg hk
theorem Vy.b {ts:List Nat} (i:Nat) (m:List (Root×List TV)) (d:Nat) (xs:List TV) {o:Oper} (h:K ((kG E m).newBox d xs)) (ho:ops[i]?=some o:=by rfl) (hs:Cc P N false E o=some ((kG E m).newBox d xs):=by rfl) (hg:Bp P ops E o=some true:=by rfl) (hk:(kp o||ts.contains i)=true:=by rfl):Vy P N ops ts i E K Q:=Vy.op i false h hs ho hg hk
theorem wP {ts:List Nat} (i:Nat) (mv:Bool) (m:List (Root×List TV)) (d:Nat) (s:SV) {o:Oper} (h:K ((kG E m).put (some d) s)) (ho:ops[i]?=some o:=by rfl) (hs:Cc P N mv E o=some ((kG E m).put (some d) s):=by rfl) (hg:Bp P ops E o=some true:=by rfl) (hk:(kp o||ts.contains i)=true:=by rfl):Vy P N ops ts i E K Q:=Vy.op i mv h hs ho hg hk
theorem Vy.s {ts:List Nat} (i:Nat) (m:List (Root×List TV)) (rt:Root) (cs:List TV) {o:Oper} (h:K ((kG E m).setRoot rt cs)) (ho:ops[i]?=some o:=by rfl) (hs:Cc P N false E o=some ((kG E m).setRoot rt cs):=by rfl) (hg:Bp P ops E o=some true:=by rfl) (hk:(kp o||ts.contains i)=true:=by rfl):Vy P N ops ts i E K Q:=Vy.op i false h hs ho hg hk
theorem wQ {ts:List Nat} (i n ix d:Nat) (s:SV) {o:Oper} (h:K ((E.ex n ix).put (some d) s)) (ho:ops[i]?=some o:=by rfl) (hs:Cc P N false E o=some ((E.ex n ix).put (some d) s):=by rfl) (hg:Bp P ops E o=some true:=by rfl) (hk:(kp o||ts.contains i)=true:=by rfl):Vy P N ops ts i E K Q:=Vy.op i false h hs ho hg hk
def oI (n:Int):Prop:= -9223372036854775808<=n/\n<=9223372036854775807
def oB (b:Bool):Prop:=True
def oS (s:ByteArray):Prop:=s.size<=9223372036854775807
def ol (o:α->Prop) (l:List α):Prop:=l.length<=9223372036854775807/\∀x∈l,o x
def Es (P:Program) (t:TypeId) (c:α->List TV) (o:α->Prop):Prop:=∀{H:Type} (enc:TypeId×Value->H) (w:World) (d:Nat) (e:Nat) (cs:List Value) (x:DataW H×List MemPlace),DataW.trod enc P w d (λ_=>true) true e t cs=some x->
  ∃a U,o a/\Bl w (c a) cs [] U/\∀b∈U,b<w.heap.size
theorem HJ {t:TV} (h:Cd w t v F U):Bl w [t] [v] F U:=by
 simp only[Bl];exact⟨v,[],F,[],U,[],rfl,by simp,by simp,h,rfl,rfl,rfl⟩
theorem i9 {t:TypeId} (ht:P.underlying t=some (.int k)):Es P t (λn:Int=>[.int k n]) (λn=>k.min<=n/\n<=k.max):=by
 intro H enc w b a cs x h
 cases a with
 |zero=>simp[DataW.trod]at h
 |succ a=>
  simp only[DataW.trod,ht]at h;split at h<;>rename_i h1<;>try (first|(injection h1 with h1;cases h1;done)|(cases h1;done))
  all_goals first|(cases h;done)|skip
  rename_i k' n;split at h
  ·rename_i hk;simp only[Ak,TypeDesc.int.injEq]at h1;subst h1;obtain⟨rfl,hw⟩:=hk;simp only[Lit.wf,Ai,A4]at hw;exact⟨n,[],hw,HJ (by simp[Cd]),by simp⟩
  cases h
theorem dH {t:TypeId} (ht:P.underlying t=some .bool):Es P t (λb:Bool=>[.bool b]) (λ_=>True):=by
 intro H enc w c a cs x h
 cases a with
 |zero=>simp[DataW.trod]at h
 |succ a=>
  simp only[DataW.trod,ht]at h;split at h<;>rename_i h1<;>try (first|(injection h1 with h1;cases h1;done)|(cases h1;done))
  all_goals first|(cases h;done)|skip
  rename_i b;exact⟨b,[],trivial,HJ (by simp[Cd]),by simp⟩
theorem XH {t:TypeId} (ht:P.underlying t=some .string):Es P t (λs:ByteArray=>[.str s]) (λs=>s.size<=9223372036854775807):=by
 intro H enc w b a cs x h
 cases a with
 |zero=>simp[DataW.trod]at h
 |succ a=>
  simp only[DataW.trod,ht]at h;split at h<;>rename_i h1<;>try (first|(injection h1 with h1;cases h1;done)|(cases h1;done))
  all_goals first|(cases h;done)|skip
  rename_i s;split at h
  ·rename_i hs;exact⟨s,[],by simpa[maxLen]using hs,HJ (by simp[Cd]),by simp⟩
  cases h
theorem F9 {t e:TypeId} {c:α->List TV} {o:α->Prop} (ht:P.underlying t=some (.slice e)) (q:P.cellsOf e=sz) (h0:0<sz) (hc:∀a,(c a).length=sz) (h:Es P e c o):
  Es P t (λl:List α=>[.sl false e sz (AB c l)]) (λl=>l.length<=9223372036854775807/\∀a∈l,o a):=by
 intro H enc w d h7 cs x hx
 rcases Go.Deep.open_slice ht hx with⟨rfl,_⟩|⟨a,len,cap,m,n,D,Pl,rfl,hb,f,r,hm,_,g⟩
 ·refine⟨[],[],⟨by simp,by simp⟩,HJ ?_,by simp⟩;simp only[Cd];exact⟨none,0,0,[],[],[],rfl,A5 _,by simp,λi u hi=>by simp at hi,by simp[AB,Bl],by simp,by simp,by simp⟩
 simp only[BU]at hm;have s:∀k,k<=len->∃(l:List α) (vs:List Value) (U:List Nat),l.length=k/\(∀a∈l,o a)/\vs.length=k*sz/\Bl w (AB c l) vs [] U/\(∀i u,vs[i]?=some u->w.cell? (a.add i)=some u)/\∀b∈U,b<w.heap.size:=by
  intro k
  induction k with
  |zero=>intro _;exact⟨[],[],[],rfl,by simp,by simp,by simp[AB,Bl],by simp,by simp⟩
  |succ k ih=>
   intro hk;obtain⟨l,vs,U,h1,h2,h3,h4,h5,h6⟩:=ih (by omega);obtain⟨cs',k1,k2⟩:=g k (by omega);obtain⟨y,V,g1,g2,g3⟩:=h enc w d n cs' _ k2;obtain⟨_,k3,k4⟩:=World.cells?_some k1;rw[q]at k1 k3 k4;refine⟨l++ [y],vs++cs',U++V,by simp[h1],?_,?_,?_,?_,?_⟩
   ·intro a ha
    rcases Al.1 ha with ha|ha
    ·exact h2 a ha
    rw[A7.1 ha];exact g1
   ·rw[Ah,h3,k3,Df]
   ·rw[Oy];have:=F8 h4 (show Bl w (AB c [y]) cs' [] V by simpa[AB]using g2);simpa using this
   ·intro i u hi;by_cases v:i<vs.length
    ·rw[AS v]at hi;exact h5 i u hi
    rw[AW (by omega)]at hi;have j:i-vs.length<sz:=by
     have:=(Ag.1 hi).1;omega
    have:=k4 (i-vs.length) j;rw[hi,TI.add_add]at this;rw[<-this];congr 2;omega
   intro b hb
   rcases Al.1 hb with hb|hb
   ·exact h6 b hb
   exact g3 b hb
 obtain⟨l,vs,U,h1,h2,h3,h4,h5,h6⟩:=s len (A5 _);have h8:len<=9223372036854775807:=by simp only[maxLen]at r;omega
 by_cases z:len=0
 ·subst z;have:vs=[]:=Ay (by omega);subst this;refine⟨l,U,⟨by omega,h2⟩,HJ ?_,h6⟩;simp only[Cd];exact⟨some a,0,cap,[],U,[],rfl,f,by simp,λi u hi=>by simp at hi,h4,by simp,by simp,by simp⟩
 have p:a.block<w.heap.size:=by
  obtain⟨cs',k1,_⟩:=g 0 (by omega);have:=World.cells?_block k1 (by omega)
  rwa [Fs]at this
 refine⟨l,a.block::U,⟨by omega,h2⟩,HJ ?_,?_⟩
 ·simp only[Cd];exact⟨some a,len,cap,vs,U,[a.block],rfl,f,h3,λi u hi=>⟨a,len,cap,rfl,h5 i u hi⟩,h4,by simp,.inl (by simp[BH,Value.ownBlock]),by simp⟩
 intro b hb
 rcases B6.1 hb with rfl|hb
 ·exact p
 exact h6 b hb
def Y7 (P:Program) (off:Nat) (fs:List Field) (c:α->List TV) (o:α->Prop):Prop:=∀{H:Type} (enc:TypeId×Value->H) (w:World) (d:Nat) (e:Nat) (cs:List Value) (xs:List (DataW H×List MemPlace)),fs.mapM (λf=>DataW.trod enc P w d (λ_=>true) true e f.type ((cs.drop f.offset).take (P.cellsOf f.type)))=some xs->cs.length=off+(fs.map λf=>P.cellsOf f.type).sum->
  ∃a U,o a/\Bl w (c a) (cs.drop off) [] U/\∀b∈U,b<w.heap.size
theorem Ei:Y7 P off [] (λ_:Unit=>[]) (λ_=>True):=by
 intro H enc w a b cs xs _ hl;refine⟨(),[],trivial,?_,by simp⟩;rw[Cx (by simp at hl;omega)];simp[Bl]
theorem Bv {n:Nat} {f:Field} {fs:List Field} {c:α->List TV} {o:α->Prop} (i:f.offset=off) (hn:P.cellsOf f.type=n) (h:Es P f.type c o) (k:Y7 P (off+n) fs c' o'):
  Y7 P off (f::fs) (λx:α×β=>c x.1++c' x.2) (λx=>o x.1/\o' x.2):=by
 intro H enc w e g cs xs d hl;rw[List.mapM_cons]at d;obtain⟨y,h1,d⟩:=Ao.1 d;obtain⟨ys,h2,d⟩:=Ao.1 d;subst i hn;obtain⟨a,U,h3,h4,h5⟩:=h enc w e g _ y h1;obtain⟨b,V,k1,k2,k3⟩:=k enc w e g cs ys h2 (by simp only[BO,JN]at hl;omega);refine⟨(a,b),U++V,⟨h3,k1⟩,?_,?_⟩
 ·have:=F8 h4 k2;rw[AC]at this
  rwa [<-DG,Bj]at this
 intro z hz
 rcases Al.1 hz with hz|hz
 ·exact h5 z hz
 exact k3 z hz
theorem Dp {t:TypeId} {c:α->List TV} {o:α->Prop} (g:β->α) (ht:P.underlying t=some (.struct fs)) (hn:P.cellsOf t=(fs.toList.map λf=>P.cellsOf f.type).sum) (h:Y7 P 0 fs.toList c' o') (hg:∀b,o' b->o (g b)/\c (g b)=c' b):Es P t c o:=by
 intro H enc w d a cs x hx
 cases a with
 |zero=>simp[DataW.trod]at hx
 |succ a=>
  simp only[DataW.trod,ht]at hx;split at hx
  ·rename_i hl;obtain⟨xs,e,_⟩:=AN.1 hx;obtain⟨b,U,h1,h2,h3⟩:=h enc w d a cs xs e (by rw[hl,hn];simp);obtain⟨h4,h5⟩:=hg b h1;exact⟨g b,U,h4,by rw[h5];simpa using h2,h3⟩
  cases hx
theorem qC {H:Type} {d:DataW H} {ps:List MemPlace} {t:TypeId} {c:α->List TV} {o:α->Prop} {enc:TypeId×Value->H} {cs:Array Value} (h:Es P t c o) (hv:v= .agg cs) (k:DataW.Trod enc P w 0 (λ_=>true) true t v d ps):
  ∃a U,o a/\TZ w (.agg (c a)) v [] U/\∀b∈U,b<w.heap.size:=by
 obtain⟨n,hn⟩:=k;obtain⟨a,U,h1,h2,h3⟩:=h enc w 0 n _ _ hn;subst hv;refine⟨a,U,h1,?_,h3⟩;simp only[TZ];exact⟨cs.toList,by simp,by simpa[Value.cells]using h2⟩
def St.without (E:St) (r:Root):St:={E with boxes:=BX E.boxes r none,ver:=BX E.ver r (E.ver r+1),gen:=BX E.gen r (E.gen r+1)}
theorem WZ {r s:Root} (h:s≠r):(E.without r).root s=E.root s:=by
 cases s<;>simp[St.without,St.root,BX,h]
theorem Cu.without {w0:Base} {a:Act} (h:Cu w0 FA UA N w a E blk FS US) (hF:FS .hand=[]) (hU:US .hand=[]) (hm:r.mem=true):
  Cu w0 FA UA N w a (E.without r) blk (BX (BX FS r []) .hand (FS r)) (BX (BX US r []) .hand (US r)):=by
 have c:r≠ .hand:=by rintro rfl;cases hm
 have d:∀s,BW w w a a E (E.without r) blk blk s:=by
  intro s;by_cases hs:s=r
  ·subst hs;exact⟨.inl (by simp[St.without,BX]),.inl (by simp[St.without,BX])⟩
  by_cases hh:s= .hand
  ·subst hh;exact Fz (by simp[St.without,BX,hs]) (by simp[St.without,BX,hs]) (by simp[St.root,h.nohand])
  exact D4 h (by simp[St.without,BX,hs]) (by simp[St.without,BX,hs]) (WZ hs) (λ_ _=>rfl) (λ_=>rfl) (λ_ _=>rfl) (λ_ _=>rfl)
 refine h.two (r1:=r) (r2:= .hand) (L1:=[]) (L2:=FS r) (V1:=[]) (V2:=US r) c (by simpa using h.nodup r) (λb hb=>⟨.inl (by simpa using hb),(h.inF r b (by simpa using hb)).2⟩)
  (λb hb=> .inl ⟨r,by simpa using hb⟩) (A5 _) rfl rfl rfl (λ_ _ _ _=>rfl) d (λn _ _=>⟨rfl,rfl⟩) (λs _ hs _=>⟨by simp[St.without,BX,hs],rfl⟩) ?_ trivial ?_ h.len h.nodef
 ·cases r with
  |slot n=>cases hm
  |hand=>cases hm
  |box n=>exact .inl ⟨by simp[St.without,BX],rfl,rfl⟩
  |ext n=>exact .inl ⟨by simp[St.without,BX],rfl,rfl⟩
 simp[St.without,BX,Ep c,h.nohand]
theorem U7 {a:Act}:∀{l:List (Bool×TypeId×Operand)},mN w a l (List.replicate l.length none) [] []
 |[]=>⟨rfl,rfl⟩
 |_::l=>U7 (l:=l)
section
variable {w0:Base} {a:Act}
theorem nT {f:FuncId} {x:Operand} {l:List (Bool×TypeId×Operand)} {n:Nat} {K:Act->World->Prop} {Q:Exit->Act->World->Prop} (h:Cu w0 FA UA N w a E blk FS US) (hF:FS .hand=[]) (hU:US .hand=[]) {o:Oper} {args:Array Operand} {tys:Array TypeId} (ho:o.op= .call {callee:= .value (.func f),args:=args,argTypes:=tys}) (hf:Yk P f) (hN:∀d,o.dst=some d->d<N) (hl:x::l.map (λx=>x.2.2)=args.toList) (hm:r.mem=true) (hx:E.ptr? x=some (r,[],0)) {cells cells':List TV} (hc:E.boxes r=some cells) (d0:cells'.length=cells.length) {res:SV} {c:Bool} (b5:Ia P (E.without r) l (List.replicate l.length none)=some (as,c)) (a3:c=true\/BG res=false/\Bb cells'=false) (hg:A3 P f (.ext cells::as) res (.ext cells'::List.replicate n .gone)) (hK:∀w' v blk' FS' US',Cu w0 FA UA N w' (a.put o.dst v) (((E.setRoot r cells').bump r).put o.dst res) blk' FS' US'->FS' .hand=[]->US' .hand=[]->K (a.put o.dst v) w'):o.wp P a w K Q:=by
 have a6:r≠ .hand:=by rintro rfl;cases hm
 have k2:=h.without hF hU hm;obtain⟨U',k5,k6⟩:=K0 k2 U7 b5;have a7:∃i T F,w.heap[blk r]?=some (.cells i T (0,0))/\Bl w cells i.toList F (US r)/\FS r=blk r::F:=by
  rcases h.box r hm with⟨h1,_⟩|⟨cs,i,T,F,h1,h2,h3,h4⟩
  ·rw[hc]at h1;cases h1
  rw[hc]at h1;injection h1 with h1;subst h1;exact⟨i,T,F,h2,h3,h4⟩
 obtain⟨i,T,F,b2,b3,b4⟩:=a7;obtain⟨a8,ad,h9,a9⟩:=IU h hx;have b6:ad=⟨blk r,0,none⟩:=by
  cases r with
  |slot n=>cases hm
  |hand=>cases hm
  |box n=>simp[pa,Addr.add]at h9;exact h9.symm
  |ext n=>simp[pa,Addr.add]at h9;exact h9.symm
 subst b6;have b0:cells≠ []:=by
  rintro rfl
  cases r with
  |slot n=>cases hm
  |hand=>cases hm
  |box n=>simp[St.place,St.root,hc,BN]at a8
  |ext n=>simp[St.place,St.root,hc,BN]at a8
 have b1:a.eval x::l.map (λx=>a.eval x.2.2)=(args.map a.eval).toList:=by
  rw[Sz,<-hl,BO,Gm];rfl
 have p:Iz w (.ext cells::as) (args.map a.eval).toList (FS r++ []) (US r++U'):=by
  rw[<-b1];exact⟨_,_,FS r,[],US r,U',rfl,rfl,rfl,⟨blk r,i,T,F,a9,b2,b3,b4,b0⟩,k5⟩
 rw[Aw]at p;have b7:∀s b,b∈BX (BX US r []) .hand (US r) s->∃s',b∈US s':=by
  intro s b hb;by_cases hs:s= .hand
  ·subst hs;rw[BA]at hb;exact⟨r,hb⟩
  rw[Bg hs]at hb;by_cases k:s=r
  ·subst k;rw[BA]at hb;cases hb
  rw[Bg k]at hb;exact⟨s,hb⟩
 have b8:∀s b,s≠ .hand->b∈BX (BX FS r []) .hand (FS r) s->s≠r/\b∈FS s:=by
  intro s b hs hb;rw[Bg hs]at hb;by_cases k:s=r
  ·subst k;rw[BA]at hb;cases hb
  rw[Bg k]at hb;exact⟨k,hb⟩
 have k6':∀b∈U',(∃s,b∈US s)\/(c=false/\∃s,s≠r/\b∈FS s):=by
  intro b hb
  rcases k6 b hb with h4|⟨s,h4⟩|⟨h5,s,h6,h4⟩
  ·cases h4
  ·exact .inl (b7 s b h4)
  exact .inr ⟨h5,s,b8 s b h6 h4⟩
 have a4:∀b∈FS r,b∉US r++U':=by
  intro b hb hb'
  rcases Al.1 hb' with hb'|hb'
  ·exact h.disU r r b hb hb'
  rcases k6' b hb' with⟨s,h4⟩|⟨_,s,h5,h4⟩
  ·exact h.disU r s b hb h4
  exact h.dis r s (Ep h5) b hb h4
 have t:=hg w _ (FS r) (US r++U') p (h.nodup r) a4 (by
  intro b hb
  rcases Al.1 hb with hb|hb
  ·exact(h.inF r b hb).2
  rcases Al.1 hb with hb|hb
  ·exact(h.inU r b hb).2
  rcases k6' b hb with⟨s,h4⟩|⟨_,s,h5,h4⟩
  ·exact(h.inU s b h4).2
  exact(h.inF s b h4).2)
 unfold Oper.wp;rw[HI ho hf];simp only[Oper.upon];rw[Array.toArray_toList]at t;refine Calls.mono t ?_;rintro e w' ⟨v,Fr,Ur,G,V,rfl,g⟩;have u:=g.fin;rw[<-b1]at u;simp only[Iz]at u;obtain⟨v1,vs1,G1,G2,V1,V2,e1,rfl,rfl,⟨b,cur',T',F0,g1,g2,g3,rfl,g5⟩,a5⟩:=u;obtain⟨rfl,rfl⟩:=Qp a5
 injection e1 with e1 e2
 rw[<-e1,a9]at g1
 injection g1 with g1
 injection g1 with g1
 injection g1 with g1
 subst g1;have m:=g.nodup;have a1:=g.dis;have z:=g.inF;have a2:=g.inU;simp only[Aw]at m a1 z a2;have hV:∀b∈Ur++V1,(∃s,b∈US s)\/((b∈FS r\/w.heap.size<=b)/\b<w'.heap.size):=by
  intro b hb;obtain⟨h4,h5⟩:=a2 b hb
  rcases h4 with h4|h4|h4
  ·rcases Al.1 h4 with h4|h4
   ·exact .inl ⟨r,h4⟩
   rcases k6' b h4 with h6|⟨h6,s,h7,h8⟩
   ·exact .inl h6
   rcases a3 with a3|⟨c1,c2⟩
   ·rw[a3]at h6;cases h6
   have n1:=NF g.res c1;have n2:=JZ g3 c2;subst n1;subst n2;cases hb
  ·exact .inr ⟨.inl h4,h5⟩
  exact .inr ⟨.inr h4,h5⟩
 have a0:∀j,((E.setRoot r cells').bump r).place r [] j=cells'[j]? :=by
  intro j
  cases r with
  |slot n=>cases hm
  |hand=>cases hm
  |box n=>simp[St.place,St.bump,St.setRoot,St.root,BX,BN]
  |ext n=>simp[St.place,St.bump,St.setRoot,St.root,BX,BN]
 have h0:∀j,E.place r [] j=cells[j]? :=by
  intro j
  cases r with
  |slot n=>cases hm
  |hand=>cases hm
  |box n=>simp[St.place,St.root,hc,BN]
  |ext n=>simp[St.place,St.root,hc,BN]
 let E1:St:=(E.setRoot r cells').bump r
 have ev:∀s,s≠r->E1.ver s=E.ver s:=by
  intro s hs;cases r<;>simp[E1,St.bump,St.setRoot,BX,hs]
 have evr:E1.ver r=E.ver r+1:=by cases r<;>simp[E1,St.bump,St.setRoot,BX]
 have eg:∀s,E1.gen s=E.gen s:=by intro s;cases r<;>rfl
 have er:∀s,s≠r->E1.root s=E.root s:=by
  intro s hs
  cases r with
  |slot n=>cases hm
  |hand=>cases hm
  |box n=>cases s<;>simp[E1,St.bump,St.setRoot,St.root,BX,hs]
  |ext n=>cases s<;>simp[E1,St.bump,St.setRoot,St.root,BX,hs]
 have es:∀n,E1.slots n=E.slots n:=by
  intro n
  cases r with
  |slot n=>cases hm
  |hand=>cases hm
  |box n=>rfl
  |ext n=>rfl
 have eb:∀s,E1.boxes s=if s=r then some cells' else E.boxes s:=by
  intro s
  cases r with
  |slot n=>cases hm
  |hand=>cases hm
  |box n=>rfl
  |ext n=>rfl
 have c0:∀s,BW w w' a a E E1 blk blk s:=by
  intro s;by_cases hs:s=r
  ·subst hs;refine⟨.inl (by rw[evr];omega),.inr ⟨eg s,λj ad hv hp=>?_⟩⟩;refine⟨(by cases s<;>first|exact hv|(cases hm)),?_⟩;rw[h0]at hp;rw[show E1.place s [] j=cells'[j]? from a0 j];have hj:j<cells.length:=by
    rcases Cv j cells.length with q|q
    ·exact q
    rw[Dq q]at hp;cases hp
   rw[Ad (by omega)];rfl
  by_cases hh:s= .hand
  ·subst hh;exact Fz (ev _ hs) (eg _) (by simp[St.root,h.nohand])
  exact D4 h (ev s hs) (eg s) (er s hs) (λ_ _=>rfl) (λ_=>rfl)
   (λb hb=>g.keep b (h.inF s b hb).2 (h.dis s r hs b hb)) (λb hb=>g.keep b (h.inU s b hb).2 (λe=>h.disU r s b e hb))
 have k7:=h.two (w':=w') (a':=a) (E':=E1) (blk':=blk) (r1:=r) (r2:= .hand) (L1:=blk r::F0) (L2:=Fr) (V1:=V1) (V2:=Ur) a6
  (by
   rw[AY]at m⊢
   exact⟨m.2.1,m.1,λx hx y hy e=>m.2.2 y hy x hx e.symm⟩)
  (λb hb=>by
   obtain⟨q1,q2⟩:=z b (by
    rcases Al.1 hb with hb|hb
    ·exact A8 _ hb
    exact Ax _ hb)
   refine⟨?_,q2⟩
   rcases q1 with q1|q1
   ·exact .inl q1
   exact .inr (.inr q1))
  (λb hb=>by
   have hb':b∈Ur++V1:=by
    rcases Al.1 hb with hb|hb
    ·exact A8 _ hb
    exact Ax _ hb
   rcases hV b hb' with q|⟨q1,q2⟩
   ·exact .inl q
   refine .inr ⟨?_,λe=>?_,q2⟩
   ·rcases q1 with q1|q1
    ·exact .inl q1
    exact .inr (.inr q1)
   refine a1 b ?_ hb'
   rcases Al.1 e with e|e
   ·exact A8 _ e
   exact Ax _ e)
  g.size g.os g.tape g.output (λb hb q _=>g.keep b hb q) c0 (λn _ _=>⟨es n,rfl⟩) (λs _ hs _=>⟨by rw[eb,Au hs],rfl⟩)
  (by
   have:Fj w' a E1 blk r (blk r::F0) V1:=by
    have:=eb r;rw[Ar rfl]at this
    cases r with
    |slot n=>cases hm
    |hand=>cases hm
    |box n=>exact .inr ⟨cells',cur',T',F0,this,g2,g3,rfl⟩
    |ext n=>exact .inr ⟨cells',cur',T',F0,this,g2,g3,rfl⟩
   exact this)
  trivial (by rw[eb,Au (Ep a6)];exact h.nohand) h.len h.nodef (hfz:=by
   intro n hn;have e:((E.setRoot r cells').bump r).fz=E.fz:=by rw[Nd,Gx]
   exact h.frz n (e▸hn)) (hamb:=by show((E.setRoot r cells').bump r).amb=E.amb;rw[Iq,Dr])
 have kh:(BX (BX FS r (blk r::F0)) .hand Fr) .hand=Fr:=BA _ _ _;have kh2:(BX (BX US r V1) .hand Ur) .hand=Ur:=BA _ _ _
 cases hd:o.dst with
 |some d=>
  obtain⟨FS',US',q1,q2,q3⟩:=k7.land (w':=w') (d:=d) (s:=res) (v:=v) (F:=Fr) (U:=Ur) (hN d hd) (Kx g.res) (AY.1 m).1
   (λb hb=>⟨.inl (by rw[kh];exact hb),(z b (Ax _ hb)).2⟩) (λb hb=> .inl ⟨.hand,by rw[kh2];exact hb⟩) (A5 _) rfl rfl rfl (λ_ _ _=>rfl)
  have:=hK w' v blk FS' US' (by rw[hd];exact q1) q2 q3;rw[hd]at this;exact this
 |none=>
  obtain⟨FS',US',q1,q2,q3⟩:=k7.drop (w':=w') (A5 _) rfl rfl rfl (λ_ _ _=>rfl);have:=hK w' v blk FS' US' (by rw[hd];exact q1) q2 q3;rw[hd]at this;exact this
end
theorem UR {f:FuncId} (A:Nat->Nz) (hA:∀b,(A b).B=[]/\(∀w,(A b).I w)/\∀c,(A b).pin=some c->c=b) {c:Code} {cells cells':List TV} {res:SV} (hf:P.funcs[f]?=some fn) (hb:fn.body=some c) (h:∀b,Wp P fn.ntmps c (Dc (.ext cells::as) (A b)) λe E=>(e= .normal\/e= .ret)/\∃ss E',Dg P E fn.results.toList=some (ss,E')/\D6 ss=res/\E'.boxes (.ext 0)=some cells') (m:cells'.isEmpty=false):
  A3 P f (.ext cells::as) res (.ext cells'::List.replicate as.length .gone):=by
 intro w vs FA UA ha o k p;have ha':=ha;obtain⟨v0,vs0,F1,F2,U1,U2,rfl,rfl,rfl,⟨b0,cur0,T0,F0,rfl,_,_,rfl,_⟩,r⟩:=ha;obtain⟨blk,FS,US,hr,hF,hU⟩:=R8 (N:=fn.ntmps) ha' o k p (A:=A b0) ((hA b0).2.1 w) (λb hb=>by rw[(hA b0).1]at hb;cases hb) (hpin:=λc hc=>((hA b0).2.2 c hc).symm);refine calls_of_wp hf hb (wp_mono (h b0 _ _ _ _ _ _ _ _ hr hF hU) ?_);rintro e a w' ⟨E,blk',FS',US',⟨he,ss,E',h1,rfl,i⟩,h2,h3,h4⟩;obtain⟨us,FS2,US2,F,U,k1,k2,k3,k4,k5⟩:=Jw h2 h1;rw[h3,AC]at k4;rw[h4,AC]at k5;have j:∀(n:Nat) (vs:List Value),vs.length=n->Iz w' (List.replicate n .gone) vs [] []:=by
  intro n
  induction n with
  |zero=>intro vs hv;simp at hv;subst hv;exact⟨rfl,rfl,rfl⟩
  |succ n ih=>
   intro vs hv
   cases vs with
   |nil=>simp at hv
   |cons v vs=>exact⟨v,vs,[],[],[],[],rfl,rfl,rfl,⟨rfl,rfl⟩,ih vs (by simpa using hv)⟩
 have s:vs0.length=as.length:=by
  obtain⟨_,_,_,_,h5,_⟩:=Pn r;exact h5
 have l:blk' (.ext 0)=b0:=by
  rw[k3.xblk];rfl
 obtain⟨d,T,F3,b2,b3,b4⟩:∃d T F3,w'.heap[b0]?=some (.cells d T (0,0))/\Bl w' cells' d.toList F3 (US2 (.ext 0))/\FS2 (.ext 0)=b0::F3:=by
  rcases k3.box (.ext 0) rfl with⟨q,_⟩|⟨cs,d,T,F3,q1,q2,q3,q4⟩
  ·rw[i]at q;cases q
  rw[i]at q1
  injection q1 with q1
  subst q1;rw[l]at q2 q4;exact⟨d,T,F3,q2,q3,q4⟩
 have hne':cells'≠ []:=by rintro rfl;cases m
 have g:a.defers=[]/\∃v,(results fn a.tmps).run P w'= .ok v w'/\∃v' F U G V,Ending.returned v= .returned v'/\s6 w w' ((b0::F0)++F2) (U1++U2) (D6 ss) (.ext cells'::List.replicate as.length .gone) (.pointer (some ⟨b0,0,none⟩)::vs0) v' F U G V:=by
  refine⟨h2.nodef,_,NQ k1,_,F,U,FS2 (.ext 0),US2 (.ext 0),rfl,?_⟩
  exact{
   res:=Od k2
   fin:=⟨_,vs0,FS2 (.ext 0),[],US2 (.ext 0),[],rfl,by simp,by simp,⟨b0,d,T,F3,rfl,b2,b3,b4,hne'⟩,j _ _ s⟩
   nodup:=by
    rw[<-k4,AY];exact⟨k3.nodup _,k3.nodup _,λx hx y hy e=>k3.dis .hand (.ext 0) (by simp) x hx (e▸hy)⟩
   dis:=by
    intro b hb hb';rw[<-k4]at hb;rw[<-k5]at hb'
    rcases Al.1 hb with hb|hb<;>rcases Al.1 hb' with hb'|hb'
    ·exact k3.disU .hand .hand b hb hb'
    ·exact k3.disU .hand (.ext 0) b hb hb'
    ·exact k3.disU (.ext 0) .hand b hb hb'
    exact k3.disU (.ext 0) (.ext 0) b hb hb'
   inF:=by
    intro b hb;rw[<-k4]at hb
    rcases Al.1 hb with hb|hb
    ·exact k3.inF .hand b hb
    exact k3.inF (.ext 0) b hb
   inU:=by
    intro b hb;rw[<-k5]at hb
    rcases Al.1 hb with hb|hb
    ·exact k3.inU .hand b hb
    exact k3.inU (.ext 0) b hb
   os:=k3.os
   tape:=k3.tape
   output:=k3.output
   size:=k3.size
   keep:=λb hb hF=>k3.keep b hb hF (λe=>by rw[show b∈(A b0).B↔b∈([]:List Nat) by rw[(hA b0).1]]at e;cases e)}
 rcases he with rfl|rfl
 ·exact g
 exact g
theorem jS {f:FuncId} {c:Code} {a cells':List TV} {b:SV} (hf:P.funcs[f]?=some fn) (hb:fn.body=some c) (h:Wp P fn.ntmps c (Dc (.ext a::as)) λe E=>(e= .normal\/e= .ret)/\∃ss E',Dg P E fn.results.toList=some (ss,E')/\D6 ss=b/\E'.boxes (.ext 0)=some cells') (d:cells'.isEmpty=false):
 A3 P f (.ext a::as) b (.ext cells'::List.replicate as.length .gone):=UR (λ_=>Nz.none) (λ_=>⟨rfl,λ_=>trivial,λ_ h=>by cases h⟩) hf hb (λ_=>h) d
def ZA (b:Nat):Nz:={Nz.none with pin:=some b}
theorem o5 (b:Nat):(ZA b).B=[]/\(∀w,(ZA b).I w)/\∀c,(ZA b).pin=some c->c=b:=⟨rfl,λ_=>trivial,λc h=>by injection h with h;exact h.symm⟩
theorem vI {len:Nat} {o:Oper} {m:Nat} (r:Root) (q:List Nat) (j:Nat) (hn:n=(m:Int)) {t e:TypeId} {a i:Operand} (ho:o.op= .indexAddr t a i:=by rfl) (ht:P.underlying t=some (.array len e):=by rfl) (hi:E.cell1 P 0 i=some (.int k n):=by rfl) (hp:E.ptr? a=some (r,q,j):=by rfl) (hc:P.cellsOf e=1:=by rfl) (hl:Nat.blt m len=true:=by rfl) (hs:(E.place r q (j+m)).isSome=true:=by rfl):AU P E o=some (.one (.ptr r (E.stamp r q) q (j+m))):=by
 subst hn;have hl':m<len:=by simpa[Bi]using hl
 simp only[AU,ho,ht,hi,hp,hc,AZ,Qs];rw[Ar ⟨by omega,by omega,by omega,hs⟩]
def H3 (l:List Int):ByteArray:=strOfNums l
theorem R5 {f:Int->List TV} (hf:∀n,f n=[.int .u8 n]):∀l,Lx (AB f l)=some l
 |[]=>rfl
 |n::l=>by
  have:AB f (n::l)=f n++AB f l:=by simp[AB]
  rw[this,hf];simp only[FB,Lx,R5 hf l,Bt]
theorem vQ {f:Int->List TV} {x:Operand} {o:Oper} (hf:∀n,f n=[.int .u8 n]) (l:List Int) {s d e e':TypeId} {a:Bool} (ho:o.op= .convert s d x:=by rfl) (hs:P.underlying s=some (.slice e):=by rfl) (hd:P.underlying d=some .string:=by rfl) (he:P.underlying e=some (.int .u8):=by rfl) (hr:E.ref x=some (r,q,j):=by rfl) (hp:E.place r q j=some (.sl a e' 1 (AB f l)):=by rfl):AU P E o=some (.one (.str (H3 l))):=by
 simp only[AU,ho,hs,hd,he,hr,hp,BU,R5 hf,Bt];rfl
def shl (k:IntKind) (a b:Int):Option Int:=if b<0 then none else some (k.wrap (a*2^(min b.toNat k.bits)))
theorem t7 {x y:Operand} {o:Oper} {a b v:Int} (h:shl k a b=some v) {t t2:TypeId} (ho:o.op= .binOp .shl t x y t2:=by rfl) (hx:E.cell1 P t x=some (.int k a):=by rfl) (hy:E.cell1 P t y=some (.int k2 b):=by rfl):AU P E o=some (.one (.int k v)):=by
 unfold shl at h;split at h
 ·cases h
 rename_i hb
 injection h with h
 subst h;simp only[AU,ho,hx,hy,Vo,BU,Vq,Au hb,Bt]
def dr (l:List α) (lo hi:Int):Option (List α):=if 0<=lo/\lo<=hi/\hi<=l.length then some ((l.drop lo.toNat).take (hi.toNat-lo.toNat))else none
theorem Sn (hf:∀x,(f x).length=sz):∀(l:List α) (n:Nat),(AB f l).take (n*sz)=AB f (l.take n)
 |l,0=>by simp[AB]
 |[],n+1=>by simp[AB]
 |x::l,n+1=>by
  have h1:AB f (x::l)=f x++AB f l:=by simp[AB]
  have h2:AB f (x::l.take n)=f x++AB f (l.take n):=by simp[AB]
  rw[h1,Df,Tn,List.take_append,hf x,Nat.add_sub_cancel_left,Sn hf l n,Nx,h2,AT (by rw[hf x];omega)]
theorem vP {v:List α} {x oh:Operand} {o:Oper} (hf:∀x,(f x).length=sz) {a b:Int} (h:dr l a b=some v) {t e e':TypeId} (ho:o.op= .slice t x lo (some oh) none:=by rfl) (ht:P.underlying t=some (.slice e):=by rfl) (hr:E.ref x=some (r,q,j):=by rfl) (hp:E.place r q j=some (.sl false e' sz (AB f l)):=by rfl) (hl:(match lo with|some o=>E.cell1 P 0 o|none=>some (.int .i64 0))=some (.int k1 a):=by rfl) (hh:E.cell1 P 0 oh=some (.int k2 b):=by rfl) (c:P.cellsOf e=sz:=by rfl) (h0:Nat.blt 0 sz=true:=by rfl):AU P E o=some (.one (.sl false e' sz (AB f v))):=by
 have h0':0<sz:=by simpa[Bi]using h0
 unfold dr at h;split at h
 ·rename_i hc
  injection h with h
  subst h;have hl':∀lo':Option TV,lo'=some (.int k1 a)->(match lo',E.cell1 P 0 oh with|some (.int _ l0),some (.int _ h0)=>if sz=P.cellsOf e/\0<sz/\0<=l0/\l0<=h0/\h0.toNat*sz<=(AB f l).length then some (SV.one (.sl false e' sz (((AB f l).drop (l0.toNat*sz)).take ((h0.toNat-l0.toNat)*sz))))else none|_,_=>none)=some (SV.one (.sl false e' sz (AB f ((l.drop a.toNat).take (b.toNat-a.toNat))))):=by
   rintro _ rfl;rw[hh];simp only;rw[Ar ⟨c.symm,h0',hc.1,hc.2.1,by rw[Em hf];exact B4 _ (by omega)⟩,HO hf,Sn hf]
  simp only[AU,ho,ht,hr,hp];exact hl' _ hl
 cases h
theorem t8 {v:List α} {x:Operand} {o:Oper} (hf:∀x,(f x).length=sz) {a:Int} (h:dr l a (ln l)=some v) {t e e':TypeId} (ho:o.op= .slice t x lo none none:=by rfl) (ht:P.underlying t=some (.slice e):=by rfl) (hr:E.ref x=some (r,q,j):=by rfl) (hp:E.place r q j=some (.sl false e' sz (AB f l)):=by rfl) (hl:(match lo with|some o=>E.cell1 P 0 o|none=>some (.int .i64 0))=some (.int k1 a):=by rfl) (c:P.cellsOf e=sz:=by rfl) (h0:Nat.blt 0 sz=true:=by rfl):AU P E o=some (.one (.sl false e' sz (AB f v))):=by
 have h0':0<sz:=by simpa[Bi]using h0
 have b:(AB f l).length/sz=l.length:=by rw[Em hf];exact Ee _ h0'
 unfold dr at h;split at h
 ·rename_i hc
  injection h with h
  subst h;simp only[ln]at hc⊢;have hl':∀lo':Option TV,lo'=some (.int k1 a)->(match lo',some (TV.int .i64 (((AB f l).length/sz:Nat):Int))with|some (.int _ l0),some (.int _ h0)=>if sz=P.cellsOf e/\0<sz/\0<=l0/\l0<=h0/\h0.toNat*sz<=(AB f l).length then some (SV.one (.sl false e' sz (((AB f l).drop (l0.toNat*sz)).take ((h0.toNat-l0.toNat)*sz))))else none|_,_=>none)=some (SV.one (.sl false e' sz (AB f ((l.drop a.toNat).take (((l.length:Nat):Int).toNat-a.toNat))))):=by
   rintro _ rfl;rw[b];simp only;rw[Ar ⟨c.symm,h0',hc.1,hc.2.1,by rw[Em hf];exact B4 _ (by omega)⟩,HO hf,Sn hf]
  simp only[AU,ho,ht,hr,hp];exact hl' _ hl
 cases h
theorem Yw {x y:Option β} {r:β} {G:Prop} {b:Bool} (h:(bif b then x else y)=some r) (h1:b=true->x=some r->G) (h2:y=some r->G):G:=by
 cases b with
 |true=>exact h1 rfl h
 |false=>exact h2 h
def f0 (b:ByteArray):List Int:=b.data.toList.map λc=>(c.toNat:Int)
def tJ (l:List Int) (b:ByteArray):Option (List Int):=if l.length+b.size<=140737488355328 then some (l++f0 b)else none
theorem S6 {f:Int->List TV} (hf:∀n,f n=[.int .u8 n]) (b:ByteArray):RU b=AB f (f0 b):=by
 unfold RU f0
 induction b.data.toList with
 |nil=>rfl
 |cons c l ih=>
  have e:∀(x:Int) (m:List Int),AB f (x::m)=f x++AB f m:=λx m=>by simp[AB]
  rw[BO,BO,e,hf,ih];rfl
theorem vD {o:Oper} {f:Int->List TV} {x:Operand} (hf:∀n,f n=[.int .u8 n]) {b:ByteArray} {src dst e:TypeId} (ho:o.op= .convert src dst x:=by rfl) (hd:o.dst=some d:=by rfl) (hN:Nat.blt d N=true:=by rfl) (hs:P.underlying src=some .string:=by rfl) (a:P.underlying dst=some (.slice e):=by rfl) (hx:E.cell1 P src x=some (.str b):=by rfl) (c:ZS P e=true:=by rfl):Cc P N false E o=some (E.put (some d) (.one (.sl false e 1 (AB f (f0 b))))):=by
 have hN':d<N:=by simpa[Bi]using hN
 unfold Cc;rw[hd];simp only[Ar hN',ho,Pg,hs,a,hx];rw[Ar c,S6 hf]
structure Fv (w w':World) (B:List Nat):Prop where
 os:w'.os=w.os
 tape:w'.tape=w.tape
 output:w'.output=w.output
 size:w.heap.size<=w'.heap.size
 keep:∀b,b<w.heap.size->b∉B->w'.heap[b]?=w.heap[b]?
theorem Cu.beside {w0:Base} {a:Act} (h:Cu w0 FA UA N w a E blk FS US) (hb:Fv w w' w0.B) (hB:A'.B=E.amb.B) (hI:A'.I w') (hP:∀b,A'.pin=some b->E.amb.pin=some b):Cu w0 FA UA N w' a {E with amb:=A'} blk FS US:=by
 have hF:∀r,∀b∈FS r,w'.heap[b]?=w.heap[b]? :=λr b hx=>hb.keep b (h.inF r b hx).2 (λe=>by
  obtain⟨h1,h2,h3⟩:=h.ambF b e
  rcases(h.inF r b hx).1 with h4|h4
  ·exact h2 h4
  omega)
 have hU:∀r,∀b∈US r,w'.heap[b]?=w.heap[b]? :=λr b hx=>hb.keep b (h.inU r b hx).2 (λe=>by
  obtain⟨h1,h2,h3⟩:=h.ambF b e
  rcases(h.inU r b hx).1 with h4|h4|h4
  ·exact h3 h4
  ·exact h2 h4
  omega)
 have c:∀s,BW w w' a a E {E with amb:=A'} blk blk s:=λs=>
  D4 h rfl rfl (by cases s<;>rfl) (λ_ _=>rfl) (λ_=>rfl) (hF s) (hU s)
 have hr:∀r,Fj w' a {E with amb:=A'} blk r (FS r) (US r):=λr=>
  NU c (h.root r) (λn _=>⟨rfl,rfl⟩) (λ_=>⟨rfl,rfl⟩) (hF r) (hU r)
 constructor
 ·exact λn=>hr (.slot n)
 ·intro r hm
  cases r with
  |slot n=>cases hm
  |hand=>cases hm
  |box n=>exact hr (.box n)
  |ext n=>exact hr (.ext n)
 ·exact h.nohand
 ·exact h.nodup
 ·exact h.dis
 ·exact h.disU
 ·exact λr b hx=>⟨(h.inF r b hx).1,AJ (h.inF r b hx).2 hb.size⟩
 ·exact λr b hx=>⟨(h.inU r b hx).1,AJ (h.inU r b hx).2 hb.size⟩
 ·exact h.disA
 ·exact hb.os.trans h.os
 ·exact hb.tape.trans h.tape
 ·exact hb.output.trans h.output
 ·exact Hw h.size hb.size
 ·exact λb h1 h2 h3=>(hb.keep b (AJ h1 h.size) h3).trans (h.keep b h1 h2 h3)
 ·exact h.len
 ·exact h.nodef
 ·exact h.xblk
 ·rw[hB];exact h.ambB
 ·exact hI
 ·exact h.frz
 ·exact h.ambF
 exact λb hp=>h.pin b (hP b hp)
def JO (P:Program) (f:FuncId) (A:Nz) (as:List AV) (A':Nz):Prop:=∀(w:World) (vs:List Value),Iz w as vs [] []->(∀b∈A.B,b<w.heap.size)->A.I w->Calls P f vs.toArray w λe w'=>e= .returned (.tuple #[])/\Fv w w' A.B/\A'.I w'
theorem jT {f:FuncId} {c:Code} (hf:P.funcs[f]?=some fn) (hb:fn.body=some c) (hr:fn.results= #[]) (hp:A.pin=none) (h:Wp P fn.ntmps c (Dc as A) λe E=>(e= .normal\/e= .ret)/\E.amb=A'):JO P f A as A':=by
 intro w vs ha hB hA;obtain⟨blk,FS,US,g,hF,hU⟩:=R8 (N:=fn.ntmps) ha Ce (by simp) (by simp) (A:=A) hA (λb hb=>⟨hB b hb,by simp,by simp⟩) (hpin:=λb h=>by rw[hp]at h;cases h);refine calls_of_wp hf hb (wp_mono (h _ _ _ _ _ _ _ _ g hF hU) ?_);rintro e a w' ⟨E,blk',FS',US',⟨he,rfl⟩,h2,h3,h4⟩;have i:(results fn a.tmps).run P w'= .ok (.tuple #[]) w':=by
  rw[Us (P:=P),hr];simp
 have d:a.defers=[]/\∃v,(results fn a.tmps).run P w'= .ok v w'/\Ending.returned v= .returned (.tuple #[])/\Fv w w' A.B/\E.amb.I w':=
  ⟨h2.nodef,_,i,rfl,⟨h2.os,h2.tape,h2.output,h2.size,λb h5 h6=>h2.keep b h5 (by simp) h6⟩,h2.ambI⟩
 rcases he with rfl|rfl
 ·exact d
 exact d
theorem NG {w0:Base} {a:Act} {blk:Root->Nat} (h:Cu w0 FA UA N w a E blk FS US) (hF:FS .hand=[]) (hU:US .hand=[]) (hd:d<N) {s:SV} (hb:Fv w w' w0.B) (hB:A'.B=E.amb.B) (hI:A'.I w') (hs:TZ w' s v [] []) (hP:∀b,A'.pin=some b->E.amb.pin=some b):
  ∃FS' US',Cu w0 FA UA N w' (a.put (some d) v) (({E with amb:=A'}:St).put (some d) s) blk FS' US'/\FS' .hand=[]/\US' .hand=[]:=by
 have k:=h.beside hb hB hI hP;exact k.land (w':=w') (F:=[]) (U:=[]) hd (Kx hs) Ce (by simp) (by simp) (A5 _) rfl rfl rfl (λ_ _ _=>rfl)
theorem tB {rr : β} {x : Option α} {k : α → Option β} {f : FuncId} {l : List AV} (h : x.bind k = some rr) (d : Nat) (Am : α → Nz) {args : Array Operand} {tys : Array TypeId} (ho : oo.op = .call { callee := .value (.func f), args := args, argTypes := tys }) (hA : E.amb = A) (hB : ∀ v, (Am v).B = A.B ∧ (Am v).pin = none) (m : Ia P E ((tys.toList.zip args.toList).map fun (t, x) => (false, t, x)) (List.replicate args.size none) = some (l, true)) (n : ∀ w vs F U, Iz w l vs F U → F = [] ∧ U = []) (o : ∀ v, x = some v → JO P f A l (Am v)) (hk : ∀ v, x = some v → k v = some rr → EY P N ops rest (({ E with amb := Am v } : St).put (some d) (.tup [])) Q) (hf : P.funcs[f]? = some fn := by rfl) (hn : (fn.name == "runtime.NumGoroutine") = false := by rfl) (hb : fn.body.isNone = false := by rfl) (hd : oo.dst = some d := by rfl) (hN : Nat.blt d N = true := by rfl) (hz : tys.size = args.size := by rfl) (hg : Bp P ops E oo = some true := by rfl) : EY P N ops (oo :: rest) E Q := by
 obtain⟨v,hv,h⟩:=Ao.1 h;have hN':d<N:=by simpa[Bi]using hN
 intro w0 FA UA w a blk FS US hr hF hU;simp only[wpList,BS hr hg,BU];refine .inl ?_;have i:((tys.toList.zip args.toList).map λ(t,x)=>(false,t,x)).length=args.size:=by simp[hz]
 obtain⟨U',k5,k6⟩:=K0 hr (U7 (l:=(tys.toList.zip args.toList).map λ(t,x)=>(false,t,x))) (by rw[i];exact m);have p:((tys.toList.zip args.toList).map λ(t,x)=>(false,t,x)).map (λx=>a.eval x.2.2)=(args.map a.eval).toList:=by
  rw[Sz,Gm];have:((λx:Bool×TypeId×Operand=>a.eval x.2.2)∘λ(x:TypeId×Operand)=>(false,x.1,x.2))=a.eval∘Prod.snd:=rfl;refine(Cq (λg=>List.map g (tys.toList.zip args.toList)) this).trans ?_;rw[<-Gm,List.map_snd_zip (by simp[hz])]
 rw[p]at k5;obtain⟨_,rfl⟩:=n _ _ _ _ k5;have j:w0.B=A.B:=hr.ambB.trans (by rw[hA])
 have c:=o v hv w _ k5 (λb hb=>by
  rw[<-j]at hb
  exact AJ (hr.ambF b hb).1 hr.size) (by rw[<-hA];exact hr.ambI)
 unfold Oper.wp;rw[HI ho ⟨fn,hf,by intro e;rw[e]at hn;simp at hn,hb⟩];simp only[Oper.upon];rw[Array.toArray_toList]at c;refine Calls.mono c ?_;rintro e w' ⟨rfl,q,hI⟩;obtain⟨FS',US',q1,q2,q3⟩:=NG (s:= .tup []) (v:= .tuple #[]) hr hF hU hN' (by rw[j];exact q) (by rw[(hB _).1,hA]) hI ⟨[],rfl,rfl,rfl,rfl⟩ (λb hb=>by rw[(hB _).2]at hb;cases hb);rw[hd];exact hk v hv h _ _ _ _ _ _ _ _ q1 q2 q3
def HD (P:Program) (Am:List γ->Nz) (lt:γ->γ->Bool) (g:FuncId) (cap:Array Value):Prop:=(∀(args:Array Value) (w:World),(callFunc g args).run P w= .ok (.enter g args) w)/\∀(l:List γ) (i j:Int) (x y:γ),gi l i=some x->gi l j=some y->∀w,(Am l).I w->(∀b∈(Am l).B,b<w.heap.size)->Calls P g (#[.int .i64 i,.int .i64 j]++cap) w λe w'=>e= .returned (.bool (lt x y))/\Fv w w' (Am l).B/\(Am l).I w'
def JM (P:Program) (Am:List γ->Nz) (sf:FuncId) (cap:Array Value):Prop:=∀(l:List γ) (i j:Int) (x y:γ),gi l i=some x->gi l j=some y->∀w,(Am l).I w->(∀b∈(Am l).B,b<w.heap.size)->∃w',(callFunc sf (#[.int .i64 i,.int .i64 j]++cap)).run P w= .ok (.value (.tuple #[])) w'/\Fv w w' (Am l).B/\(Am (si (si l i y) j x)).I w'
theorem Re {a:Act} {o:Oper} {t:Nat} {args:Array Operand} {tys:Array TypeId} {cap:Array Value} (ho:o.op= .call {callee:= .value (.tmp t),args:=args,argTypes:=tys}) (hv:a.eval (.tmp t)= .func (.func g) #[] cap):
  (execOp a.eval o).run P w=(callFunc g (args.map a.eval++cap)).run P w:=by
 simp[execOp,ho,resolve,hv,Deferred.ofValue,invoke]
theorem nH {f:Fn} {w0:Base} {a:Act} {blk:Root->Nat} (h:Cu w0 FA UA N w a E blk FS US) {t:Nat} {ta cap:Array Value} (hs:E.slots t= .one (.fn f ta cap)):a.eval (.tmp t)= .func f ta cap:=by
 have:=h.slot t;rw[hs]at this;simp only[DD,C1,Cd]at this;exact this.1.1
theorem tA {l:List γ} {x y:γ} {j:Int} {cap:Array Value} (c:HD P Am lt g cap) (hx:gi l i=some x) (hy:gi l j=some y) (d:Nat) {t:Nat} {tys:Array TypeId} (hk:EY P N ops rest (E.put (some d) (.one (.bool (lt x y)))) Q) (hA:E.amb=Am l:=by rfl) (ho:oo.op= .call {callee:= .value (.tmp t),args:= #[o1,o2],argTypes:=tys}:=by rfl) (hs:E.slots t= .one (.fn (.func g) #[] cap):=by rfl) (h1:E.cell1 P 0 o1=some (.int .i64 i):=by rfl) (h2:E.cell1 P 0 o2=some (.int .i64 j):=by rfl) (hd:oo.dst=some d:=by rfl) (hN:Nat.blt d N=true:=by rfl) (hg:Bp P ops E oo=some true:=by rfl):EY P N ops (oo::rest) E Q:=by
 have hN':d<N:=by simpa[Bi]using hN
 intro w0 FA UA w a blk FS US hr hF hU;simp only[wpList,BS hr hg,BU];refine .inl ?_;have h:w0.B=(Am l).B:=hr.ambB.trans (by rw[hA])
 have m:∀b∈(Am l).B,b<w.heap.size:=λb hb=>by
  rw[<-h]at hb;exact AJ (hr.ambF b hb).1 hr.size
 have hI:(Am l).I w:=by rw[<-hA];exact hr.ambI
 have f:=c.2 l i j x y hx hy w hI m;unfold Oper.wp;have e1:=CK hr h1;have e2:=CK hr h2;have k:(execOp a.eval oo).run P w= .ok (.enter g (#[.int .i64 i,.int .i64 j]++cap)) w:=by
  rw[Re ho (nH hr hs)];rw[c.1];simp[e1,e2]
 rw[k];simp only[Oper.upon];refine Calls.mono f ?_;rintro e w' ⟨rfl,n,hI'⟩
 obtain⟨FS',US',q1,q2,q3⟩:=NG (A':=E.amb) (s:= .one (.bool (lt x y))) (v:= .bool (lt x y)) hr hF hU hN' (by rw[h];exact n) rfl (by
  rw[hA]
  exact hI') ⟨⟨rfl,rfl,rfl⟩,rfl⟩ (λ_ hb=>hb)
 rw[hd];exact hk _ _ _ _ _ _ _ _ q1 q2 q3
theorem s7 {l:List γ} {x y:γ} {j:Int} {cap:Array Value} (c:JM P Am sf cap) (hB:∀l l',(Am l).B=(Am l').B/\(Am l).pin=none) (hx:gi l i=some x) (hy:gi l j=some y) (d:Nat) {t:Nat} {tys:Array TypeId} (hk:EY P N ops rest (({E with amb:=Am (si (si l i y) j x)}:St).put (some d) (.tup [])) Q) (hA:E.amb=Am l:=by rfl) (ho:oo.op= .call {callee:= .value (.tmp t),args:= #[o1,o2],argTypes:=tys}:=by rfl) (hs:E.slots t= .one (.fn (.func sf) #[] cap):=by rfl) (h1:E.cell1 P 0 o1=some (.int .i64 i):=by rfl) (h2:E.cell1 P 0 o2=some (.int .i64 j):=by rfl) (hd:oo.dst=some d:=by rfl) (hN:Nat.blt d N=true:=by rfl) (hg:Bp P ops E oo=some true:=by rfl):EY P N ops (oo::rest) E Q:=by
 have hN':d<N:=by simpa[Bi]using hN
 intro w0 FA UA w a blk FS US hr hF hU;simp only[wpList,BS hr hg,BU];refine .inl ?_;have f:w0.B=(Am l).B:=hr.ambB.trans (by rw[hA])
 have h:∀b∈(Am l).B,b<w.heap.size:=λb hb=>by
  rw[<-f]at hb;exact AJ (hr.ambF b hb).1 hr.size
 have hI:(Am l).I w:=by rw[<-hA];exact hr.ambI
 obtain⟨w',e,k,hI'⟩:=c l i j x y hx hy w hI h;unfold Oper.wp;have e1:=CK hr h1;have e2:=CK hr h2;have g:(execOp a.eval oo).run P w= .ok (.value (.tuple #[])) w':=by
  rw[Re ho (nH hr hs)];simpa[e1,e2]using e
 rw[g];rw[Oper.upon_value];obtain⟨FS',US',q1,q2,q3⟩:=NG (s:= .tup []) (v:= .tuple #[]) hr hF hU hN' (by rw[f];exact k) (by rw[hA];exact(hB _ _).1) hI' ⟨[],rfl,rfl,rfl,rfl⟩ (λb hb=>by rw[(hB _ []).2]at hb;cases hb);rw[hd];exact hk _ _ _ _ _ _ _ _ q1 q2 q3
def kI (l:List γ) (i j:Int):Option (γ×γ):=(gi l i).bind λx=>(gi l j).bind λy=>some (x,y)
theorem qK {rr:β} {l:List γ} {j:Int} {k:γ×γ->Option β} {cap:Array Value} (a:HD P Am lt g cap) (h:(kI l i j).bind k=some rr) (d:Nat) {t:Nat} {tys:Array TypeId} (hk:∀v,k v=some rr->EY P N ops rest (E.put (some d) (.one (.bool (lt v.1 v.2)))) Q) (hA:E.amb=Am l:=by rfl) (ho:oo.op= .call {callee:= .value (.tmp t),args:= #[o1,o2],argTypes:=tys}:=by rfl) (hs:E.slots t= .one (.fn (.func g) #[] cap):=by rfl) (h1:E.cell1 P 0 o1=some (.int .i64 i):=by rfl) (h2:E.cell1 P 0 o2=some (.int .i64 j):=by rfl) (hd:oo.dst=some d:=by rfl) (hN:Nat.blt d N=true:=by rfl) (hg:Bp P ops E oo=some true:=by rfl):EY P N ops (oo::rest) E Q:=by
 obtain⟨v,hv,h⟩:=Ao.1 h;obtain⟨x,hx,hv⟩:=Ao.1 hv;obtain⟨y,hy,hv⟩:=Ao.1 hv
 injection hv with hv
 subst hv;exact tA a hx hy d (hk _ h) hA ho hs h1 h2 hd hN hg
def cP (l:List γ) (i j:Int):Option (List γ):=(gi l i).bind λx=>(gi l j).bind λy=>some (si (si l i y) j x)
theorem qI {rr:β} {l:List γ} {j:Int} {k:List γ->Option β} {cap:Array Value} (a:JM P Am sf cap) (hB:∀l l',(Am l).B=(Am l').B/\(Am l).pin=none) (h:((cP l i j).bind k)=some rr) (d:Nat) {t:Nat} {tys:Array TypeId} (hk:∀l',k l'=some rr->EY P N ops rest (({E with amb:=Am l'}:St).put (some d) (.tup [])) Q) (hA:E.amb=Am l:=by rfl) (ho:oo.op= .call {callee:= .value (.tmp t),args:= #[o1,o2],argTypes:=tys}:=by rfl) (hs:E.slots t= .one (.fn (.func sf) #[] cap):=by rfl) (h1:E.cell1 P 0 o1=some (.int .i64 i):=by rfl) (h2:E.cell1 P 0 o2=some (.int .i64 j):=by rfl) (hd:oo.dst=some d:=by rfl) (hN:Nat.blt d N=true:=by rfl) (hg:Bp P ops E oo=some true:=by rfl):EY P N ops (oo::rest) E Q:=by
 obtain⟨l',hl',h⟩:=Ao.1 h;obtain⟨x,hx,hl'⟩:=Ao.1 hl';obtain⟨y,hy,hl'⟩:=Ao.1 hl'
 injection hl' with hl'
 subst hl';exact s7 a hB hx hy d (hk _ h) hA ho hs h1 h2 hd hN hg
def uD (ls:List (Nat×SV)) (bs:List (Root×List TV)) (A:Nz):St:={r9 ls bs with amb:=A}
def TV.flat:TV->Bool
 | .int .. | .bool _| .str _| .fn .. =>true
 |_=>false
def eX:AV->Bool
 | .sv (.one t)=>t.flat
 | .sv (.agg cs)=>cs.all TV.flat
 |_=>false
theorem Z8 {t:TV} (h:Cd w t v F U) (ht:t.flat=true):F=[]/\U=[]:=by
 cases t<;>first|(cases ht;done)|(simp only[Cd]at h;exact h.2)
theorem IB:∀{ts:List TV} {vs:List Value} {F U:List Nat},Bl w ts vs F U->ts.all TV.flat=true->F=[]/\U=[]
 |[],vs,F,U,h,_=>by simp only[Bl]at h;exact h.2
 |t::ts,vs,F,U,h,ht=>by
  simp only[DE,Ai]at ht;simp only[Bl]at h;obtain⟨v,a,F1,F2,U1,U2,rfl,rfl,rfl,h1,h2⟩:=h;obtain⟨rfl,rfl⟩:=Z8 h1 ht.1;obtain⟨rfl,rfl⟩:=IB h2 ht.2;exact⟨rfl,rfl⟩
theorem Vr:∀{l:List AV},l.all eX=true->∀(w:World) (vs:List Value) (F U:List Nat),Iz w l vs F U->F=[]/\U=[]
 |[],_,w,vs,F,U,h=>h.2
 |s::l,hl,w,vs,F,U,h=>by
  simp only[DE,Ai]at hl;obtain⟨v,a,F1,F2,U1,U2,rfl,rfl,rfl,h1,h2⟩:=h;obtain⟨rfl,rfl⟩:=Vr hl.2 w a F2 U2 h2;have:F1=[]/\U1=[]:=by
   match s,hl.1,h1 with
   | .sv (.one t),ht,h1=>exact Z8 h1.1 ht
   | .sv (.agg cs),ht,h1=>obtain⟨_,_,h1⟩:=h1;exact IB h1 ht
  obtain⟨rfl,rfl⟩:=this;exact⟨rfl,rfl⟩
def TV.val:TV->Value
 | .int k n=> .int k n
 | .bool b=> .bool b
 | .str s=> .string s
 | .fn f ta c=> .func f ta c
 |_=> .bool false
theorem oY {t:TV} (h:Cd w t v F U) (ht:t.flat=true):v=t.val:=by
 cases t<;>first|(cases ht;done)|(simp only[Cd]at h;exact h.1)
theorem Rf:∀{ts:List TV} {vs:List Value} {F U:List Nat},Bl w ts vs F U->ts.all TV.flat=true->vs=ts.map TV.val
 |[],vs,F,U,h,_=>by simp only[Bl]at h;exact h.1
 |t::ts,vs,F,U,h,ht=>by
  simp only[DE,Ai]at ht;simp only[Bl]at h;obtain⟨v,a,F1,F2,U1,U2,rfl,_,_,h1,h2⟩:=h;rw[oY h1 ht.1,Rf h2 ht.2];rfl
theorem oK {t:TV} (ht:t.flat=true):Cd w t t.val [] []:=by
 cases t<;>first|(cases ht;done)|(simp[Cd,TV.val])
theorem QE:∀{ts:List TV},ts.all TV.flat=true->Bl w ts (ts.map TV.val) [] []
 |[],_=>by simp[Bl]
 |t::ts,ht=>by
  simp only[DE,Ai]at ht;simp only[Bl,BO];exact⟨_,_,[],[],[],[],rfl,rfl,rfl,oK ht.1,QE ht.2⟩
theorem Tq {t:TV}:t.val.oneCell'=true:=by cases t<;>rfl
theorem Ht (e:TypeId) (fz:Nat×Nat) (g:Nat):∀(vs:List Value) (o:Nat) (a:Array Value) (w:World),w.heap[g]?=some (.cells a e fz)->o+vs.length<=a.size->(w.setCells g o vs).heap[g]?=some (.cells (setRow a.toList o vs).toArray e fz)
 |[],o,a,w,h,_=>by
  simp only[World.setCells];rw[h];congr 2;apply Pw;simp[setRow]
 |v::vs,o,a,w,h,hl=>by
  simp only[AH]at hl;simp only[World.setCells];have h1:(w.setCell ⟨g,o,none⟩ v).heap[g]?=some (.cells (a.setIfInBounds o v) e fz):=by
   simp only[World.setCell,Array.getElem?_modify,BU,h,Bt];rfl
  rw[Ht e fz g vs (o+1) (a.setIfInBounds o v) _ h1 (by simp;omega)];congr 2;apply Pw;simp only[Array.toList_setIfInBounds];apply Cj;intro k;have l1:(a.toList.take o).length=o:=by simp;omega
  have l2:((a.toList.set o v).take (o+1)).length=o+1:=by simp;omega
  simp only[setRow,Av]
  rcases KY k o with hk|hk|hk
  ·rw[AS (by omega),AS (by omega),B9,B9,Ar (by omega),Ar hk,List.getElem?_set_ne (by omega)]
  ·subst hk;rw[AS (by omega),AW (by omega),B9,Ar (by omega),List.getElem?_set_self (by simp;omega),l1];simp
  have eL:(List.take (o+1) (a.toList.set o v)++(vs++List.drop (o+1+vs.length) (a.toList.set o v)))[k]?=(vs++List.drop (o+1+vs.length) (a.toList.set o v))[k-(o+1)]? :=by
   rw[AW (by omega),l2]
  have eR:(List.take o a.toList++(v::vs++List.drop (o+(v::vs).length) a.toList))[k]?=(vs++List.drop (o+(v::vs).length) a.toList)[k-(o+1)]? :=by
   rw[AW (by omega),l1,show k-o=(k-(o+1))+1 by omega,Ci,List.getElem?_cons_succ]
  rw[eL,eR];by_cases hv:k-(o+1)<vs.length
  ·rw[AS hv,AS hv]
  rw[AW (by omega),AW (by omega),BJ,BJ,List.getElem?_set_ne (by omega),AH];congr 1;omega
structure iE (n b g cap:Nat) (e T:TypeId) (sz:Nat) (enc:γ->List TV) (w:World) (l:List γ):Prop where
 ne:b≠g
 len:l.length=n
 box:w.heap[b]?=some (.cells #[.slice (some ⟨g,0,none⟩) l.length cap] T (0,0))
 row:∃cur,w.heap[g]?=some (.cells cur e (0,0))/\cur.size=cap*sz/\cur.toList.take (l.length*sz)=(AB enc l).map TV.val
 le:l.length<=cap/\cap<=maxLen
def L6 (n b g cap:Nat) (e T:TypeId) (sz:Nat) (enc:γ->List TV) (l:List γ):Nz where
 B:=[b,g]
 I:=λw=>iE n b g cap e T sz enc w l
 st:=λw w' h hk=>⟨h.ne,h.len,by rw[hk b (by simp)];exact h.box,by rw[hk g (by simp)];exact h.row,h.le⟩
 rd:=λad=>if ad.spot.isSome=true then none else if ad.block=b then(if ad.off=0 then some (.slice (some ⟨g,0,none⟩) n cap)else none)else if ad.block=g then(if ad.off<l.length*sz then((AB enc l).map TV.val)[ad.off]? else none)else none
 rdI:=λw ad v h hr=>by
  obtain⟨bl,off,spot⟩:=ad
  cases spot with
  |some s=>simp at hr
  |none=>
   simp only[Hv,CN,Iu]at hr;split at hr
   ·rename_i hb;subst hb;split at hr
    ·rename_i ho;subst ho
     injection hr with hr
     subst hr;simp[World.cell?,h.box,h.len]
    cases hr
   split at hr
   ·rename_i hg;subst hg;split at hr
    ·rename_i ho;obtain⟨a,h1,h2,h3⟩:=h.row;rw[<-h3,B9,Ar ho]at hr;simpa[World.cell?,h1]using hr
    cases hr
   cases hr
theorem MV (f:γ->List TV) (x:γ) (l:List γ):AB f (x::l)=f x++AB f l:=by simp[AB]
theorem EN (g:Nat):∀(vs:List Value) (o:Nat) (w:World),(w.setCells g o vs).heap.size=w.heap.size
 |[],_,_=>rfl
 |v::vs,o,w=>by
  simp only[World.setCells];rw[EN g vs,World.size_setCell]
theorem Hg (g:Nat):∀(vs:List Value) (o:Nat) (w:World),(w.setCells g o vs).tape=w.tape
 |[],_,_=>rfl
 |v::vs,o,w=>by
  simp only[World.setCells];rw[Hg g vs,World.tape_setCell]
theorem MD (f:α->β) (A B:List α) (j:Nat):(setRow A j B).map f=setRow (A.map f) j (B.map f):=by
 simp[setRow,List.map_take,List.map_drop]
theorem Xq {enc:γ->List TV} (a:∀x,(enc x).length=sz) (x z:γ):setRow (enc x) 0 (enc z)=enc z:=by
 simp only[setRow,VU,AC,Gk];rw[Cx (by rw[a,a];exact A5 _),Aw]
theorem OH {l:List γ} {x z:γ} {enc:γ->List TV} (a:∀x,(enc x).length=sz) (h:gi l i=some x):setRow (AB enc l) (i.toNat*sz) (enc z)=AB enc (si l i z):=
 Ws a h (k:=0) (by rw[a];simp) (Xq a x z)
theorem GI (h:gi l i=some x):0<=i/\l[i.toNat]?=some x:=by
 unfold gi at h;split at h
 ·exact⟨by assumption,h⟩
 cases h
theorem cR {ie:TypeInfo} {b g cap:Nat} {e T:TypeId} {enc:γ->List TV} (f:∀x,(enc x).length=sz) (n:Nat) (gS:Bool) (hx:∀args W,(callFunc sf args).run P W=((Extern.ReflectliteSwapper.swap gS args).run P W).andThen λv w'=> .ok (.value v) w') (h8:P.info? e=some ie) (h:ie.size=sz) (s:∀w,(isAgg e).run P w= .ok true w):
  JM P (L6 n b g cap e T sz enc) sf #[.slice (some ⟨g,0,none⟩) n cap,typeHandle P e]:=by
 intro l i j x y hi hj w hI hB;obtain⟨u,hn,h0,⟨d,hg,h3,h4⟩,h5⟩:=hI;obtain⟨i0,i1⟩:=GI hi;obtain⟨j0,j1⟩:=GI hj;obtain⟨a,rfl⟩:=Co i0;obtain⟨c,rfl⟩:=Co j0;simp only[AZ]at i1 j1;have la:=(Ag.1 i1).1;have lc:=(Ag.1 j1).1;have hX:((enc x).map TV.val).length=sz:=by rw[AQ];exact f x
 have hY:((enc y).map TV.val).length=sz:=by rw[AQ];exact f y
 have a6:(AB enc l).length=l.length*sz:=Em f l;have p:l.length*sz<=d.size:=by rw[h3];exact B4 _ h5.1
 have h9:(a+1)*sz<=l.length*sz:=B4 _ la;have a0:(c+1)*sz<=l.length*sz:=B4 _ lc;rw[Df]at h9 a0;have cell:∀(m:Nat) (z:γ),l[m]?=some z->∀k v,((enc z).map TV.val)[k]?=some v->w.cell? ⟨g,0+m*ie.size+k,none⟩=some v:=by
  intro m z hm k v hk;have h6:=(Ag.1 hk).1;rw[AQ,f]at h6;have lm:=(Ag.1 hm).1;have a1:(m+1)*sz<=l.length*sz:=B4 _ lm;rw[Df]at a1;rw[h,Gk];have e1:(AB enc l)[m*sz+k]?=(enc z)[k]? :=by
   have:=HO f l m;have h2:(AB enc l)[m*sz+k]?=((AB enc l).drop (m*sz))[k]? :=by rw[BJ]
   rw[h2,this,BP lm];have e3:AB enc (l[m]::l.drop (m+1))=enc l[m]++AB enc (l.drop (m+1)):=MV _ _ _;have e4:l[m]=z:=by rw[Ad lm]at hm;injection hm
   rw[e3,e4,AS (by rw[f];exact h6)]
  have e2:d.toList[m*sz+k]?=some v:=by
   have:(d.toList.take (l.length*sz))[m*sz+k]?=d.toList[m*sz+k]? :=by rw[B9,Ar (by omega)]
   rw[<-this,h4,AF,e1,<-AF,hk]
  simp only[World.cell?,hg,Aa];simpa using e2
 have frz:∀(m k:Nat),w.frozen? ⟨g,0+m*ie.size+k,none⟩=false:=by
  intro m k;simp[World.frozen?,hg]
 have q:=Go.Lib.run_swap_cells (P:=P) gS e ie h8 s g 0 n cap a c (by omega) (by omega) ((enc x).map TV.val) ((enc y).map TV.val) (by rw[hX,h]) (by rw[hY,h]) (λv hv=>by obtain⟨t,_,rfl⟩:=AG.1 hv;exact Tq) (λv hv=>by obtain⟨t,_,rfl⟩:=AG.1 hv;exact Tq) w (cell a x i1) (cell c y j1) (λk _=>frz a k) (λk _=>frz c k);simp only[Gk,h]at q;have h1:=Ht e (0,0) g ((enc y).map TV.val) (a*sz) d w hg (by rw[hY];omega);have a2:(setRow d.toList (a*sz) ((enc y).map TV.val)).toArray.size=d.size:=by
  rw[KZ,Dj (by rw[hY];simp;omega)];simp
 have h2:=Ht e (0,0) g ((enc x).map TV.val) (c*sz) _ _ h1 (by rw[a2,hX];omega);have kB:∀k,k<w.heap.size->k≠g->((w.setCells g (a*sz) ((enc y).map TV.val)).setCells g (c*sz) ((enc x).map TV.val)).heap[k]?=w.heap[k]? :=by
  intro k hk h7;have s1:(w.setCells g (a*sz) ((enc y).map TV.val)).heap.size=w.heap.size:=EN g _ _ _;rw[World.heap_setCells_other _ g _ _ (by rw[s1];exact hk) h7,World.heap_setCells_other _ g _ _ hk h7]
 refine⟨(w.setCells g (a*sz) ((enc y).map TV.val)).setCells g (c*sz) ((enc x).map TV.val),?_,⟨?_,?_,?_,?_,?_⟩,?_⟩
 ·rw[hx];have ea:(#[Value.int .i64 (a:Int),Value.int .i64 (c:Int)]++ #[Value.slice (some ⟨g,0,none⟩) n cap,typeHandle P e])= #[.int .i64 (a:Int),.int .i64 (c:Int),.slice (some ⟨g,0,none⟩) n cap,typeHandle P e]:=rfl;rw[ea,q];rfl
 ·rw[World.os_setCells,World.os_setCells]
 ·rw[Hg,Hg]
 ·rw[World.output_setCells,World.output_setCells]
 ·rw[EN,EN];exact A5 _
 ·intro k hk a3;exact kB k hk (λe=>a3 (by rw[e];simp[L6]))
 have o:(si (si l (a:Int) y) (c:Int) x).length=l.length:=by simp[si]
 have lcur:d.toList.length=d.size:=by simp
 have r:(setRow d.toList (a*sz) ((enc y).map TV.val)).length=d.size:=by rw[Dj (by rw[hY,lcur];omega),lcur]
 have a4:(setRow (setRow d.toList (a*sz) ((enc y).map TV.val)) (c*sz) ((enc x).map TV.val)).length=d.size:=by rw[Dj (by rw[hX,r];omega),r]
 show iE n b g cap e T sz enc _ (si (si l (a:Int) y) (c:Int) x);refine⟨u,o.trans hn,?_,⟨_,h2,?_,?_⟩,by rw[o];exact h5⟩
 ·rw[kB b (hB b (by simp[L6])) u,o];exact h0
 ·rw[KZ];exact a4.trans h3
 rw[o];show(setRow (setRow d.toList (a*sz) ((enc y).map TV.val)) (c*sz) ((enc x).map TV.val)).take (l.length*sz)=_;rw[Jj (by rw[hX];omega) (by rw[r];exact p),Jj (by rw[hY];omega) (by rw[lcur];exact p),h4,<-MD,<-MD];have e1:setRow (AB enc l) (a*sz) (enc y)=AB enc (si l (a:Int) y):=by
  have:=OH f (z:=y) hi
  rwa [AZ]at this
 obtain⟨z0,a5⟩:∃z0,gi (si l (a:Int) y) (c:Int)=some z0:=by
  have lc2:c<(si l (a:Int) y).length:=by simp only[si,EL];exact lc
  refine⟨(si l (a:Int) y)[c],?_⟩;unfold gi;rw[Ar (by omega),AZ];exact Ad lc2
 have e2:=OH f (z:=x) a5;rw[AZ]at e2;rw[e1,e2]
theorem Y3 {w0:Base} {a:Act} {blk:Root->Nat} (h:Cu w0 FA UA N w a E blk FS US) {t:Nat} {ad:Addr} (hs:E.slots t= .one (.adr ad)):a.eval (.tmp t)= .pointer (some ad):=by
 have:=h.slot t;rw[hs]at this;simp only[DD,C1,Cd]at this;exact this.1.1
theorem pX {w0:Base} {a:Act} {blk:Root->Nat} (h:Cu w0 FA UA N w a E blk FS US) {t:Nat} {ad:Addr} {n c:Nat} (hs:E.slots t= .one (.hdr ad n c)):a.eval (.tmp t)= .slice (some ad) n c:=by
 have:=h.slot t;rw[hs]at this;simp only[DD,C1,Cd]at this;exact this.1.1
theorem Fx.any {o:Oper} (d:Nat) (t:TV) (hk:Fx P N ops rest (E.put (some d) (.one t)) K) (b:∀(w0:Base) (FA UA:List Nat) (w:World) (a:Act) (blk:Root->Nat) (FS US:Root->List Nat),Cu w0 FA UA N w a E blk FS US->∃v,(execOp a.eval o).run P w= .ok (.value v) w/\Cd w t v [] []/\v.cells= #[v]) (hd:o.dst=some d:=by rfl) (hN:Nat.blt d N=true:=by rfl) (hg:Bp P ops E o=some true:=by rfl):Fx P N ops (o::rest) E K:=by
 have hN':d<N:=by simpa[Bi]using hN
 intro w0 FA UA w a blk FS US k1 k2 k3;obtain⟨v,h1,h2,h3⟩:=b w0 FA UA w a blk FS US k1;simp only[wpStill,BS k1 hg,BU,Oper.still,h1,Oper.stillUpon_value];rw[hd];refine hk _ _ _ _ _ _ _ _ (k1.put (F:=[]) (U:=[]) hN' (by simp only[DD];exact⟨EK h2,λ_=>h3⟩) VW.none) ?_ ?_
 ·rw[Bg (by simp),k2]
 rw[Bg (by simp),k3]
theorem LB {o:Oper} {ty:TypeId} {x:Nat} (d:Nat) (t:TV) (v:Value) {ad:Addr} (hk:Fx P N ops rest (E.put (some d) (.one t)) K) (hs:E.slots x= .one (.adr ad)) (b:E.amb.rd ad=some v) (hv:∀w,Cd w t v [] []) (hc:v.cells= #[v]) (ha:VR P ty=false) (hu:(P.underlying ty).isSome=true) (ho:o.op= .load ty (.tmp x):=by rfl) (hd:o.dst=some d:=by rfl) (hN:Nat.blt d N=true:=by rfl) (hg:Bp P ops E o=some true:=by rfl):Fx P N ops (o::rest) E K:=
 Fx.any d t hk (λw0 FA UA w a blk FS US h=>by
  have h1:=Y3 h hs;have h2:=E.amb.rdI w ad v h.ambI b;have c:P.underlying ty≠none:=by intro e;rw[e]at hu;cases hu
  refine⟨v,?_,hv w,hc⟩
  simp[execOp,ho,h1,Instr.loadAt,Instr.sureAddr,loadVar,RZ c,ha,h2]) hd hN hg
theorem O4 {o:Oper} {x f:Nat} (d:Nat) {ad:Addr} (hk:Fx P N ops rest (E.put (some d) (.one (.adr (ad.add fd.offset)))) K) (hs:E.slots x= .one (.adr ad)) (c:P.underlying st=some (.struct fs)) (hf:fs[f]?=some fd) (b:P.cellsOf fd.type≠0) (ho:o.op= .fieldAddr st (.tmp x) f:=by rfl) (hd:o.dst=some d:=by rfl) (hN:Nat.blt d N=true:=by rfl) (hg:Bp P ops E o=some true:=by rfl):Fx P N ops (o::rest) E K:=
 Fx.any d (.adr (ad.add fd.offset)) hk (λw0 FA UA w a blk FS US h=>by
  have h1:=Y3 h hs;obtain⟨i,hi,_⟩:=ER b;refine⟨.pointer (some (ad.add fd.offset)),?_,by simp[Cd],rfl⟩
  simp[execOp,ho,h1,Instr.fieldAt,run_underlying c,hf,Instr.sureAddr,fieldPlace,run_sizeOf w hi,b]) hd hN hg
theorem Y5 {o:Oper} {x:Nat} {i:Operand} (d:Nat) {ad:Addr} {n c:Nat} {t e:TypeId} {m:Int} (hk:Fx P N ops rest (E.put (some d) (.one (.adr (ad.add (m.toNat*P.cellsOf e))))) K) (hs:E.slots x= .one (.hdr ad n c)) (ht:P.underlying t=some (.slice e)) (hi:E.cell1 P 0 i=some (.int k m)) (h0:0<=m) (hm:m<n) (f:P.cellsOf e≠0) (ho:o.op= .indexAddr t (.tmp x) i:=by rfl) (hd:o.dst=some d:=by rfl) (hN:Nat.blt d N=true:=by rfl) (hg:Bp P ops E o=some true:=by rfl):Fx P N ops (o::rest) E K:=
 Fx.any d (.adr (ad.add (m.toNat*P.cellsOf e))) hk (λw0 FA UA w a blk FS US h=>by
  have h1:=pX h hs;have h2:=CK h hi;obtain⟨inf,b,_⟩:=ER f;refine⟨.pointer (some (ad.add (m.toNat*P.cellsOf e))),?_,by simp[Cd],rfl⟩
  simp[execOp,ho,h1,h2,Instr.indexAt,run_underlying ht,asIntOf,h0,hm,run_sizeOf w b]) hd hN hg
def RB (P:Program) (f:FuncId) (A:Nz) (as:List AV) (t:TV):Prop:=∀(w:World) (vs:List Value),Iz w as vs [] []->(∀b∈A.B,b<w.heap.size)->A.I w->Calls P f vs.toArray w λe w'=>e= .returned (RB.val t)/\Fv w w' A.B/\A.I w'
where
 val:TV->Value
 | .int k n=> .int k n
 | .bool b=> .bool b
 | .str s=> .string s
 | .fn f ta c=> .func f ta c
 |_=> .bool false
theorem lM {t:TV} (h:Cd w t v F U) (ht:t.flat=true):v=RB.val t:=by
 cases t<;>first|(cases ht;done)|(simp only[Cd]at h;exact h.1)
theorem aE {f:FuncId} {c:Code} {t:TV} (hf:P.funcs[f]?=some fn) (hb:fn.body=some c) (ht:t.flat=true) (h:Wp P fn.ntmps c (Dc as A) λe E=>(e= .normal\/e= .ret)/\E.amb=A/\∃E',Dg P E fn.results.toList=some ([.one t],E')) (hp:A.pin=none:=by rfl):RB P f A as t:=by
 intro w vs ha hB hA;obtain⟨blk,FS,US,g,hF,hU⟩:=R8 (N:=fn.ntmps) ha Ce (by simp) (by simp) (A:=A) hA (λb hb=>⟨hB b hb,by simp,by simp⟩) (hpin:=λb h=>by rw[hp]at h;cases h);refine calls_of_wp hf hb (wp_mono (h _ _ _ _ _ _ _ _ g hF hU) ?_);rintro e a w' ⟨E,blk',FS',US',⟨he,i,E',h1⟩,h2,h3,h4⟩;obtain⟨us,FS2,US2,F,U,k1,k2,k3,k4,k5⟩:=Jw h2 h1;have k6:=Od k2;have hv:=lM k6.1 ht;have hI:A.I w':=by rw[<-i];exact h2.ambI
 have d:a.defers=[]/\∃v,(results fn a.tmps).run P w'= .ok v w'/\Ending.returned v= .returned (RB.val t)/\Fv w w' A.B/\A.I w':=
  ⟨h2.nodef,_,NQ k1,by rw[hv],⟨h2.os,h2.tape,h2.output,h2.size,λb h5 h6=>h2.keep b h5 (by simp) h6⟩,hI⟩
 rcases he with rfl|rfl
 ·exact d
 exact d
theorem WD {ad : Addr} (hf : P.funcs[g]? = some fn) (hn : (fn.name == "runtime.NumGoroutine") = false) (hb : fn.body.isNone = false) (h : ∀ (l : List γ) (i j : Int) (x y : γ), gi l i = some x → gi l j = some y → (∃ w, (Am l).I w) → RB P g (Am l) [.sv (.one (.int .i64 i)), .sv (.one (.int .i64 j)), .sv (.one (.adr ad))] (.bool (lt x y))) : HD P Am lt g #[.pointer (some ad)] := by
 refine⟨λargs w=>?_,λl i j x y hx hy w hI hB=>?_⟩
 ·have a:fn.body≠none:=by intro e;simp[e]at hb
  have b : fn.name ≠ "runtime.NumGoroutine" := by intro e; rw[e] at hn; simp at hn
  simp[callFunc,hf,b,a]
 exact h l i j x y hx hy ⟨w,hI⟩ w [.int .i64 i,.int .i64 j,.pointer (some ad)]
  ⟨_,_,[],[],[],[],rfl,rfl,rfl,⟨by simp[Cd],rfl⟩,⟨_,_,[],[],[],[],rfl,rfl,rfl,⟨by simp[Cd],rfl⟩,⟨_,_,[],[],[],[],rfl,rfl,rfl,⟨by simp[Cd],rfl⟩,⟨rfl,rfl,rfl⟩⟩⟩⟩ hB hI
def TB (P:Program) (f:FuncId) (t e sz:Nat) (enc:γ->List TV) (g:FuncId) (l l':List γ):Prop:=∀(w:World) (b:Nat) (v:Value) (T:TypeId),w.heap[b]?=some (.cells #[v] T (0,0))->w.ownsRow 0 e sz v l.length ((AB enc l).map TV.val)->b∉BH v->
  Calls P f #[.iface t v,.func (.func g) #[] #[.pointer (some ⟨b,0,none⟩)]] w λr w'=>r= .returned (.tuple #[])/\Fv w w' (b::BH v)/\w'.heap[b]?=some (.cells #[v] T (0,0))/\w'.ownsRow 0 e sz v l'.length ((AB enc l').map TV.val)
section
variable {w0:Base} {a:Act}
theorem Cu.turn (h:Cu w0 FA UA N w a E blk FS US) (hF:FS .hand=[]) (hU:US .hand=[]) (hm:r.mem=true) {cells cells':List TV} (hc:E.boxes r=some cells) (l:cells'.length=cells.length) (hb:Fv w w' (FS r)) (g:∃c T F,w'.heap[blk r]?=some (.cells c T (0,0))/\Bl w' cells' c.toList F (US r)/\FS r=blk r::F):
  ∃FS' US',Cu w0 FA UA N w' a ((E.setRoot r cells').bump r) blk FS' US'/\FS' .hand=[]/\US' .hand=[]:=by
 have i:r≠ .hand:=by rintro rfl;cases hm
 have f:∀j,((E.setRoot r cells').bump r).place r [] j=cells'[j]? :=by
  intro j
  cases r with
  |slot n=>cases hm
  |hand=>cases hm
  |box n=>simp[St.place,St.bump,St.setRoot,St.root,BX,BN]
  |ext n=>simp[St.place,St.bump,St.setRoot,St.root,BX,BN]
 have d:∀j,E.place r [] j=cells[j]? :=by
  intro j
  cases r with
  |slot n=>cases hm
  |hand=>cases hm
  |box n=>simp[St.place,St.root,hc,BN]
  |ext n=>simp[St.place,St.root,hc,BN]
 let E1:St:=(E.setRoot r cells').bump r
 have ev:∀s,s≠r->E1.ver s=E.ver s:=by
  intro s hs;cases r<;>simp[E1,St.bump,St.setRoot,BX,hs]
 have evr:E1.ver r=E.ver r+1:=by cases r<;>simp[E1,St.bump,St.setRoot,BX]
 have eg:∀s,E1.gen s=E.gen s:=by intro s;cases r<;>rfl
 have er:∀s,s≠r->E1.root s=E.root s:=by
  intro s hs
  cases r with
  |slot n=>cases hm
  |hand=>cases hm
  |box n=>cases s<;>simp[E1,St.bump,St.setRoot,St.root,BX,hs]
  |ext n=>cases s<;>simp[E1,St.bump,St.setRoot,St.root,BX,hs]
 have es:∀n,E1.slots n=E.slots n:=by
  intro n
  cases r with
  |slot n=>cases hm
  |hand=>cases hm
  |box n=>rfl
  |ext n=>rfl
 have eb:∀s,E1.boxes s=if s=r then some cells' else E.boxes s:=by
  intro s
  cases r with
  |slot n=>cases hm
  |hand=>cases hm
  |box n=>rfl
  |ext n=>rfl
 have k:∀s,BW w w' a a E E1 blk blk s:=by
  intro s;by_cases hs:s=r
  ·subst hs;refine⟨.inl (by rw[evr];omega),.inr ⟨eg s,λj ad hv hp=>?_⟩⟩;refine⟨(by cases s<;>first|exact hv|(cases hm)),?_⟩;rw[d]at hp;rw[show E1.place s [] j=cells'[j]? from f j];have hj:j<cells.length:=by
    rcases Cv j cells.length with q|q
    ·exact q
    rw[Dq q]at hp;cases hp
   rw[Ad (by omega)];rfl
  by_cases hh:s= .hand
  ·subst hh;exact Fz (ev _ hs) (eg _) (by simp[St.root,h.nohand])
  exact D4 h (ev s hs) (eg s) (er s hs) (λ_ _=>rfl) (λ_=>rfl)
   (λb hx=>hb.keep b (h.inF s b hx).2 (h.dis s r hs b hx)) (λb hx=>hb.keep b (h.inU s b hx).2 (λe=>h.disU r s b e hx))
 have k7:=h.two (w':=w') (a':=a) (E':=E1) (blk':=blk) (r1:=r) (r2:= .hand) (L1:=FS r) (L2:=[]) (V1:=US r) (V2:=[]) i
  (by simpa using h.nodup r)
  (λb hx=>⟨.inl (by simpa using hx),AJ (h.inF r b (by simpa using hx)).2 hb.size⟩)
  (λb hx=> .inl ⟨r,by simpa using hx⟩)
  hb.size hb.os hb.tape hb.output (λb hx q _=>hb.keep b hx q) k (λn _ _=>⟨es n,rfl⟩) (λs _ hs _=>⟨by rw[eb,Au hs],rfl⟩)
  (by
   obtain⟨c,T,F,g1,g2,g3⟩:=g;have:Fj w' a E1 blk r (FS r) (US r):=by
    have e1:=eb r;rw[Ar rfl]at e1
    cases r with
    |slot n=>cases hm
    |hand=>cases hm
    |box n=>exact .inr ⟨cells',c,T,F,e1,g1,g2,g3⟩
    |ext n=>exact .inr ⟨cells',c,T,F,e1,g1,g2,g3⟩
   exact this)
  trivial (by rw[eb,Au (Ep i)];exact h.nohand) h.len h.nodef (hfz:=by
   intro n hn;have e:((E.setRoot r cells').bump r).fz=E.fz:=by rw[Nd,Gx]
   exact h.frz n (e▸hn)) (hamb:=by show((E.setRoot r cells').bump r).amb=E.amb;rw[Iq,Dr])
 exact⟨_,_,k7,BA _ _ _,BA _ _ _⟩
end
theorem Rm {w0:Base} {a:Act} (h:Cu w0 FA UA N w a E blk FS US) (hF:FS .hand=[]) (hU:US .hand=[]) (hd:d<N) (v:Value):∃FS' US',Cu w0 FA UA N w (a.put (some d) v) (E.put (some d) (.one .junk)) blk FS' US'/\FS' .hand=[]/\US' .hand=[]:=
 h.land (w':=w) (F:=[]) (U:=[]) hd (by simp[DD,C1,TV.isJunk]) Ce (by simp) (by simp) (A5 _) rfl rfl rfl (λ_ _ _=>rfl)
theorem E8 {enc:γ->List TV} (a:∀x,(enc x).all TV.flat=true):∀l:List γ,(AB enc l).all TV.flat=true
 |[]=>rfl
 |x::l=>by
  have:AB enc (x::l)=enc x++AB enc l:=by simp[AB]
  rw[this,List.all_append,a,E8 a l];rfl
theorem H9 {o:Oper} (h:o.guard=none):Bp P ops E o=some true:=by unfold Bp;rw[h]
theorem EY.srt {l l':List γ} {o1 o2 o3:Oper} {d1 d2 d3 x p ver:Nat} {enc:γ->List TV} {sz e t:Nat} {f b:FuncId} {tys:Array TypeId} (hs:TB P f t e sz enc b l l') (hk:EY P N ops rest (((((E.put (some d1) (.one .junk)).put (some d2) (.one .junk)).setRoot r [.sl true e sz (AB enc l')]).bump r).put (some d3) (.tup [])) Q) (i:∀x,(enc x).length=sz) (c:∀x,(enc x).all TV.flat=true) (hx:E.slots x= .one (.view r ver [] 0):=by rfl) (j:E.ver r=ver:=by rfl) (hp:E.ptr? (.tmp p)=some (r,[],0):=by rfl) (hc:E.boxes r=some [.sl true e sz (AB enc l)]:=by rfl) (hm:r.mem=true:=by rfl) (h1:o1.op= .makeInterface t (.tmp x):=by rfl) (h2:o2.op= .makeFunc (.func b) #[] #[.tmp p]:=by rfl) (h3:o3.op= .call {callee:= .value (.func f),args:= #[.tmp d1,.tmp d2],argTypes:=tys}:=by rfl) (k1:o1.dst=some d1:=by rfl) (k2:o2.dst=some d2:=by rfl) (k3:o3.dst=some d3:=by rfl) (g1:o1.guard=none:=by rfl) (g2:o2.guard=none:=by rfl) (g3:o3.guard=none:=by rfl) (u:Nat.blt d1 N=true:=by rfl) (y:Nat.blt d2 N=true:=by rfl) (z:Nat.blt d3 N=true:=by rfl) (h0:Nat.beq d1 d2=false:=by rfl) (k:Nat.beq p d1=false:=by rfl) (h4:Nat.blt 0 sz=true:=by rfl) (ht:P.underlying t=some (.slice e):=by rfl) (hf:Yk P f):EY P N ops (o1::o2::o3::rest) E Q:=by
 have hN1':d1<N:=by simpa[Bi]using u
 have hN2':d2<N:=by simpa[Bi]using y
 have hN3':d3<N:=by simpa[Bi]using z
 have hne':d1≠d2:=by intro e;subst e;simp at h0
 have hne2':p≠d1:=by intro e;subst e;simp at k
 have hsz':0<sz:=by simpa[Bi]using h4
 intro w0 FA UA w a blk FS US hr hF hU;have m:∃v T F,w.heap[blk r]?=some (.cells #[v] T (0,0))/\Cd w (.sl true e sz (AB enc l)) v F (US r)/\FS r=blk r::F:=by
  rcases hr.box r hm with⟨q1,_⟩|⟨cs,o,T,F,q1,q2,q3,q4⟩
  ·rw[hc]at q1;cases q1
  rw[hc]at q1
  injection q1 with q1
  subst q1;simp only[Bl]at q3;obtain⟨v,h5,F1,F2,U1,U2,e1,rfl,e3,q5,rfl,rfl,rfl⟩:=q3;have:o= #[v]:=by apply Pw;simpa using e1
  subst this;rw[Aw]at q4;rw[e3,Aw];exact⟨v,T,F1,q2,q5,q4⟩
 obtain⟨v,T,F,b1,b2,b3⟩:=m;simp only[Cd]at b2;obtain⟨n,vs,F',b4,b5,rfl⟩:=b2;have h6:=Rf b5 (E8 c l);obtain⟨rfl,a4⟩:=IB b5 (E8 c l);subst h6;have h7:n=l.length:=by
  have q:=b4.1;rw[AQ,Em i l]at q;exact(Nat.eq_of_mul_eq_mul_right hsz' q).symm
 subst h7;rw[Aw]at b3;have h8:blk r∉BH v:=by
  have:=hr.nodup r;rw[b3]at this;exact(CS.1 this).1
 have evx:a.eval (.tmp x)=v:=by
  have q:=hr.slot x;rw[hx]at q;simp only[DD,C1]at q;obtain⟨⟨_,_,_,q4⟩,_⟩:=q;obtain⟨q5,_⟩:=q4 j
  cases r with
  |slot n=>cases hm
  |hand=>cases hm
  |box n=>simpa[pv,B8,Addr.add,World.cell?,b1]using q5.symm
  |ext n=>simpa[pv,B8,Addr.add,World.cell?,b1]using q5.symm
 have evp:a.eval (.tmp p)= .pointer (some ⟨blk r,0,none⟩):=by
  obtain⟨_,ad,q1,q2⟩:=IU hr hp;rw[q2]
  cases r with
  |slot n=>cases hm
  |hand=>cases hm
  |box n=>simp[pa,Addr.add]at q1;rw[<-q1]
  |ext n=>simp[pa,Addr.add]at q1;rw[<-q1]
 obtain⟨FS1,US1,r1,r2,r3⟩:=Rm hr hF hU hN1' (.iface t v);have e1:(execOp a.eval o1).run P w= .ok (.value (.iface t v)) w:=by
  simp[execOp,h1,Instr.makeInterface,run_underlying ht,evx]
 simp only[wpList,BS hr (H9 (P:=P) (ops:=ops) g1),BU];refine .inl ?_
 try unfold Oper.wp
 rw[e1,Oper.upon_value,k1];have evp1:(a.put (some d1) (.iface t v)).eval (.tmp p)= .pointer (some ⟨blk r,0,none⟩):=by rw[CQ hne2',evp]
 obtain⟨FS2,US2,s1,s2,s3⟩:=Rm r1 r2 r3 hN2' (.func (.func b) #[] #[.pointer (some ⟨blk r,0,none⟩)]);have e2:(execOp (a.put (some d1) (.iface t v)).eval o2).run P w= .ok (.value (.func (.func b) #[] #[.pointer (some ⟨blk r,0,none⟩)])) w:=by
  simp[execOp,h2,Instr.makeFunc,evp1]
 simp only[wpList,BS r1 (H9 (P:=P) (ops:=ops) g2),BU];refine .inl ?_
 try unfold Oper.wp
 rw[e2,Oper.upon_value,k2];simp only[wpList,BS s1 (H9 (P:=P) (ops:=ops) g3),BU];refine .inl ?_;have h9:d1<a.tmps.size:=AJ hN1' hr.len;have a0:d2<(a.put (some d1) (.iface t v)).tmps.size:=AJ hN2' r1.len
 try unfold Oper.wp
 rw[HI h3 hf];have ea: #[Operand.tmp d1,.tmp d2].map ((a.put (some d1) (.iface t v)).put (some d2) (.func (.func b) #[] #[.pointer (some ⟨blk r,0,none⟩)])).eval= #[.iface t v,.func (.func b) #[] #[.pointer (some ⟨blk r,0,none⟩)]]:=by
  simp[EJ a0,CQ hne',EJ h9]
 rw[ea];simp only[Oper.upon];refine Calls.mono (hs w (blk r) v T b1 b4 h8) ?_;rintro ee w' ⟨rfl,a1,a2,a3⟩;have g:((E.put (some d1) (.one .junk)).put (some d2) (.one .junk)).boxes r=some [.sl true e sz (AB enc l)]:=hc;have h:∃F2,FS2 r=blk r::F2/\F2=BH v/\US2 r=[]:=by
  rcases s1.box r hm with⟨q1,_⟩|⟨cs,o,T2,F2,q1,q2,q3,q4⟩
  ·rw[g]at q1;cases q1
  rw[g]at q1
  injection q1 with q1
  subst q1;rw[b1]at q2
  injection q2 with q2
  injection q2 with q2
  subst q2;simp only[Bl]at q3;obtain⟨v2,h5,F3,F4,U1,U2,e1,rfl,e3,q5,rfl,rfl,rfl⟩:=q3;simp at e1;subst e1;simp only[Cd]at q5;obtain⟨n,vs,F',c4,c5,rfl⟩:=q5;obtain⟨rfl,rfl⟩:=IB c5 (E8 c l);rw[Aw]at e3;exact⟨_,q4,by simp,e3⟩
 obtain⟨F2,f1,rfl,f3⟩:=h;obtain⟨FS3,US3,t1,t2,t3⟩:=s1.turn s2 s3 hm g (cells':=[.sl true e sz (AB enc l')]) rfl (w':=w') (by rw[f1];exact a1)
  ⟨#[v],T,BH v,a2,by
   rw[f3];simp only[Bl];refine⟨v,[],BH v,[],[],[],rfl,by simp,rfl,?_,rfl,rfl,rfl⟩;simp only[Cd]
   exact⟨l'.length,_,[],a3,QE (E8 c l'),by simp⟩,f1⟩
 obtain⟨FS4,US4,u1,u2,u3⟩:=t1.land (w':=w') (d:=d3) (s:= .tup []) (v:= .tuple #[]) (F:=[]) (U:=[]) hN3' (by simp[DD,L3]) Ce (by simp) (by simp) (A5 _) rfl rfl rfl (λ_ _ _=>rfl);rw[k3];exact hk _ _ _ _ _ _ _ _ u1 u2 u3
def pI (b:Nat) (v:Value) (T:TypeId) (e sz n:Nat) (xs:List Value):Nz where
 B:=b::BH v
 I:=λw=>w.heap[b]?=some (.cells #[v] T (0,0))/\w.ownsRow 0 e sz v n xs
 st:=λw w' h hk=>⟨by rw[hk b (by simp)];exact h.1,h.2.1,by
  rcases h.2.2 with q|⟨g,cap,a,rfl,q1,q2,q3⟩
  ·exact .inl q
  exact .inr ⟨g,cap,a,rfl,q1,by rw[hk g (by simp[BH,Value.ownBlock])];exact q2,q3⟩⟩
theorem lQ {l:List γ} {x:γ} {k:Nat} {n b g cap:Nat} {e T:TypeId} {enc:γ->List TV} (a:∀x,(enc x).length=sz) {t:TV} {ad:Addr} (hi:gi l i=some x) (hk:(enc x)[k]?=some t) (hb:b≠g) (d:ad=⟨g,i.toNat*sz+k,none⟩):(L6 n b g cap e T sz enc l).rd ad=some t.val:=by
 subst d;obtain⟨i0,i1⟩:=GI hi;have lm:=(Ag.1 i1).1;have c:=(Ag.1 hk).1;rw[a]at c;have f:(i.toNat+1)*sz<=l.length*sz:=B4 _ lm;rw[Df]at f;have e1:(AB enc l)[i.toNat*sz+k]?=(enc x)[k]? :=by
  have h2:(AB enc l)[i.toNat*sz+k]?=((AB enc l).drop (i.toNat*sz))[k]? :=by rw[BJ]
  rw[h2,HO a l i.toNat,BP lm,MV];have e4:l[i.toNat]=x:=by rw[Ad lm]at i1;injection i1
  rw[e4,AS (by rw[a];exact c)]
 simp only[L6,Hv,CN,Iu];rw[Au (λe=>hb e.symm),BU,Ar (by omega),AF,e1,hk];rfl
theorem lS {l:List γ} {n b g cap:Nat} {e T:TypeId} {enc:γ->List TV}:(L6 n b g cap e T sz enc l).rd ⟨b,0,none⟩=some (.slice (some ⟨g,0,none⟩) n cap):=by
 simp[L6]
theorem WU {g m:Nat}:((⟨g,0,none⟩:Addr).add m)=⟨g,m,none⟩:=by
 unfold Addr.add;split
 ·rename_i h;subst h;rfl
 simp
theorem hJ (h:gi l i=some x):0<=i/\i<l.length:=by
 obtain⟨i0,i1⟩:=GI h;have lm:=(Ag.1 i1).1;exact⟨i0,by omega⟩
def qU (t t':TV):Prop:=t=t'\/∃e sz a cells',t= .sl true e sz a/\By a=cells'/\t'= .sl false e sz cells'
def tG:List TV->List TV->Prop
 |[],ts'=>ts'=[]
 |t::ts,ts'=>∃x xs,ts'=x::xs/\qU t x/\tG ts xs
mutual
def aZ:SV->SV->Prop
 | .one t,s'=>∃t',s'= .one t'/\qU t t'
 | .agg cs,s'=>∃cs',s'= .agg cs'/\tG cs cs'
 | .tup ss,s'=>∃ss',s'= .tup ss'/\WW ss ss'
def WW:List SV->List SV->Prop
 |[],ss'=>ss'=[]
 |s::ss,ss'=>∃x xs,ss'=x::xs/\aZ s x/\WW ss xs
end
theorem tG.c {t x:TV} {ts xs:List TV} (h:qU t x) (k:tG ts xs):tG (t::ts) (x::xs):=⟨x,xs,rfl,h,k⟩
theorem qU.s {e sz:Nat} {a cells':List TV} (h:By a=cells'):qU (.sl true e sz a) (.sl false e sz cells'):= .inr ⟨e,sz,a,cells',rfl,h,rfl⟩
theorem aZ.a {cs cs':List TV} (h:tG cs cs'):aZ (.agg cs) (.agg cs'):=⟨cs',rfl,h⟩
theorem aZ.o {t t':TV} (h:qU t t'):aZ (.one t) (.one t'):=⟨t',rfl,h⟩
theorem wF {ss':List SV} (h:WW ss ss'):aZ (.tup ss) (.tup ss'):=⟨ss',rfl,h⟩
theorem WW.c {xs:List SV} {s x:SV} (h:aZ s x) (k:WW ss xs):WW (s::ss) (x::xs):=⟨x,xs,rfl,h,k⟩
def Ha (F U F' U':List Nat):Prop:=F'.Sublist F/\∀b∈U',b∈U\/(b∈F/\b∉F')
theorem OV {F1 F2 U1 U2 F1' F2' U1' U2':List Nat} (hd:(F1++F2).Nodup) (h:Ha F1 U1 F1' U1') (k:Ha F2 U2 F2' U2'):Ha (F1++F2) (U1++U2) (F1'++F2') (U1'++U2'):=by
 obtain⟨_,_,hd⟩:=AY.1 hd;refine⟨h.1.append k.1,λb hb=>?_⟩
 rcases Al.1 hb with hb|hb
 ·rcases h.2 b hb with q|⟨q1,q2⟩
  ·exact .inl (by simp[q])
  refine .inr ⟨by simp[q1],λhc=>?_⟩
  rcases Al.1 hc with hc|hc
  ·exact q2 hc
  exact hd b q1 b (k.1.subset hc) rfl
 rcases k.2 b hb with q|⟨q1,q2⟩
 ·exact .inl (by simp[q])
 refine .inr ⟨by simp[q1],λhc=>?_⟩
 rcases Al.1 hc with hc|hc
 ·exact hd b (h.1.subset hc) b q1 rfl
 exact q2 hc
theorem Ha.refl:Ha F U F U:=⟨List.Sublist.refl _,λb hb=> .inl hb⟩
theorem rW {t t':TV} (h:Cd w t v F U) (k:qU t t'):∃F' U',Cd w t' v F' U'/\Ha F U F' U':=by
 rcases k with rfl|⟨e,sz,a,cells',rfl,rfl,rfl⟩
 ·exact⟨F,U,h,Ha.refl⟩
 obtain⟨U',h1,h2⟩:=OQ h;exact⟨[],U',h1,List.nil_sublist _,λb hb=>(h2 b hb).elim (λq=> .inr ⟨q,by simp⟩) .inl⟩
end Go.TI
