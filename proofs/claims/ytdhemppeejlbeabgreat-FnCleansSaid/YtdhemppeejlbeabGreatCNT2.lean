/- What walks of Go code need. No condition. -/
import Derived.Test.YtdhemppeejlbeabGreatCNT1
import Derived.Orders
import Derived.Still
import Derived.StillTail
import Derived.OrdersHeld
import Derived.Deep.Slices
import Derived.ChangeOld
import Derived.DataReads
import Derived.Lib.ReflectliteSwap
import Derived.Deep.Upon
set_option linter.unusedVariables false
namespace Go.TI
open Go Go.RowKit
section
variable (P:Program)
def Ef (E:St):List ResultVar->Option (List SV×St)
 |[]=>some ([],E)
 | .tmp t::rs=>match E.val P 0 (.tmp t)with
  |some s=>match M9 E s with
   |some (xs,E1)=>match Ef E1 rs with
    |some (ss,E2)=>some (s.withCells xs::ss,E2)
    |none=>none
   |none=>none
  |none=>none
 | .cell t ty :: rs => match Bm P E { dst := none, op := .load ty (.tmp t), type := ty, pos := "", after := #[], guard := none } with
  |some s=>match M9 E s with
   |some (xs,E1)=>match Ef E1 rs with
    |some (ss,E2)=>some (s.withCells xs::ss,E2)
    |none=>none
   |none=>none
  |none=>none
end
def EU:List SV->SV
 |[s]=>s
 |ss=> .tup ss
section
variable {a:Act}
def OK (P:Program) (tmps:Array Value):ResultVar->Sem Value
 | .tmp t=>pure (tmps.getD t undef)
 | .cell a t=>do loadVar t (<-asAddr (tmps.getD a undef))
end
variable {E E':St} {P:Program} {N sz fuel d k j by_:Nat} {α γ β S:Type} {ops:Array Oper} {Q:Exit->St->Prop} {w w':World} {rest:List Oper} {i n:Int} {K:St->Prop} {FA UA q F U:List Nat} {FS US:Root->List Nat} {listed:Array Bool} {blk:Root->Nat} {v:Value} {oo:Oper} {fn:Func} {as:List AV} {g sf:FuncId} {md:Region.Mode} {o1 o2:Operand} {ss:List SV} {y:Code} {lo:Option Operand} {A' A:QZ} {vs:List Value} {st:TypeId} {fs:Array Field} {fd:Field} {zs cs':List TV} {T:Nat->Bool} {k2 k1:IntKind} {f:α->List TV} {l:List α} {x:α} {z:α} {Am:List γ->QZ} {tx:Option β} {ty:Option β} {lt:γ->γ->Bool}
theorem YD (fn:Func) (tmps:Array Value):results fn tmps=(do
  let vs<-fn.results.mapM (OK P tmps)
  pure (if h:vs.size=1 then vs[0]else .tuple vs)):=by
 unfold results;congr 1
section
variable {w0:Base} {a:Act}
theorem Mu:∀{rs:List ResultVar} {ss:List SV} {E E':St} {FS US:Root->List Nat},Db w0 FA UA N w a E blk FS US->Ef P E rs=some (ss,E')->
  ∃vs FS' US' F U,(rs.mapM (OK P a.tmps)).run P w= .ok vs w/\PD w ss vs F U/\Db w0 FA UA N w a E' blk FS' US'/\FS' .hand=FS .hand++F/\US' .hand=US .hand++U
 |[],ss,E,E',FS,US,h,ht=>by
  simp only[Ef,Ao,Bz]at ht;obtain⟨rfl,rfl⟩:=ht;exact⟨[],FS,US,[],[],by simp,by simp[PD],h,by simp,by simp⟩
 | .tmp t::rs,ss,E,E',FS,US,h,ht=>by
  simp only[Ef]at ht;split at ht
  ·rename_i s hs;split at ht
   ·rename_i xs E1 hx;split at ht
    ·rename_i ss' E2 d;simp only[Ao,Bz]at ht;obtain⟨rfl,rfl⟩:=ht;obtain⟨U,h1,h2⟩:=K5 h hs;obtain⟨FS1,US1,F1,U1,h3,h4,h5,h6,_,_⟩:=Lo h h1 h2 hx;obtain⟨vs,FS2,US2,F2,U2,k1,k2,k3,k4,k5⟩:=Mu h4 d;obtain⟨hp,hl⟩:=Tn hx;refine⟨a.eval (.tmp t)::vs,FS2,US2,F1++F2,U1++U2,?_,?_,k3,by rw[k4,h5,Au],by rw[k5,h6,Au]⟩
     ·rw[List.mapM_cons];simp[OK,k1,Act.eval]
     simp only[PD];exact⟨_,vs,F1,F2,U1,U2,rfl,rfl,rfl,MM h1 hp hl h3,k2⟩
    cases ht
   cases ht
  cases ht
 | .cell t ty::rs,ss,E,E',FS,US,h,ht=>by
  simp only[Ef]at ht;split at ht
  ·rename_i s hs;split at ht
   ·rename_i xs E1 hx;split at ht
    ·rename_i ss' E2 d;simp only[Ao,Bz]at ht;obtain⟨rfl,rfl⟩:=ht;obtain⟨v,U,h0,h1,h2⟩:=T4 h hs;obtain⟨FS1,US1,F1,U1,h3,h4,h5,h6,_,_⟩:=Lo h h1 h2 hx;obtain⟨vs,FS2,US2,F2,U2,k1,k2,k3,k4,k5⟩:=Mu h4 d;obtain⟨hp,hl⟩:=Tn hx;have b:=h0 w (λr _=>⟨λ_ _=>rfl,λ_ _=>rfl⟩);have e:(OK P a.tmps (.cell t ty)).run P w= .ok v w:=by
      have c:∃r q j,E.ptr? (.tmp t)=some (r,q,j):=by
       simp only[Bm]at hs;split at hs
       ·rename_i r q j c;exact⟨r,q,j,c⟩
       cases hs
      obtain⟨r,q,j,c⟩:=c;obtain⟨_,ad,_,f⟩:=KK h c;simp only[execOp,Instr.loadAt,f,Instr.sureAddr]at b;simp only[Act.eval]at f;simp only[OK,f,asAddr];simp only[Sem.run_bind,Sem.run_pure,Result.andThen_ok]at b⊢
      cases hl:(loadVar ty ad).run P w with
      |ok u w2=>
       rw[hl]at b;simp only[Result.andThen_ok,Result.ok.injEq,Next.value.injEq]at b;obtain⟨rfl,rfl⟩:=b;rfl
      |halt x w2=>
       rw[hl]at b;simp at b
     refine⟨v::vs,FS2,US2,F1++F2,U1++U2,?_,?_,k3,by rw[k4,h5,Au],by rw[k5,h6,Au]⟩
     ·rw[List.mapM_cons];simp[e,k1]
     simp only[PD];exact⟨_,vs,F1,F2,U1,U2,rfl,rfl,rfl,MM h1 hp hl h3,k2⟩
    cases ht
   cases ht
  cases ht
end
section
variable {a:Act}
theorem Oy (h:(fn.results.toList.mapM (OK P a.tmps)).run P w= .ok vs w):(results fn a.tmps).run P w= .ok (if h:vs.length=1 then vs[0]else .tuple vs.toArray) w:=by
 rw[YD (P:=P)];have:fn.results.mapM (OK P a.tmps)=List.toArray<$>fn.results.toList.mapM (OK P a.tmps):=by
  rw[<-List.mapM_toArray]
 rw[this];simp[h]
end
theorem R5 (h:PD w ss vs F U):Xj w (EU ss) (if h:vs.length=1 then vs[0]else .tuple vs.toArray) F U:=by
 unfold EU;split
 ·rename_i s;simp only[PD]at h;obtain⟨v,a,F1,F2,U1,U2,rfl,rfl,rfl,h1,rfl,rfl,rfl⟩:=h;simpa using h1
 rename_i b;have hl:vs.length=ss.length:=by
  have:∀{ss:List SV} {vs:List Value} {F U:List Nat},PD w ss vs F U->vs.length=ss.length:=by
   intro ss
   induction ss with
   |nil=>intro vs F U h;simp only[PD]at h;simp[h.1]
   |cons s ss ih=>
    intro vs F U h;simp only[PD]at h;obtain⟨v,a,F1,F2,U1,U2,rfl,rfl,rfl,h1,h2⟩:=h;simp[ih h2]
  exact this h
 have:¬vs.length=1:=by
  intro h1;rw[h1]at hl
  match ss,hl with
  |[s],_=>exact b s rfl
 rw[dif_neg this];simp only[Xj];exact⟨vs,rfl,h⟩
theorem yZ {f:FuncId} {c:Code} {res:SV} (hf:P.funcs[f]?=some fn) (hb:fn.body=some c) (h:Wp P fn.ntmps c (DL as) λe E=>(e= .normal\/e= .ret)/\∃ss E',Ef P E fn.results.toList=some (ss,E')/\EU ss=res):
  AI P f as res (List.replicate as.length .gone):=by
 intro w vs FA UA ha j i k;obtain⟨blk,FS,US,hr,hF,hU⟩:=Sa (N:=fn.ntmps) ha j i k (A:=QZ.none) trivial (λb hb=>by cases hb);refine calls_of_wp hf hb (wp_mono (h _ _ _ _ _ _ _ _ hr hF hU) ?_);rintro e a w' ⟨E,blk',FS',US',⟨he,ss,E',h1,rfl⟩,h2,h3,h4⟩;obtain⟨us,FS2,US2,F,U,k1,k2,k3,k4,k5⟩:=Mu h2 h1;rw[h3,AA]at k4;rw[h4,AA]at k5;have g:∀(n:Nat) (vs:List Value),vs.length=n->La w' (List.replicate n .gone) vs [] []:=by
  intro n
  induction n with
  |zero=>intro vs hv;simp at hv;subst hv;exact⟨rfl,rfl,rfl⟩
  |succ n ih=>
   intro vs hv
   cases vs with
   |nil=>simp at hv
   |cons v vs=>exact⟨v,vs,[],[],[],[],rfl,rfl,rfl,⟨rfl,rfl⟩,ih vs (by simpa using hv)⟩
 have l:vs.length=as.length:=by
  obtain⟨_,_,_,_,h5,_⟩:=SH ha;exact h5
 have d:a.defers=[]/\∃v,(results fn a.tmps).run P w'= .ok v w'/\∃v' F U G V,Ending.returned v= .returned v'/\AAb w w' FA UA (EU ss) (List.replicate as.length .gone) vs v' F U G V:=by
  refine⟨h2.nodef,_,Oy k1,_,F,U,[],[],rfl,?_⟩
  exact{
   res:=R5 k2
   fin:=g _ _ l
   nodup:=by simpa[<-k4]using k3.nodup .hand
   dis:=by
    intro b hb hb';simp only[A0]at hb hb';rw[<-k4]at hb;rw[<-k5]at hb';exact k3.disU .hand .hand b hb hb'
   inF:=by
    intro b hb;simp only[A0]at hb;rw[<-k4]at hb;exact k3.inF .hand b hb
   inU:=by
    intro b hb;simp only[A0]at hb;rw[<-k5]at hb;exact k3.inU .hand b hb
   os:=k3.os
   tape:=k3.tape
   output:=k3.output
   size:=k3.size
   keep:=λb hb hF=>k3.keep b hb hF (λe=>by cases e)}
 rcases he with rfl|rfl
 ·exact d
 exact d
theorem ACY {l:List Oper} {ops:Array Oper} (t:Nat) {b:Bool} (_:E.cell1 P 0 (.tmp t)=some (.bool b)) (ht:b=true->Hr P N ops l E Q) (hf:b=false->Hr P N ops l E Q):Hr P N ops l E Q:=by
 cases b
 ·exact hf rfl
 exact ht rfl
def ACo (ls:List (Nat×SV)) (bs:List (Root×List TV)):St where
 slots:=λn=>(ls.lookup n).getD (.one .junk)
 boxes:=λr=>bs.lookup r
 ver:=λ_=>0
 gen:=λ_=>0
def sE (ls:List Nat) (bs:List Root):Root->Bool
 | .slot n=>ls.contains n
 |r=>bs.contains r
def UX (E:St) (ls:List Nat) (bs:List Root):TV->TV
 | .view r v q j=>if E.ver r=v/\sE ls bs r=true then .view r 0 q j else .junk
 | .ptr r v q j=>if E.stamp r q=v/\sE ls bs r=true then .ptr r 0 q j else .junk
 |t=>t
def nSV (E:St) (ls:List Nat) (bs:List Root):SV->SV
 | .one t=> .one (UX E ls bs t)
 | .agg cs=> .agg (cs.map (UX E ls bs))
 | .tup _=> .one .junk
def MD (E:St) (ls:List Nat) (bs:List Root):St:={ACo (ls.map λn=>(n,nSV E ls bs (E.slots n))) (bs.map λr=>(r,(E.boxes r).getD []))with amb:=E.amb,fz:=E.fz}
theorem Va {f:Nat->SV}:∀{ls:List Nat} {n:Nat},((ls.map λn=>(n,f n)).lookup n)=if ls.contains n=true then some (f n)else none
 |[],n=>rfl
 |m::ls,n=>by
  simp only[BE,List.lookup_cons,List.contains_cons];by_cases h:n=m
  ·subst h;simp
  have:(n==m)=false:=by simpa using h
  rw[this,Va];simp
theorem HF {f:Root->List TV}:∀{bs:List Root} {r:Root},((bs.map λr=>(r,f r)).lookup r)=if bs.contains r=true then some (f r)else none
 |[],r=>rfl
 |s::bs,r=>by
  simp only[BE,List.lookup_cons,List.contains_cons];by_cases h:r=s
  ·subst h;simp
  have:(r==s)=false:=by simpa using h
  rw[this,HF];simp
theorem yE {ls:List Nat} {bs:List Root} {o:Bool} {e sz:Nat} {a:List TV}:UX E ls bs (.sl o e sz a)= .sl o e sz a:=rfl
theorem zK {ls:List Nat} {bs:List Root} {cs a:List TV} {c:Nat} (h:Ca cs (c::q)=some a):Ca (cs.map (UX E ls bs)) (c::q)=some a:=by
 simp only[Ca,AT]at h⊢;split at h
 ·rename_i o e sz b hc;simp only[hc,B9,yE];exact h
 cases h
theorem uB {ls:List Nat} {bs:List Root} {r:Root} (hk:sE ls bs r=true) (hb:∀r∈bs,r.mem=true/\(E.boxes r).isSome=true) (c:E.boxes .hand=none):
  (∀n,r≠ .slot n)->(MD E ls bs).root r=E.root r:=by
 intro hn;have a:∀r,bs.contains r=true->(bs.map λr=>(r,(E.boxes r).getD [])).lookup r=E.boxes r:=by
  intro r hr;rw[HF,Ax hr];obtain⟨cs,b⟩:=FQ.1 (hb r (by simpa using hr)).2;rw[b];rfl
 cases r with
 |slot n=>exact absurd rfl (hn n)
 |box n=>exact a _ hk
 |ext n=>exact a _ hk
 |hand=>exact a _ hk
theorem dU {n:Nat} {ls:List Nat} {bs:List Root}:(MD E ls bs).slots n=if ls.contains n=true then nSV E ls bs (E.slots n)else .one .junk:=by
 simp only[MD,ACo];rw[Va];split<;>rfl
theorem YN {ls:List Nat} {bs:List Root} {r:Root} (hk:sE ls bs r=true) (hb:∀r∈bs,r.mem=true/\(E.boxes r).isSome=true) (d:E.boxes .hand=none) (hq:q=[]->r.mem=true\/Lm (E.place r q j)=true) (hs:(E.place r q j).isSome=true):(MD E ls bs).place r q j=E.place r q j:=by
 by_cases b:∃n,r= .slot n
 ·obtain⟨n,rfl⟩:=b;have hk':ls.contains n=true:=hk;simp only[St.place,St.root,Aa]at hs hq⊢;rw[dU,Ax hk'];have a:(nSV E ls bs (E.slots n)).cells=(E.slots n).cells.map (UX E ls bs)\/(E.slots n).cells=[]:=by
   cases E.slots n with
   |one t=>exact .inl rfl
   |agg cs=>exact .inl rfl
   |tup ss=>exact .inr rfl
  rcases a with hc|hc
  ·rw[hc]
   cases q with
   |nil=>
    rcases hq rfl with h1|h1
    ·cases h1
    simp only[Ca,Aa]at h1⊢;rw[AT]
    cases hx:(E.slots n).cells[j]? with
    |none=>rw[hx]at h1;cases h1
    |some t=>
     rw[hx]at h1;cases t<;>first|rfl|cases h1
   |cons c q=>
    cases hx:Ca (E.slots n).cells (c::q)with
    |none=>rw[hx]at hs;cases hs
    |some row=>rw[zK hx]
  rw[hc]at hs;exfalso
  cases q with
  |nil=>simp[Ca]at hs
  |cons c q=>simp[Ca]at hs
 simp only[St.place,uB hk hb d (λn e=>b ⟨n,e⟩)]
theorem ZG {a:Act} {ls:List Nat} {bs:List Root} (hb:∀r∈bs,r.mem=true/\(E.boxes r).isSome=true) (d:E.boxes .hand=none) {t:TV} (h:CX w a E blk t v F U):CX w a (MD E ls bs) blk (UX E ls bs t) v F U:=by
 cases t with
 |view r ver q j=>
  obtain⟨rfl,rfl,_,hc⟩:=h;simp only[UX];split
  ·rename_i c;obtain⟨h1,h2⟩:=hc c.1;refine⟨rfl,rfl,Lh _,λ_=>⟨h1,?_⟩⟩;rw[YN c.2 hb d (λ_=> .inr h2) (by cases hx:E.place r q j with|none=>rw[hx]at h2;cases h2|some _=>rfl)];exact h2
  exact⟨rfl,rfl⟩
 |ptr r ver q j=>
  obtain⟨rfl,rfl,_,hc⟩:=h;simp only[UX];split
  ·rename_i c;obtain⟨h1,ad,h2,h3⟩:=hc c.1;refine⟨rfl,rfl,Lh _,λ_=>⟨?_,ad,h2,h3⟩⟩;rw[YN c.2 hb d (λhq=> .inl (by subst hq;cases r<;>first|rfl|(simp[pa]at h2;done))) h1];exact h1
  exact⟨rfl,rfl⟩
 |junk=>exact h
 |int k n=>exact h
 |bool b=>exact h
 |str s=>exact h
 |fn _ _ _=>exact h
 |adr _=>exact h
 |hdr _ _ _=>exact h
 |sl o e sz cells=>exact h
theorem WW {a:Act} {ls:List Nat} {bs:List Root} (hb:∀r∈bs,r.mem=true/\(E.boxes r).isSome=true) (b:E.boxes .hand=none):∀{ts:List TV} {vs:List Value} {F U:List Nat},Da w a E blk ts vs F U->Da w a (MD E ls bs) blk (ts.map (UX E ls bs)) vs F U
 |[],_,_,_,h=>h
 |t::ts,vs,F,U,h=>by
  obtain⟨v,c,F1,F2,U1,U2,h1,h2,h3,h4,h5⟩:=h;exact⟨v,c,F1,F2,U1,U2,h1,h2,h3,ZG hb b h4,WW hb b h5⟩
theorem Db.norm {w0:Base} {a:Act} (h:Db w0 FA UA N w a E blk FS US) (ls:List Nat) (bs:List Root) (hb:∀r∈bs,r.mem=true/\(E.boxes r).isSome=true):
  ∃FS' US',Db w0 FA UA N w a (MD E ls bs) blk FS' US'/\FS' .hand=[]/\US' .hand=[]:=by
 have e:=h.nohand
 let st:Root->Bool:=λr=>match r with
  | .slot n=>ls.contains n&&(match E.slots n with| .tup _=>false|_=>true)
  | .hand=>false
  |r=>bs.contains r
 let FS':Root->List Nat:=λr=>if st r=true then FS r else []
 let US':Root->List Nat:=λr=>if st r=true then US r else []
 have hF:∀r b,b∈FS' r->b∈FS r:=by intro r b hx;simp only[FS']at hx;split at hx;exact hx;cases hx
 have hU:∀r b,b∈US' r->b∈US r:=by intro r b hx;simp only[US']at hx;split at hx;exact hx;cases hx
 refine⟨FS',US',?_,by simp[FS',st],by simp[US',st]⟩;constructor
 ·intro n;rw[dU];have hs:=h.slot n
  cases hc:ls.contains n with
  |false=>
   have:st (.slot n)=false:=by show(ls.contains n&&_)=false;rw[hc];rfl
   simp[EJ,CX,TV.isJunk,FS',US',this]
  |true=>
   rw[Ax rfl]
   cases c:E.slots n with
   |one t=>
    have:st (.slot n)=true:=by show(ls.contains n&&_)=true;rw[hc,c];rfl
    rw[c]at hs;simp only[EJ]at hs;simp only[nSV,EJ,FS',US',this,BR];refine⟨ZG hb e hs.1,λhj=>hs.2 ?_⟩;cases t<;>first|rfl|cases hj
   |agg cs=>
    have:st (.slot n)=true:=by show(ls.contains n&&_)=true;rw[hc,c];rfl
    rw[c]at hs;simp only[EJ]at hs;obtain⟨vs,h1,h2⟩:=hs;simp only[nSV,EJ,FS',US',this,BR];exact⟨vs,h1,WW hb e h2⟩
   |tup ss=>
    have:st (.slot n)=false:=by show(ls.contains n&&_)=false;rw[hc,c];rfl
    simp[nSV,EJ,CX,TV.isJunk,FS',US',this]
 ·intro r hr
  cases hc:bs.contains r with
  |false=>
   have d:st r=false:=by cases r<;>first|exact hc|cases hr
   refine .inl ⟨?_,by simp[FS',d],by simp[US',d]⟩;show(bs.map λr=>(r,(E.boxes r).getD [])).lookup r=none;rw[HF,Az (by rw[hc];simp)]
  |true=>
   have d:st r=true:=by cases r<;>first|exact hc|cases hr
   have f:(MD E ls bs).boxes r=E.boxes r:=by
    show(bs.map λr=>(r,(E.boxes r).getD [])).lookup r=_;rw[HF,Ax hc];obtain⟨cs,g⟩:=FQ.1 (hb r (by simpa using hc)).2;rw[g];rfl
   rw[f];simp only[FS',US',d,BR];exact h.box r hr
 ·show(bs.map λr=>(r,(E.boxes r).getD [])).lookup .hand=none;rw[HF,Az];intro hx;have:=(hb .hand (by simpa using hx)).1;cases this
 ·intro r;simp only[FS'];split
  ·exact h.nodup r
  exact CE
 ·exact λr s i b hx hy=>h.dis r s i b (hF r b hx) (hF s b hy)
 ·exact λr s b hx hy=>h.disU r s b (hF r b hx) (hU s b hy)
 ·exact λr b hx=>h.inF r b (hF r b hx)
 ·exact λr b hx=>h.inU r b (hU r b hx)
 ·exact h.disA
 ·exact h.os
 ·exact h.tape
 ·exact h.output
 ·exact h.size
 ·exact h.keep
 ·exact h.len
 ·exact h.nodef
 ·exact h.xblk
 ·exact h.ambB
 ·exact h.ambI
 ·exact h.frz
 ·exact h.ambF
 exact h.pin
theorem Wp.norm {c:Code} (ls:List Nat) (bs:List Root) (E':St) (hb:bs.all (λr=>r.mem&&(E.boxes r).isSome)=true) (hE:MD E ls bs=E') (h:Wp P N c E' Q):Wp P N c E Q:=by
 intro w0 FA UA w a blk FS US hr hF hU
 obtain⟨FS',US',h1,h2,h3⟩:=hr.norm ls bs (λr hm=>by
  have:=Hp.1 hb r hm
  simpa using this)
 rw[hE]at h1;exact h _ _ _ _ _ _ _ _ h1 h2 h3
def AWp (P:Program) (N:Nat) (ops:Array Oper) (b:Nat) (listed:Array Bool) (E:St) (Q:Exit->St->Prop):Prop:=∀(w0:Base) (FA UA:List Nat) (w:World) (a:Act) (blk:Root->Nat) (FS US:Root->List Nat),Db w0 FA UA N w a E blk FS US->FS .hand=[]->US .hand=[]->wpAny P .any ops (nD w0 FA UA N Q) b listed a w
def AOp (P:Program) (N:Nat) (ops:Array Oper) (i:Nat) (E:St) (K:St->Prop) (Q:Exit->St->Prop):Prop:=∀(w0:Base) (FA UA:List Nat) (w:World) (a:Act) (blk:Root->Nat) (FS US:Root->List Nat),Db w0 FA UA N w a E blk FS US->FS .hand=[]->US .hand=[]->
  wpOp P ops (nD w0 FA UA N Q) i (λa' w'=>∃E' blk' FS' US',K E'/\Db w0 FA UA N w' a' E' blk' FS' US'/\FS' .hand=[]/\US' .hand=[]) a w
theorem ADF (hr:Region.ready .any ops listed=[]) (h:Q .normal E):AWp P N ops fuel listed E Q:=
 λw0 FA UA w a blk FS US k1 k2 k3=>wpAny_done hr ⟨E,blk,FS,US,h,k1,k2,k3⟩ fuel
section
variable {i:Nat}
theorem AWp.all (rs:List Nat) (hr:Region.ready .any ops listed=rs) (b:rs≠ []) (h:∀i∈rs,AOp P N ops i E (λE'=>AWp P N ops fuel (listed.setIfInBounds i true) E' Q) Q):AWp P N ops (fuel+1) listed E Q:=
 λw0 FA UA w a blk FS US k1 k2 k3=>wpAny_all hr b λi hi=>wpOp_mono (λa' w' ⟨E',blk',FS',US',m1,m2,m3,m4⟩=>m1 _ _ _ _ _ _ _ _ m2 m3 m4) (h i hi _ _ _ _ _ _ _ _ k1 k2 k3)
end
theorem AWp.one (i:Nat) (hr:Region.ready .any ops listed=[i]) (h:AOp P N ops i E (λE'=>AWp P N ops fuel (listed.setIfInBounds i true) E' Q) Q):AWp P N ops (fuel+1) listed E Q:=
 AWp.all [i] hr (by simp) λj hj=>by
  have:j=i:=by simpa using hj
  subst this;exact h
def FW (P:Program) (N:Nat) (ops:Array Oper) (l:List Oper) (E:St) (K:St->Prop):Prop:=∀(w0:Base) (FA UA:List Nat) (w:World) (a:Act) (blk:Root->Nat) (FS US:Root->List Nat),Db w0 FA UA N w a E blk FS US->FS .hand=[]->US .hand=[]->
  wpStill P ops w (λa'=>∃E' blk' FS' US',K E'/\Db w0 FA UA N w a' E' blk' FS' US'/\FS' .hand=[]/\US' .hand=[]) l a
def JT (P:Program) (E:St) (o:Oper):Option SV:=match o.op with
 | .build t parts=>XR P E t parts.toList
 |_=>Bm P E o
theorem Yo {w0:Base} {a:Act} {o:Oper} (h:Db w0 FA UA N w a E blk FS US) {s:SV} (hs:JT P E o=some s):F5 P w a E blk FS US o s:=by
 unfold JT at hs;split at hs
 ·rename_i ho;exact lD h ho hs
 exact T4 h hs
theorem FW.nil (h:K E):FW P N ops [] E K:=λw0 FA UA w a blk FS US k1 k2 k3=>⟨E,blk,FS,US,h,k1,k2,k3⟩
theorem FW.op {o:Oper} (s:SV) (hg:BK P ops E o=some true) (hd:o.dst=some d) (hN:d<N) (hs:JT P E o=some s) (h:FW P N ops rest (E.put (some d) s) K):FW P N ops (o::rest) E K:=by
 intro w0 FA UA w a blk FS US k1 k2 k3;obtain⟨v,U,h1,h2,h3⟩:=Yo k1 hs;have hr:=h1 w (λr _=>⟨λ_ _=>rfl,λ_ _=>rfl⟩);simp only[wpStill,Cv k1 hg,BR,Oper.still,hr,Oper.stillUpon_value];rw[hd];refine h _ _ _ _ _ _ _ _ (k1.put hN h2 (Px k1 h3 _)) ?_ ?_
 ·rw[B3 (by simp),k2]
 rw[B3 (by simp),k3]
theorem z7 {o:Oper} (hd:o.dst=some d) (hN:d<N) (hg:BK P ops E o=some false) (h:FW P N ops rest (E.put (some d) (.tup [])) K):FW P N ops (o::rest) E K:=by
 intro w0 FA UA w a blk FS US hr hF hU;simp only[wpStill,Cv hr hg];rw[Az (by simp),hd];refine h _ _ _ _ _ _ _ _ (hr.put (F:=[]) (U:=[]) hN (by simp only[EJ];exact⟨[],rfl,by simp[OH]⟩) ZZ.none) ?_ ?_
 ·rw[B3 (by simp),hF]
 rw[B3 (by simp),hU]
theorem ACX {l:List Oper} (t:Nat) {b:Bool} (_:E.cell1 P 0 (.tmp t)=some (.bool b)) (ht:b=true->FW P N ops l E K) (hf:b=false->FW P N ops l E K):FW P N ops l E K:=by
 cases b
 ·exact hf rfl
 exact ht rfl
theorem QI {l:List Oper} {id:Nat} (hm:P.follows .mixedOrders=true) (hB:Region.lexB .any l.toArray=true) (h:FW P N l.toArray l E (λE'=>Q .normal E')):Wp P N (.region id l.toArray true) E Q:=by
 intro w0 FA UA w a blk FS US k1 k2 k3;obtain⟨FS',US',m1,m2,m3⟩:=k1.drop (w':={w with drawn:=w.drawn+1}) (A3 _) rfl rfl rfl (λ_ _ _=>rfl);exact wp_region_still_lit hm hB (h _ _ _ _ _ _ _ _ m1 m2 m3)
section
variable {a:Act}
theorem PB {Q1 Q2:Act->Prop} (hq:∀a,Q1 a->Q2 a):∀{l:List Oper} {a:Act},wpStill P ops w Q1 l a->wpStill P ops w Q2 l a
 |[],a,h=>hq a h
 |o::l,a,h=>by
  simp only[wpStill]at h⊢;split
  ·rename_i hw;rw[Ax hw]at h;exact Oper.still_mono (λa k=>PB hq k) h
  rename_i hw;rw[Az hw]at h;exact PB hq h
end
theorem qB {l:List Oper} {id:Nat} (n:Nat) (hm:P.follows .mixedOrders=true) (hB:Region.lexTailB .any l.toArray n=true) (h:FW P N l.toArray (l.take n) E (λE'=>Hr P N l.toArray (l.drop n) E' Q)):Wp P N (.region id l.toArray true) E Q:=by
 intro w0 FA UA w a blk FS US k1 k2 k3;obtain⟨FS',US',m1,m2,m3⟩:=k1.drop (w':={w with drawn:=w.drawn+1}) (A3 _) rfl rfl rfl (λ_ _ _=>rfl);refine wp_region_still_tail n hm hB (PB ?_ (h _ _ _ _ _ _ _ _ m1 m2 m3));rintro a' ⟨E',blk',FS2,US2,h1,h2,h3,h4⟩;exact h1 _ _ _ _ _ _ _ _ h2 h3 h4
def AU (f:α->List TV) (l:List α):List TV:=(l.map f).flatten
def gi (l:List α) (i:Int):Option α:=if 0<=i then l[i.toNat]? else none
def si (l:List α) (i:Int) (x:α):List α:=l.set i.toNat x
def ln (l:List α):Int:=(l.length:Nat)
theorem Fq (hf:∀x,(f x).length=sz):∀l:List α,(AU f l).length=l.length*sz
 |[]=>by simp[AU]
 |x::l=>by
  have:=Fq hf l;simp only[AU,BE,TU,Ag,Ay,hf]at this⊢;rw[this,DJ,Ob]
theorem Hn (x:α) (l:List α):AU f (x::l)=f x++AU f l:=rfl
theorem WT (l m:List α):AU f (l++m)=AU f l++AU f m:=by simp[AU]
theorem S9 (h:gi l i=some x):0<=i/\i.toNat<l.length/\l[i.toNat]?=some x:=by
 unfold gi at h;split at h
 ·exact⟨by assumption,(Ah.1 h).1,h⟩
 cases h
theorem K2 (hf:∀x,(f x).length=sz):∀(l:List α) (n:Nat),(AU f l).drop (n*sz)=AU f (l.drop n)
 |l,0=>by simp
 |[],n+1=>by simp[AU]
 |x::l,n+1=>by
  rw[Hn,List.drop_succ_cons,<-K2 hf l n,DJ,Ob,<-CT,Fo (hf x)]
theorem y9 (hf:∀x,(f x).length=sz) (h:gi l i=some x):((AU f l).drop (i.toNat*sz)).take sz=f x:=by
 obtain⟨_,h1,h2⟩:=S9 h;rw[K2 hf,Bf h1,Hn,QX (hf _)];rw[Ab h1]at h2
 injection h2 with h2
 rw[h2]
theorem O8 (hf:∀x,(f x).length=sz) (h:gi l i=some x) (hk:k<sz):(AU f l)[i.toNat*sz+k]?=(f x)[k]? :=by
 rw[<-y9 hf h,Cd,Ax hk,BS]
theorem iQ (hf:∀x,(f x).length=sz) (h:gi l i=some x):(i.toNat+1)*sz<=(AU f l).length:=by
 rw[Fq hf];exact BH _ (S9 h).2.1
theorem Rn (hf:∀x,(f x).length=sz):∀(l:List α) (n:Nat) (y:List TV) (z:α) {k:Nat} {x:α},l[n]?=some x->k+y.length<=sz->setRow (f x) k y=f z->setRow (AU f l) (n*sz+k) y=AU f (l.set n z)
 |[],n,y,z,k,x,h,_,_=>by simp at h
 |x0::l,0,y,z,k,x,h,hk,he=>by
  simp at h;subst h;rw[DY,Hn,Hn,<-he];have h1:=hf x0;simp only[setRow,Nat.zero_mul,Io];rw[FX (by omega),List.drop_append_of_le_length (by omega)];simp
 |x0::l,n+1,y,z,k,x,h,hk,he=>by
  have ih:=Rn hf l n y z (by simpa using h) hk he;rw[Nj,Hn,Hn,<-ih];have h1:=hf x0;simp only[setRow,DJ];rw[show n*sz+sz+k=(f x0).length+(n*sz+k) by omega,FR,W0,List.drop_append,AS (by omega),De (by omega)];simp
theorem VH {y:List TV} (hf:∀x,(f x).length=sz) (h:gi l i=some x) (hk:Nat.ble (k+y.length) sz=true) (he:setRow (f x) k y=f z):setRow (AU f l) (i.toNat*sz+k) y=AU f (si l i z):=
 Rn hf l _ y z (S9 h).2.2 (by simpa[P7]using hk) he
theorem jX {n:Nat} (hf:∀x,(f x).length=sz) (h:l[n]?=some x) {t:TV} (hk:k<sz) (he:(f x).set k t=f z):(AU f l).set (n*sz+k) t=AU f (l.set n z):=by
 have hl:(n*sz+k)<(AU f l).length:=by
  rw[Fq hf];have:=(Ah.1 h).1;have:(n+1)*sz<=l.length*sz:=BH _ this;rw[DJ]at this;omega
 have a:∀{c:List TV} {m:Nat},m<c.length->c.set m t=setRow c m [t]:=by
  intro c m hm;rw[List.set_eq_take_append_cons_drop,Ax hm];simp[setRow]
 rw[a hl];refine Rn hf l n [t] z h hk ?_;rw[<-a (by rw[hf];exact hk)];exact he
theorem sT (hf:∀x,(f x).length=sz) (h:gi l i=some x) (hk:k<sz):Ca (AU f l) ((i.toNat*sz+k)::q)=Ca (f x) (k::q):=by
 simp only[Ca,O8 hf h hk]
theorem AAM (hf:∀x,(f x).length=sz) (h:gi l i=some x) (hk:k<sz):MB (AU f l) ((i.toNat*sz+k)::q)=MB (f x) (k::q):=by
 simp only[MB,O8 hf h hk]
theorem AAu {g:List TV->List TV} (hf:∀x,(f x).length=sz) (h:gi l i=some x) (hk:k<sz) (he:DO (f x) (k::q) g=f z):DO (AU f l) ((i.toNat*sz+k)::q) g=AU f (si l i z):=by
 rw[DO]at he⊢;rw[O8 hf h hk];split
 ·rename_i o e sz' a hc;rw[hc]at he;exact jX hf (S9 h).2.2 hk he
 rename_i hc;split at he
 ·rename_i o e sz' a b;exact absurd b (hc _ _ _ _)
 have:(AU f l).set (i.toNat*sz+k) ((f x)[k]?.getD .junk)=AU f (si l i z):=by
  refine jX hf (S9 h).2.2 hk ?_;rw[<-he];have:k<(f x).length:=by rw[hf];exact hk
  rw[Ab this];simp
 rw[<-this];have h2:=O8 hf h hk;have h3:k<(f x).length:=by rw[hf];exact hk
 rw[Ab h3]at h2⊢;exact(OZ h2).symm
abbrev I (n:Int):SV:= .one (.int .i64 n)
abbrev B (b:Bool):SV:= .one (.bool b)
abbrev Y (s:ByteArray):SV:= .one (.str s)
def PS (body:S->Option (S⊕α)):Nat->S->Option α
 |0,_=>none
 |n+1,s=>match body s with
  |none=>none
  |some (.inl s')=>PS body n s'
  |some (.inr a)=>some a
theorem VM {body:S->Option (S⊕α)} {a:α}:∀{n m:Nat} {s:S},PS body n s=some a->n<=m->PS body m s=some a
 |0,_,_,h,_=>by cases h
 |n+1,0,_,_,h=>by omega
 |n+1,m+1,s,h,hm=>by
  simp only[PS]at h⊢;split at h
  ·cases h
  ·exact VM h (by omega)
  exact h
open Classical in
noncomputable def Ar (body:S->Option (S⊕α)) (s:S):Option α:=
 if h:∃a n,PS body n s=some a then some h.choose else none
theorem Ia {body:S->Option (S⊕α)} {s:S} {a:α}:Ar body s=some a↔∃n,PS body n s=some a:=by
 unfold Ar;constructor
 ·intro h;split at h
  ·rename_i he
   injection h with h
   rw[<-h];exact he.choose_spec
  cases h
 rintro⟨n,h⟩;have he:∃a n,PS body n s=some a:=⟨a,n,h⟩;rw[dif_pos he];obtain⟨m,hm⟩:=he.choose_spec;have h1:=VM hm (Nat.le_max_left m n);have h2:=VM h (Nat.le_max_right m n);rw[h1]at h2;exact h2
theorem A8 (body:S->Option (S⊕α)) (s:S):Ar body s=match body s with
  |none=>none
  |some (.inl s')=>Ar body s'
  |some (.inr a)=>some a:=by
 have b:∀a,Ar body s=some a↔(match body s with|none=>none|some (.inl s')=>Ar body s'|some (.inr a)=>some a)=some a:=by
  intro a;rw[Ia];constructor
  ·rintro⟨n,h⟩
   cases n with
   |zero=>cases h
   |succ n=>
    simp only[PS]at h;split at h
    ·cases h
    ·rename_i s' hb;exact Ia.2 ⟨n,h⟩
    rename_i a' hb;simpa only[hb]using h
  intro h;split at h
  ·cases h
  ·rename_i s' hb;obtain⟨n,hn⟩:=Ia.1 h;exact⟨n+1,by simp only[PS,hb];exact hn⟩
  rename_i a' hb;exact⟨1,by simp only[PS,hb];exact h⟩
 cases hx:Ar body s with
 |some a=>exact((b a).1 hx).symm
 |none=>
  cases hy:(match body s with|none=>none|some (.inl s')=>Ar body s'|some (.inr a)=>some a:Option α)with
  |none=>rfl
  |some a=>rw[(b a).2 hy]at hx;cases hx
def mvs (E:St) (l:List (Root×List TV)):St:=l.foldl (λE x=>(E.setRoot x.1 x.2).bump x.1) E
def St.rs (E:St) (t:Nat) (b:Bool):St:={E with slots:=Cr E.slots t (B b)}
theorem dF {t:Nat} {b:Bool} (h:E.slots t=B b):E.rs t b=E:=by
 have:Cr E.slots t (B b)=E.slots:=by
  funext n;simp only[Cr];split
  ·rename_i hn;rw[hn,h]
  rfl
 unfold St.rs;rw[this]
theorem Hr.o (d:Nat) (s:SV) (h:Hr P N ops rest (E.put (some d) s) Q) (hs:CQ P N false E oo=some (E.put (some d) s):=by rfl) (hg:BK P ops E oo=some true:=by rfl):Hr P N ops (oo::rest) E Q:=Hr.op false hg hs h
theorem Hr.b (m:List (Root×List TV)) (d:Nat) (xs:List TV) (h:Hr P N ops rest ((mvs E m).newBox d xs) Q) (hs:CQ P N false E oo=some ((mvs E m).newBox d xs):=by rfl) (hg:BK P ops E oo=some true:=by rfl):Hr P N ops (oo::rest) E Q:=Hr.op false hg hs h
theorem AEt (mv:Bool) (m:List (Root×List TV)) (d:Nat) (s:SV) (h:Hr P N ops rest ((mvs E m).put (some d) s) Q) (hs:CQ P N mv E oo=some ((mvs E m).put (some d) s):=by rfl) (hg:BK P ops E oo=some true:=by rfl):Hr P N ops (oo::rest) E Q:=Hr.op mv hg hs h
theorem ACL {l:List Oper} {r:β} {b:Bool} (h:(bif b then tx else ty)=some r) (t:Nat) (ht:tx=some r->Hr P N ops l (E.rs t true) Q) (hf:ty=some r->Hr P N ops l (E.rs t false) Q) (hc:E.slots t=B b:=by rfl):Hr P N ops l E Q:=by
 cases b
 ·rw[dF hc]at hf;exact hf h
 rw[dF hc]at ht;exact ht h
theorem Wp.c {r:β} {x:Code} {c:Operand} {b:Bool} (h:(bif b then tx else ty)=some r) (ht:tx=some r->Wp P N x E Q) (hf:ty=some r->Wp P N y E Q) (hc:E.cell1 P 0 c=some (.bool b):=by rfl):Wp P N (.cond c x y) E Q:=by
 refine Wp.cond hc (λhb=>?_) (λhb=>?_)
 ·subst hb;exact ht h
 subst hb;exact hf h
theorem ADt {x:Code} {c:Operand} (ht:Wp P N x E Q) (hc:E.cell1 P 0 c=some (.bool true):=by rfl):Wp P N (.cond c x y) E Q:=Wp.cond hc (λ_=>ht) (λh=>by cases h)
theorem ADu {x:Code} {c:Operand} (hf:Wp P N y E Q) (hc:E.cell1 P 0 c=some (.bool false):=by rfl):Wp P N (.cond c x y) E Q:=Wp.cond hc (λh=>by cases h) (λ_=>hf)
def pk (o:Oper):Bool:=match o.op with
 | .nilCheck _| .pick .. | .binOp .. | .unOp .. | .convert .. | .fieldAddr .. | .indexAddr .. | .load .. | .index .. | .slice .. =>true
 | .call c=>match c.callee with
  | .builtin .len| .builtin .min| .builtin .max=>true
  |_=>false
 |_=>false
theorem uZ {o:Oper} {s:SV} {src dst:TypeId} {x:Operand} (ho:o.op= .convert src dst x) (hp:Bm P E o=some s):SD P E d src dst x=none:=by
 unfold Bm at hp;simp only[ho]at hp;unfold SD;split
 ·rename_i e hd;split
  ·rename_i b hs hb;simp only[hd,hs,hb]at hp;cases hp
  rfl
 rfl
theorem rE {o:Oper} {s:SV} (hp:Bm P E o=some s) (hd:o.dst=some d:=by rfl) (hN:Nat.blt d N=true:=by rfl) (hk:pk o=true:=by rfl):CQ P N false E o=some (E.put (some d) s):=by
 have hN':d<N:=by simpa[Bt]using hN
 unfold pk at hk;unfold CQ;rw[hd];simp only[Ax hN'];split at hk<;>rename_i ho<;>try (cases hk;done)
 all_goals first|(simp only[ho,uZ ho hp,hp,B9];done)|simp only[ho,hp,B9]
 rename_i c;split at hk<;>rename_i hc<;>try (cases hk;done)
 all_goals simp only[hc,B9]
theorem rF {o:Oper} {s:SV} (hp:Bm P E o=some s) (hk:pk o=true:=by rfl):JT P E o=some s:=by
 unfold pk at hk;unfold JT;split at hk<;>rename_i ho<;>try (cases hk;done)
 all_goals simp only[ho];exact hp
theorem AC9 {o:Oper} {k:IntKind} (hf:∀x,(f x).length=sz) (r:Root) (q:List Nat) (j:Nat) (hx:gi l n=some x) {t e e':TypeId} {a i:Operand} {b:Bool} (hp:E.place r q j=some (.sl b e' sz (AU f l)):=by rfl) (ho:o.op= .indexAddr t a i:=by rfl) (ht:P.underlying t=some (.slice e):=by rfl) (hi:E.cell1 P 0 i=some (.int k n):=by rfl) (hr:E.ref a=some (r,q,j):=by rfl) (c:P.cellsOf e=sz:=by rfl) (h0:Nat.blt 0 sz=true:=by rfl):Bm P E o=some (.one (.ptr r (E.ver r) (q++ [j]) (n.toNat*sz+0))):=by
 have h0':0<sz:=by simpa[Bt]using h0
 simp only[Bm,ho,ht,hi,hr,hp];rw[Ax ⟨c.symm,h0',(S9 hx).1,iQ hf hx⟩];rfl
theorem AD3 {o:Oper} {fl:Nat} (hf:∀x,(f x).length=sz) (r:Root) (q:List Nat) (k:Nat) (hx:gi l n=some x) {a:Operand} (hr:(E.root r).bind (λcs=>Ca cs q)=some (AU f l):=by rfl) (ho:o.op= .fieldAddr st a fl:=by rfl) (hs:P.underlying st=some (.struct fs):=by rfl) (hp:E.ptr? a=some (r,q,n.toNat*sz+k):=by rfl) (b:fs[fl]?=some fd:=by rfl) (hc:Nat.beq (P.cellsOf fd.type) 0=false:=by rfl) {m:Nat} (hm:k+fd.offset=m:=by rfl) (hk:Nat.blt (k+fd.offset) sz=true:=by rfl):Bm P E o=some (.one (.ptr r (E.stamp r q) q (n.toNat*sz+m))):=by
 subst hm;have hc':P.cellsOf fd.type≠0:=by intro h;rw[h]at hc;cases hc
 have hk':k+fd.offset<sz:=by simpa[Bt]using hk
 have c:(E.place r q (n.toNat*sz+k+fd.offset)).isSome=true:=by
  obtain⟨cs,h1,h2⟩:=Av.1 hr;simp only[St.place,h1,Aa,h2,FR,O8 hf hx hk'];rw[Ab (by rw[hf];exact hk')];rfl
 simp only[Bm,ho,hs,hp,b];rw[Az hc',Ax c,FR]
theorem AD2 {o:Oper} (hf:∀x,(f x).length=sz) (r:Root) (q:List Nat) (k:Nat) (u:TV) (hx:gi l n=some x) {t:TypeId} {a:Operand} (hr:(E.root r).bind (λcs=>Ca cs q)=some (AU f l):=by rfl) (ho:o.op= .load t a:=by rfl) (hp:E.ptr? a=some (r,q,n.toNat*sz+k):=by rfl) (ha:bT P t=false:=by rfl) (h1:P.cellsOf t=1:=by rfl) (hu:(P.underlying t).isSome=true:=by rfl) (hk:Nat.blt k sz=true:=by rfl) (hj:(f x)[k]?=some u:=by rfl):Bm P E o=some (.one (see E r q (n.toNat*sz+k) u)):=by
 have hk':k<sz:=by simpa[Bt]using hk
 have b:=iQ hf hx;rw[DJ]at b;simp only[Bm,ho,hp,hr,ha,h1];rw[Ax (by omega),Az (by simp),Ax ⟨trivial,hu⟩,O8 hf hx hk',hj];rfl
theorem AD1 {o:Oper} (hf:∀x,(f x).length=sz) (r:Root) (q:List Nat) (k m:Nat) (hx:gi l n=some x) {t:TypeId} {a:Operand} (hr:(E.root r).bind (λcs=>Ca cs q)=some (AU f l):=by rfl) (ho:o.op= .load t a:=by rfl) (hp:E.ptr? a=some (r,q,n.toNat*sz+k):=by rfl) (ha:bT P t=true:=by rfl) (h1:P.cellsOf t=m:=by rfl) (hk:Nat.ble (k+m) sz=true:=by rfl):Bm P E o=some (.agg (Ux E r q (n.toNat*sz+k) (((f x).drop k).take m))):=by
 have hk':k+m<=sz:=by simpa[P7]using hk
 have b:=iQ hf hx;rw[DJ]at b;simp only[Bm,ho,hp,hr,ha,h1];rw[Ax (by omega),Ax trivial,<-y9 hf hx,List.drop_take,List.take_take,Nat.min_eq_left (by omega),CT]
theorem AC8 {o:Oper} (hf:∀x,(f x).length=sz) (l:List α) {t e e':TypeId} {a:Operand} {b:Bool} {r:Root} (ho:o.op= .call {callee:= .builtin .len,args:= #[a],argTypes:= #[t]}:=by rfl) (ht:P.underlying t=some (.slice e):=by rfl) (hr:E.ref a=some (r,q,j):=by rfl) (hp:E.place r q j=some (.sl b e' sz (AU f l)):=by rfl) (h0:Nat.blt 0 sz=true:=by rfl):Bm P E o=some (.one (.int .i64 (ln l))):=by
 have h0':0<sz:=by simpa[Bt]using h0
 have:(AU f l).length/sz=l.length:=by rw[Fq hf];exact FI _ h0'
 simp only[Bm,ho,OE,ht,St.sliceCells,hr,hp];rw[Ax h0',this];rfl
def sx (s:ByteArray) (i:Int):Option Int:=if 0<=i/\i<s.size then some (Bm.bt s i)else none
def sub (s:ByteArray) (l h:Int):Option ByteArray:=if 0<=l/\l<=h/\h<=s.size then some (s.extract l.toNat h.toNat)else none
def Iz (a b:ByteArray):Option ByteArray:=if((a.size+b.size:Nat):Int)>9223372036854775807 then none else some (a++b)
def FY (s:ByteArray):Int:=(s.size:Nat)
def seq (a b:ByteArray):Bool:=a.toList==b.toList
theorem AD0 {o:Oper} {k:IntKind} {s:ByteArray} {n b:Int} (h:sx s n=some b) {t:TypeId} {a i:Operand} (ho:o.op= .index t a i:=by rfl) (ht:P.underlying t=some .string:=by rfl) (ha:E.cell1 P t a=some (.str s):=by rfl) (hi:E.cell1 P 0 i=some (.int k n):=by rfl):
  Bm P E o=some (.one (.int .u8 b)):=by
 unfold sx at h;split at h
 ·rename_i hc
  injection h with h
  simp only[Bm,ho,ht,ha,hi];rw[Ax hc,h]
 cases h
section
variable {o:Oper}
theorem AC6 {l h:Int} {hi:Option Operand} {k k':IntKind} {s u:ByteArray} (hx:sub s l h=some u) {t:TypeId} {a:Operand} (ho:o.op= .slice t a lo hi none:=by rfl) (ht:P.underlying t=some .string:=by rfl) (ha:E.cell1 P t a=some (.str s):=by rfl) (hl:(match lo with|some o=>E.cell1 P 0 o|none=>some (.int .i64 0))=some (.int k l):=by rfl) (hh:(match hi with|some o=>E.cell1 P 0 o|none=>some (.int .i64 s.size))=some (.int k' h):=by rfl):
  Bm P E o=some (.one (.str u)):=by
 unfold sub at hx;split at hx
 ·rename_i hc
  injection hx with hx
  have fin:(if 0<=l/\l<=h/\h<=(s.size:Int)then some (SV.one (.str (s.extract l.toNat h.toNat)))else none)=some (.one (.str u)):=by rw[Ax hc,hx]
  cases lo with
  |none=>
   injection hl with hl
   injection hl with _ hl
   subst hl
   cases hi with
   |none=>
    injection hh with hh
    injection hh with _ hh
    subst hh;simpa only[Bm,ho,ht,ha]using fin
   |some y=>
    have hh':E.cell1 P 0 y=some (.int k' h):=hh;simpa only[Bm,ho,ht,ha,hh']using fin
  |some z=>
   have hl':E.cell1 P 0 z=some (.int k l):=hl
   cases hi with
   |none=>
    injection hh with hh
    injection hh with _ hh
    subst hh;simpa only[Bm,ho,ht,ha,hl']using fin
   |some y=>
    have hh':E.cell1 P 0 y=some (.int k' h):=hh;simpa only[Bm,ho,ht,ha,hl',hh']using fin
 cases hx
end
theorem ADb {o:Oper} {x y:Operand} {a b u:ByteArray} (hx:Iz a b=some u) {t t':TypeId} (ho:o.op= .binOp .add t x y t':=by rfl) (ha:E.cell1 P t x=some (.str a):=by rfl) (hb:E.cell1 P t y=some (.str b):=by rfl):
  Bm P E o=some (.one (.str u)):=by
 unfold Iz at hx;split at hx
 ·cases hx
 rename_i hc
 injection hx with hx
 simp only[Bm,ho,ha,hb,Wr,BR,WZ];rw[Az hc,hx];rfl
def JI (cs:List TV):Bool:=cs.all λt=>match t with
 | .int .. | .bool _| .str _| .sl false .. =>true
 |_=>false
theorem Ys {E:St} {r:Root} {q:List Nat}:∀{cs:List TV} (c:Nat),JI cs=true->Ux E r q c cs=cs
 |[],c,h=>rfl
 |t::ts,c,h=>by
  simp only[JI,Fc,An]at h;have ih:=Ys (E:=E) (r:=r) (q:=q) (c+1) (show JI ts=true from h.2);simp only[Ux,ih]
  cases t with
  |sl o e sz cells=>cases o<;>first|rfl|(have:=h.1;simp at this)
  |_=>rfl
theorem QO {E:St}:∀{cs:List TV},JI cs=true->FD E cs=some (cs,E)
 |[],h=>rfl
 |t::ts,h=>by
  simp only[JI,Fc,An]at h;have ih:=QO (E:=E) (show JI ts=true from h.2);have h1:=h.1;have hr:∀E1 E2 t,(∀r v q j,t≠ .view r v q j)->List.map (rst E1 E2 t) ts=ts:=by
   intro E1 E2 t ht;have:rst E1 E2 t=id:=by
    funext u;cases t<;>first|rfl|exact absurd rfl (ht _ _ _ _)
   rw[this,TS]
  rw[Rf];cases t<;>simp only[DP]<;>first|(rw[hr _ _ _ (by intros;simp)];simp only[ih])|(simp at h1;done)
theorem T6 (hf:∀x,JI (f x)=true):∀l:List α,JI (AU f l)=true
 |[]=>rfl
 |x::l=>by
  have:=T6 hf l;rw[Hn];unfold JI at*;rw[List.all_append,hf,this];rfl
def ap (by_:Nat) (l m:List α):Option (List α):=if(l.length+m.length)*by_<=140737488355328 then some (l++m)else none
def mk (by_:Nat) (z:α) (n:Int):Option (List α):=if 0<=n/\(by_:Int)*n<=281474976710656/\n<=9223372036854775807 then some (List.replicate n.toNat z)else none
theorem ABr {l m u:List α} (h:ap by_ l m=some u):u=l++m/\(l.length+m.length)*by_<=140737488355328:=by
 unfold ap at h;split at h
 ·injection h with h;exact⟨h.symm,by assumption⟩
 cases h
theorem Rz (h:f z=zs):∀n,(List.replicate n zs).flatten=AU f (List.replicate n z)
 |0=>rfl
 |n+1=>by rw[GJ,TU,Rz h n,GJ,Hn,h]
theorem ADV {o:Oper} {u:List α} {kl kc:IntKind} (z:α) (h:mk by_ z n=some u) {t e:TypeId} {l c:Operand} (ho:o.op= .makeSlice t l c:=by rfl) (hd:o.dst=some d:=by rfl) (hN:Nat.blt d N=true:=by rfl) (ht:P.underlying t=some (.slice e):=by rfl) (hl:E.cell1 P 0 l=some (.int kl n):=by rfl) (hc:E.cell1 P 0 c=some (.int kc n):=by rfl) (hz:LQ P e=some zs:=by rfl) (hfz:f z=zs:=by rfl) (hb:P.bytesOf e=by_:=by rfl) (b:P.cellsOf e=sz:=by rfl):
  CQ P N false E o=some (E.put (some d) (.one (.sl true e sz (AU f u)))):=by
 have hN':d<N:=by simpa[Bt]using hN
 unfold mk at h;split at h
 ·rename_i a
  injection h with h
  subst h;unfold CQ;rw[hd];simp only[Ax hN',ho,XO,ht,hl,hc,hz];rw[Ax ⟨trivial,a.1,by rw[hb];exact a.2.1,a.2.2⟩,Rz hfz,b]
 cases h
section
variable {o:Oper}
structure At (cs:List TV) (q:List Nat) (row:List TV) (g:List TV->List TV) (cs':List TV):Prop where
 c:Ca cs q=some row
 o:MB cs q=true
 u:DO cs q g=cs'
end
theorem At.one {g:List TV->List TV} {row':List TV} {cs a:List TV} {c:Nat} {e s:Nat} (h:g a=row') (hc:cs[c]?=some (.sl true e s a):=by rfl) (hs:cs.set c (.sl true e s row')=cs':=by rfl):At cs [c] a g cs':=
 ⟨by simp[Ca,hc],by simp[MB,hc],by simp[DO,hc,h,hs]⟩
theorem ADD {g:List TV->List TV} (hf:∀x,(f x).length=sz) {cs a:List TV} {c k:Nat} {e s:Nat} (hx:gi l n=some x) (h:At (f x) (k::q) a g (f z)) (hk:Nat.blt k sz=true:=by rfl) (hc:cs[c]?=some (.sl true e s (AU f l)):=by rfl) (hs:cs.set c (.sl true e s (AU f (si l n z)))=cs':=by rfl):At cs (c::(n.toNat*sz+k)::q) a g cs':=by
 have hk':k<sz:=by simpa[Bt]using hk
 refine⟨?_,?_,?_⟩
 ·rw[<-h.c,<-sT hf hx hk'];simp only[Ca,hc]
 ·rw[<-h.o,<-AAM hf hx hk'];simp only[MB,hc,Cz]
 rw[<-hs,<-AAu hf hx hk' h.u];simp only[DO,hc]
theorem ACx (hf:∀x,(f x).length=sz) (hx:gi l n=some x) {k m:Nat} (hk:Nat.ble (k+m) sz=true):n.toNat*sz+k+m<=(AU f l).length:=by
 have:=iQ hf hx;rw[DJ]at this;have h1:k+m<=sz:=by simpa[P7]using hk
 omega
def SV.comps:SV->List SV
 | .tup ss=>ss
 |_=>[]
def St.ex (E:St) (n ix:Nat):St:={E with slots:=Cr E.slots n (.tup ((E.slots n).comps.set ix (.one .junk)))}
theorem AEu (n ix d:Nat) (s:SV) (h:Hr P N ops rest ((E.ex n ix).put (some d) s) Q) (hs:CQ P N false E oo=some ((E.ex n ix).put (some d) s):=by rfl) (hg:BK P ops E oo=some true:=by rfl):Hr P N ops (oo::rest) E Q:=Hr.op false hg hs h
theorem FW.o (d:Nat) (s:SV) (h:FW P N ops rest (E.put (some d) s) K) (hs:JT P E oo=some s:=by rfl) (hg:BK P ops E oo=some true:=by rfl) (hd:oo.dst=some d:=by rfl) (hN:Nat.blt d N=true:=by rfl):FW P N ops (oo::rest) E K:=
 FW.op s hg hd (by simpa[Bt]using hN) hs h
theorem ACD {l:List Oper} {r:β} {b:Bool} (h:(bif b then tx else ty)=some r) (t:Nat) (ht:tx=some r->FW P N ops l (E.rs t true) K) (hf:ty=some r->FW P N ops l (E.rs t false) K) (hc:E.slots t=B b:=by rfl):FW P N ops l E K:=by
 cases b
 ·rw[dF hc]at hf;exact hf h
 rw[dF hc]at ht;exact ht h
theorem Ec {g:α->List TV} (h:∀x,BQ (f x)=g x):∀l:List α,BQ (AU f l)=AU g l
 |[]=>rfl
 |x::l=>by
  have c:∀a b:List TV,BQ (a++b)=BQ a++BQ b:=by
   intro a b
   induction a with
   |nil=>rfl
   |cons t ts ih=>simp only[BF,BQ,ih]
  rw[Hn,Hn,c,h,Ec h l]
theorem LU (h:∀x,AJ (f x)=false):∀l:List α,AJ (AU f l)=false
 |[]=>rfl
 |x::l=>by
  have c:∀a b:List TV,AJ (a++b)=(AJ a||AJ b):=by
   intro a b
   induction a with
   |nil=>rfl
   |cons t ts ih=>simp only[BF,AJ,ih,Bool.or_assoc]
  rw[Hn,c,h,LU h l];rfl
def ad (a b:Int):Int:=IntKind.i64.wrap (a+b)
def sb (a b:Int):Int:=IntKind.i64.wrap (a-b)
def ml (a b:Int):Int:=IntKind.i64.wrap (a*b)
def qu (a b:Int):Int:=IntKind.i64.wrap (a.tdiv b)
def xr (a b:Int):Int:=IntKind.u32.wrap (BitVec.ofInt 32 a^^^BitVec.ofInt 32 b).toNat
def an (a b:Int):Int:=IntKind.u32.wrap (BitVec.ofInt 32 a&&&BitVec.ofInt 32 b).toNat
def bs (l:List UInt8):ByteArray:=⟨l.toArray⟩
section
variable (P:Program) (md:Region.Mode) (ops:Array Oper) (Q:Exit->Act->World->Prop) (T:Nat->Bool)
def XW:Nat->Array Bool->Act->World->Prop
 |0,listed,a,w=>Region.ready md ops listed=[]/\Q .normal a w
 |fuel+1,listed,a,w=>(Region.ready md ops listed=[]->Q .normal a w)/\
  ∀i∈Region.ready md ops listed,wpOp P ops Q i (λa' w'=>(T i=false->EO w w')/\XW fuel (listed.setIfInBounds i true) a' w') a w
end
theorem XV {Q:Exit->Act->World->Prop}:∀(b:Nat) (listed:Array Bool) (a:Act) (w:World),XW P md ops Q T b listed a w->wpAny P md ops Q b listed a w
 |0,_,_,_,h=>h
 |b+1,_,_,_,h=>⟨h.1,λi hi=>wpOp_mono (λa' w' h'=>XV b _ a' w' h'.2) (h.2 i hi)⟩
section
variable (md:Region.Mode) (ops:Array Oper)
def XZ (i:Nat):Nat->Nat->Bool
 |0,_=>false
 |n+1,j=>match ops[j]? with
  |some o=>o.after.any λe=>Region.binds md e&&(e.on==i||XZ i n e.on)
  |none=>false
end
def aA (md:Region.Mode) (ops:Array Oper) (listed:Array Bool):Prop:=∀k o,ops[k]?=some o->listed.getD k false=true->∀e∈o.after,Region.binds md e=true->listed.getD e.on false=true
theorem TZ {i:Nat} (hc:aA md ops listed):∀{n j:Nat} {o:Oper},ops[j]?=some o->(∀e∈o.after,Region.binds md e=true->listed.getD e.on false=true)->XZ md ops i n j=true->listed.getD i false=true
 |0,j,o,_,_,h=>by cases h
 |n+1,j,o,ho,ha,h=>by
  simp only[XZ,ho]at h;obtain⟨e,he,hb⟩:=Array.any_eq_true'.1 h;simp only[An,Co,Ck]at hb;have h1:=ha e he hb.1
  rcases hb.2 with h2|h2
  ·rw[<-h2];exact h1
  cases hk:ops[e.on]? with
  |none=>
   cases n with
   |zero=>cases h2
   |succ n=>simp[XZ,hk]at h2
  |some ok=>exact TZ hc hk (hc e.on ok hk h1) h2
theorem LL (hc:aA md ops listed) (hr:j∈Region.ready md ops listed):aA md ops (listed.setIfInBounds j true):=by
 intro k o hk hl e he hb
 have a:∀m,listed.getD m false=true->(listed.setIfInBounds j true).getD m false=true:=λm hm=>getD_set_true hm
 by_cases b:k=j
 ·subst b;obtain⟨_,o',ho',c⟩:=mem_ready.1 hr;rw[hk]at ho'
  injection ho' with ho'
  subst ho';exact a _ (c e he hb)
 rw[getD_set_ne false (Ft b)]at hl;exact a _ (hc k o hk hl e he hb)
theorem ML {Q:Exit->Act->World->Prop} {i:Nat} {oi:Oper} {n:Nat} (hi:ops[i]?=some oi) (m:∀(j:Nat) (o:Oper) cs b,ops[j]?=some o->o.op≠ .select cs b) (hQ:∀c a w,Q (.panic c) (a.put oi.dst v) w->Q (.panic c) a w) (h7:T i=false) (hT:∀j,T j=true->XZ md ops i n j=true):
  ∀(d:Nat) (listed:Array Bool) (a:Act) (w:World),aA md ops listed->
   (∀j oj,ops[j]?=some oj->j≠i->listed.getD j true=false->(∀e∈oj.after,Region.binds md e=true->e.on≠i)->oi.apart ops oj=true)->
   i∈Region.ready md ops listed->YieldsIf P ops (EO w) oi v a->
   XW P md ops Q T d (listed.setIfInBounds i true) (a.put oi.dst v) w->XW P md ops Q T (d+1) listed a w:=by
 intro d
 induction d with
 |zero=>
  intro listed a w _ _ hr hy H;refine⟨λh=>(by rw[h]at hr;cases hr),λj hj=>?_⟩;by_cases f:j=i
  ·subst f;exact hy.wpOp hi EO.refl ⟨λ_=>EO.refl,H⟩
  have:=ready_mono hj f;rw[H.1]at this;cases this
 |succ d ih=>
  intro listed a w t g hr hy H;refine⟨λh=>(by rw[h]at hr;cases hr),λj hj=>?_⟩;by_cases f:j=i
  ·subst f;exact hy.wpOp hi EO.refl ⟨λ_=>EO.refl,H⟩
  have h1:=H.2 j (ready_mono hj f);obtain⟨p,oj,l,q⟩:=mem_ready.1 hj;have r:listed.getD i false=false:=by
   have h0:=(mem_ready.1 hr).1
   rcases CJ i listed.size with h'|h'
   ·simpa[h']using h0
   simp[Ee h']
  have s:T j=false:=by
   cases s:T j with
   |false=>rfl
   |true=>
    have:=TZ t l q (hT j s);rw[r]at this;cases this
  have u:∀e∈oj.after,Region.binds md e=true->e.on≠i:=λe he hb z=>by
   have h1:=q e he hb;rw[z,r]at h1;cases h1
  have h2:=wpOp_putIf l (g j oj l f p u) (λcs b=>m i oi cs b hi) (λcs b=>m j oj cs b l) hQ hy h1;have hfree':∀k ok,ops[k]?=some ok->k≠i->(listed.setIfInBounds j true).getD k true=false->
    (∀e∈ok.after,Region.binds md e=true->e.on≠i)->oi.apart ops ok=true:=λk ok hk h4 x h5=>by
   refine g k ok hk h4 ?_ h5;by_cases y:j=k
   ·subst y;exact p
   rw[getD_set_ne true y]at x;exact x
  refine wpOp_mono (λa' w' h3=>⟨h3.2.1,ih (listed.setIfInBounds j true) a' w' (LL t hj) hfree' (ready_mono hr (Ft f)) ?_ ?_⟩) h2
  ·exact h3.1.imp (λ⟨p1,p2⟩=>⟨p1,λw2 h6=>p2 w2 ((h3.2.1 s).trans h6)⟩) id
  rw[Array.setIfInBounds_comm _ _ f];exact h3.2.2
def Xh (P:Program) (N:Nat) (ops:Array Oper) (ts:List Nat) (b:Nat) (listed:Array Bool) (E:St) (Q:Exit->St->Prop):Prop:=(∀c E,Q (.panic c) E->False)->aA .any ops listed->∀(w0:Base) (FA UA:List Nat) (w:World) (a:Act) (blk:Root->Nat) (FS US:Root->List Nat),Db w0 FA UA N w a E blk FS US->FS .hand=[]->US .hand=[]->XW P .any ops (nD w0 FA UA N Q) (λi=>ts.contains i) b listed a w
def fB (P:Program) (N:Nat) (ops:Array Oper) (ts:List Nat) (i:Nat) (E:St) (K:St->Prop) (Q:Exit->St->Prop):Prop:=∀(w0:Base) (FA UA:List Nat) (w:World) (a:Act) (blk:Root->Nat) (FS US:Root->List Nat),Db w0 FA UA N w a E blk FS US->FS .hand=[]->US .hand=[]->
  wpOp P ops (nD w0 FA UA N Q) i (λa' w'=>(ts.contains i=false->EO w w')/\∃E' blk' FS' US',K E'/\Db w0 FA UA N w' a' E' blk' FS' US'/\FS' .hand=[]/\US' .hand=[]) a w
theorem fB.op {ts:List Nat} (i:Nat) {o:Oper} (mv:Bool) (h:K E') (hs:CQ P N mv E o=some E') (ho:ops[i]?=some o) (hg:BK P ops E o=some true) (hk:(kp o||ts.contains i)=true):fB P N ops ts i E K Q:=by
 intro w0 FA UA w a blk FS US hr hF hU;unfold wpOp;simp only[ho,Cv hr hg,BR];refine .inl ((Rk hr hF hU hs).wp λw' v blk' FS' US' k1 k2 k3 k4=>⟨λht=>k4 (by rw[ht,PA]at hk;exact hk),_,_,_,_,h,k1,k2,k3⟩)
theorem fB.call {ts:List Nat} {f:FuncId} {n:Nat} (i:Nat) {o:Oper} {args:Array Operand} {tys:Array TypeId} (hi:ops[i]?=some o) (ho:o.op= .call {callee:= .value (.func f),args:=args,argTypes:=tys}) (hf:bQ P f) (hg:BK P ops E o=some true) (hN:∀d,o.dst=some d->d<N) (l:List (Bool×TypeId×Operand)) (hl:l.map (λx=>x.2.2)=args.toList) (b:(l.all (λx=>!x.1)||ts.contains i)=true) {c:SV} (e:AI P f as c (List.replicate n .gone)) (he:XP P E o.dst l as c E') (h:K E'):fB P N ops ts i E K Q:=by
 intro w0 FA UA w a blk FS US hr hF hU;unfold wpOp;simp only[hi,Cv hr hg,BR];exact .inl (eS hr hF hU ho hf hN hl e he λw' v blk' FS' US' k1 k2 k3 k4=>⟨λht=>k4 (by rw[ht,PA]at b;exact b),_,_,_,_,h,k1,k2,k3⟩)
theorem AAd {ts:List Nat} (h:Q .normal E) (hr:Region.ready .any ops listed=[]:=by decide+kernel):Xh P N ops ts fuel listed E Q:=
 λ_ _ w0 FA UA w a blk FS US k1 k2 k3=>by
  have hq:nD w0 FA UA N Q .normal a w:=⟨E,blk,FS,US,h,k1,k2,k3⟩
  cases fuel with
  |zero=>exact⟨hr,hq⟩
  |succ n=>exact⟨λ_=>hq,by rw[hr];simp⟩
section
variable {ts:List Nat}
theorem Xh.all (rs:List Nat) (h:∀i∈rs,fB P N ops ts i E (λE'=>Xh P N ops ts fuel (listed.setIfInBounds i true) E' Q) Q) (hr:Region.ready .any ops listed=rs) (b:rs≠ []):Xh P N ops ts (fuel+1) listed E Q:=
 λhQ hc w0 FA UA w a blk FS US k1 k2 k3=>⟨λh0=>absurd (hr▸h0) b,λi hi=>by
  have hi':i∈rs:=hr▸hi
  exact wpOp_mono (λa' w' ⟨m0,E',blk',FS',US',m1,m2,m3,m4⟩=>⟨m0,m1 hQ (LL hc hi) _ _ _ _ _ _ _ _ m2 m3 m4⟩) (h i hi' _ _ _ _ _ _ _ _ k1 k2 k3)⟩
end
def SB (ops:Array Oper) (ts:List Nat) (n i:Nat) (listed:Array Bool):Bool:=Region.noSelect ops&&Region.free .any ops listed i&&(Region.ready .any ops listed).contains i&&!ts.contains i&&ts.all λj=>XZ .any ops i n j
theorem Vl {ts:List Nat} {n i:Nat} (h:SB ops ts n i listed=true):Region.noSelect ops=true/\Region.free .any ops listed i=true/\i∈Region.ready .any ops listed/\ts.contains i=false/\∀j,ts.contains j=true->XZ .any ops i n j=true:=by
 simp only[SB,An,CP,Hp]at h;obtain⟨⟨⟨⟨h1,h2⟩,h3⟩,h4⟩,h5⟩:=h;exact⟨h1,h2,by simpa using h3,h4,λj hj=>h5 j (by simpa using hj)⟩
theorem Xh.take {ts:List Nat} (n i:Nat) {o:Oper} (d:Nat) (s:SV) (h:Xh P N ops ts fuel (listed.setIfInBounds i true) (E.put (some d) s) Q) (hs:JT P E o=some s) (ho:ops[i]?=some o) (f:SB ops ts n i listed=true) (hg:BK P ops E o=some true) (hd:o.dst=some d) (hN:Nat.blt d N=true):Xh P N ops ts (fuel+1) listed E Q:=by
 intro hQ hc w0 FA UA w a blk FS US k1 k2 k3;obtain⟨e1,e2,e3,e4,e5⟩:=Vl f;obtain⟨v,U,h1,h2,h3⟩:=Yo k1 hs;refine ML (v:=v) (n:=n) ho (Region.noSelect_spec e1) (λc a w hx=>?_) e4 e5 fuel listed a w hc (Region.free_spec ho e2) e3 (.inl ⟨Cv k1 hg,λw2 e=>?_⟩) ?_
 ·obtain⟨E',blk',FS',US',m1,_⟩:=hx;exact(hQ c E' m1).elim
 ·exact h1 w2 (λr hr=>⟨λb hb=>e.2 b (k1.inF r b hb).2,λb hb=>e.2 b (k1.inU r b hb).2⟩)
 rw[hd];refine h hQ (LL hc e3) _ _ _ _ _ _ _ _ (k1.put (by simpa[Bt]using hN) h2 (Px k1 h3 _)) ?_ ?_
 ·rw[B3 (by simp),k2]
 rw[B3 (by simp),k3]
theorem jE {ts:List Nat} (n i:Nat) {o:Oper} (d:Nat) (h:Xh P N ops ts fuel (listed.setIfInBounds i true) (E.put (some d) (.tup [])) Q) (ho:ops[i]?=some o) (b:SB ops ts n i listed=true) (hg:BK P ops E o=some false) (hd:o.dst=some d) (hN:Nat.blt d N=true):Xh P N ops ts (fuel+1) listed E Q:=by
 intro hQ hc w0 FA UA w a blk FS US k1 k2 k3;obtain⟨e1,e2,e3,e4,e5⟩:=Vl b;refine ML (v:=undef) (n:=n) ho (Region.noSelect_spec e1) (λc a w hx=>?_) e4 e5 fuel listed a w hc (Region.free_spec ho e2) e3 (.inr ⟨Cv k1 hg,rfl⟩) ?_
 ·obtain⟨E',blk',FS',US',m1,_⟩:=hx;exact(hQ c E' m1).elim
 rw[hd];refine h hQ (LL hc e3) _ _ _ _ _ _ _ _ (k1.put (F:=[]) (U:=[]) (by simpa[Bt]using hN) (by simp only[EJ];exact⟨[],rfl,by simp[OH]⟩) ZZ.none) ?_ ?_
 ·rw[B3 (by simp),k2]
 rw[B3 (by simp),k3]
theorem qC {id:Nat} (n:Nat) (ts:List Nat) (hm:P.follows .mixedOrders=true) (hQ:∀c E,Q (.panic c) E->False) (h:Xh P N ops ts n (Array.replicate n false) E Q) (hn:ops.size=n:=by rfl):Wp P N (.region id ops true) E Q:=by
 subst hn;intro w0 FA UA w a blk FS US k1 k2 k3;refine wp_region_any hm (XV (T:=λi=>ts.contains i) _ _ _ _ ?_);obtain⟨FS',US',m1,m2,m3⟩:=k1.drop (w':={w with drawn:=w.drawn+1}) (A3 _) rfl rfl rfl (λ_ _ _=>rfl);refine h hQ (λk o hk hl=>?_) _ _ _ _ _ _ _ _ m1 m2 m3;exfalso;rw[EP]at hl
 rcases CJ k ops.size with h'|h'
 ·simp[h']at hl
 simp[h']at hl
theorem Xh.o {ts:List Nat} (n i d:Nat) (s:SV) {o:Oper} (h:Xh P N ops ts fuel (listed.setIfInBounds i true) (E.put (some d) s) Q) (ho:ops[i]?=some o:=by rfl) (hs:JT P E o=some s:=by rfl) (a:SB ops ts n i listed=true:=by decide+kernel) (hg:BK P ops E o=some true:=by rfl) (hd:o.dst=some d:=by rfl) (hN:Nat.blt d N=true:=by rfl):Xh P N ops ts (fuel+1) listed E Q:=Xh.take n i d s h hs ho a hg hd hN
theorem ACP {ts:List Nat} {r:β} {b:Bool} (h:(bif b then tx else ty)=some r) (t:Nat) (ht:tx=some r->Xh P N ops ts fuel listed (E.rs t true) Q) (hf:ty=some r->Xh P N ops ts fuel listed (E.rs t false) Q) (hc:E.slots t=B b:=by rfl):Xh P N ops ts fuel listed E Q:=by
 cases b
 ·rw[dF hc]at hf;exact hf h
 rw[dF hc]at ht;exact ht h
theorem fB.o {ts:List Nat} (i d:Nat) (s:SV) {o:Oper} (h:K (E.put (some d) s)) (ho:ops[i]?=some o:=by rfl) (hs:CQ P N false E o=some (E.put (some d) s):=by rfl) (hg:BK P ops E o=some true:=by rfl) (hk:(kp o||ts.contains i)=true:=by rfl):fB P N ops ts i E K Q:=fB.op i false h hs ho hg hk
theorem fB.b {ts:List Nat} (i:Nat) (m:List (Root×List TV)) (d:Nat) (xs:List TV) {o:Oper} (h:K ((mvs E m).newBox d xs)) (ho:ops[i]?=some o:=by rfl) (hs:CQ P N false E o=some ((mvs E m).newBox d xs):=by rfl) (hg:BK P ops E o=some true:=by rfl) (hk:(kp o||ts.contains i)=true:=by rfl):fB P N ops ts i E K Q:=fB.op i false h hs ho hg hk
theorem AEv {ts:List Nat} (i:Nat) (mv:Bool) (m:List (Root×List TV)) (d:Nat) (s:SV) {o:Oper} (h:K ((mvs E m).put (some d) s)) (ho:ops[i]?=some o:=by rfl) (hs:CQ P N mv E o=some ((mvs E m).put (some d) s):=by rfl) (hg:BK P ops E o=some true:=by rfl) (hk:(kp o||ts.contains i)=true:=by rfl):fB P N ops ts i E K Q:=fB.op i mv h hs ho hg hk
theorem AEw {ts:List Nat} (i n ix d:Nat) (s:SV) {o:Oper} (h:K ((E.ex n ix).put (some d) s)) (ho:ops[i]?=some o:=by rfl) (hs:CQ P N false E o=some ((E.ex n ix).put (some d) s):=by rfl) (hg:BK P ops E o=some true:=by rfl) (hk:(kp o||ts.contains i)=true:=by rfl):fB P N ops ts i E K Q:=fB.op i false h hs ho hg hk
def oI (n:Int):Prop:= -9223372036854775808<=n/\n<=9223372036854775807
def oK (k:IntKind) (n:Int):Prop:=k.min<=n/\n<=k.max
def ol (o:α->Prop) (l:List α):Prop:=l.length<=9223372036854775807/\∀x∈l,o x
def e8 (P:Program) (t:TypeId) (c:α->List TV) (o:α->Prop):Prop:=∀{H:Type} (enc:TypeId×Value->H) (w:World) (d:Nat) (e:Nat) (cs:List Value) (x:DataW H×List MemPlace),DataW.trod enc P w d (λ_=>true) true e t cs=some x->
  ∃a U,o a/\B8 w (c a) cs [] U/\∀b∈U,b<w.heap.size
theorem Oz {t:TV} (h:CA w t v F U):B8 w [t] [v] F U:=by
 simp only[B8];exact⟨v,[],F,[],U,[],rfl,by simp,by simp,h,rfl,rfl,rfl⟩
theorem tW {k:IntKind} {t:TypeId} (ht:P.underlying t=some (.int k)):e8 P t (λn:Int=>[.int k n]) (λn=>k.min<=n/\n<=k.max):=by
 intro H enc w b a cs x h
 cases a with
 |zero=>simp[DataW.trod]at h
 |succ a=>
  simp only[DataW.trod,ht]at h;split at h<;>rename_i h1<;>try (first|(injection h1 with h1;cases h1;done)|(cases h1;done))
  all_goals first|(cases h;done)|skip
  rename_i k' n;split at h
  ·rename_i hk;simp only[Ao,TypeDesc.int.injEq]at h1;subst h1;obtain⟨rfl,hw⟩:=hk;simp only[Lit.wf,An,A6]at hw;exact⟨n,[],hw,Oz (by simp[CA]),by simp⟩
  cases h
theorem lB {t e:TypeId} {c:α->List TV} {o:α->Prop} (ht:P.underlying t=some (.slice e)) (q:P.cellsOf e=sz) (h0:0<sz) (hc:∀a,(c a).length=sz) (h:e8 P e c o):
  e8 P t (λl:List α=>[.sl false e sz (AU c l)]) (λl=>l.length<=9223372036854775807/\∀a∈l,o a):=by
 intro H enc w d h7 cs x hx
 rcases Go.Deep.open_slice ht hx with⟨rfl,_⟩|⟨a,len,cap,m,n,D,Pl,rfl,hb,f,r,hm,_,g⟩
 ·refine⟨[],[],⟨by simp,by simp⟩,Oz ?_,by simp⟩;simp only[CA];exact⟨none,0,0,[],[],[],rfl,A3 _,by simp,λi u hi=>by simp at hi,by simp[AU,B8],by simp,by simp,by simp⟩
 simp only[BR]at hm;have s:∀k,k<=len->∃(l:List α) (vs:List Value) (U:List Nat),l.length=k/\(∀a∈l,o a)/\vs.length=k*sz/\B8 w (AU c l) vs [] U/\(∀i u,vs[i]?=some u->w.cell? (a.add i)=some u)/\∀b∈U,b<w.heap.size:=by
  intro k
  induction k with
  |zero=>intro _;exact⟨[],[],[],rfl,by simp,by simp,by simp[AU,B8],by simp,by simp⟩
  |succ k ih=>
   intro hk;obtain⟨l,vs,U,h1,h2,h3,h4,h5,h6⟩:=ih (by omega);obtain⟨cs',k1,k2⟩:=g k (by omega);obtain⟨y,V,g1,g2,g3⟩:=h enc w d n cs' _ k2;obtain⟨_,k3,k4⟩:=World.cells?_some k1;rw[q]at k1 k3 k4;refine⟨l++ [y],vs++cs',U++V,by simp[h1],?_,?_,?_,?_,?_⟩
   ·intro a ha
    rcases Ai.1 ha with ha|ha
    ·exact h2 a ha
    rw[Aw.1 ha];exact g1
   ·rw[Ag,h3,k3,DJ]
   ·rw[WT];have:=IG h4 (show B8 w (AU c [y]) cs' [] V by simpa[AU]using g2);simpa using this
   ·intro i u hi;by_cases v:i<vs.length
    ·rw[AR v]at hi;exact h5 i u hi
    rw[AY (by omega)]at hi;have j:i-vs.length<sz:=by
     have:=(Ah.1 hi).1;omega
    have:=k4 (i-vs.length) j;rw[hi,TI.add_add]at this;rw[<-this];congr 2;omega
   intro b hb
   rcases Ai.1 hb with hb|hb
   ·exact h6 b hb
   exact g3 b hb
 obtain⟨l,vs,U,h1,h2,h3,h4,h5,h6⟩:=s len (A3 _);have h8:len<=9223372036854775807:=by simp only[maxLen]at r;omega
 by_cases z:len=0
 ·subst z;have:vs=[]:=AF (by omega);subst this;refine⟨l,U,⟨by omega,h2⟩,Oz ?_,h6⟩;simp only[CA];exact⟨some a,0,cap,[],U,[],rfl,f,by simp,λi u hi=>by simp at hi,h4,by simp,by simp,by simp⟩
 have p:a.block<w.heap.size:=by
  obtain⟨cs',k1,_⟩:=g 0 (by omega);have:=World.cells?_block k1 (by omega)
  rwa [Ho]at this
 refine⟨l,a.block::U,⟨by omega,h2⟩,Oz ?_,?_⟩
 ·simp only[CA];exact⟨some a,len,cap,vs,U,[a.block],rfl,f,h3,λi u hi=>⟨a,len,cap,rfl,h5 i u hi⟩,h4,by simp,.inl (by simp[Cc,Value.ownBlock]),by simp⟩
 intro b hb
 rcases B7.1 hb with rfl|hb
 ·exact p
 exact h6 b hb
theorem ABq {u:α->TV} {H:Type} {d:DataW H} {ps:List MemPlace} {t:TypeId} {o:α->Prop} {enc:TypeId×Value->H} (h:e8 P t (λa=>[u a]) o) (hv:v.cells= #[v]) (k:DataW.Trod enc P w 0 (λ_=>true) true t v d ps):
  ∃a U,o a/\Xj w (.one (u a)) v [] U/\∀b∈U,b<w.heap.size:=by
 obtain⟨n,hn⟩:=k;obtain⟨a,U,h1,h2,h3⟩:=h enc w 0 n _ _ hn;rw[hv]at h2;simp only[B8]at h2;obtain⟨v',c,F1,F2,U1,U2,e,hF,hU,h4,rfl,rfl,rfl⟩:=h2
 injection e with e _
 subst e;obtain⟨rfl,_⟩:=JQ.1 hF.symm;refine⟨a,U1,h1,?_,by simpa[hU]using h3⟩;simp only[Xj];exact⟨h4,hv⟩
theorem xJ {r:Reach} {a:Nat} {t:TypeId} (h:Value.okWide P w r a t v) (h1:∀fs,P.underlying t≠some (.struct fs)) (h2:∀n e,P.underlying t≠some (.array n e)):v.cells= #[v]:=by
 unfold Value.okWide at h;split at h
 ·rename_i fs b;exact absurd b (h1 fs)
 ·rename_i n e c;exact absurd c (h2 n e)
 unfold Cell.okWide at h;cases v<;>first|rfl|skip
 all_goals
  split at h<;>rename_i hv<;>first|(cases hv;done)|skip
  unfold Cell.ok at h;split at h<;>first|(exact h.elim)|skip
 all_goals rename_i d;cases d
def St.without (E:St) (r:Root):St:={E with boxes:=Cr E.boxes r none,ver:=Cr E.ver r (E.ver r+1),gen:=Cr E.gen r (E.gen r+1)}
theorem fE {r s:Root} (h:s≠r):(E.without r).root s=E.root s:=by
 cases s<;>simp[St.without,St.root,Cr,h]
theorem Db.without {w0:Base} {a:Act} (h:Db w0 FA UA N w a E blk FS US) (hF:FS .hand=[]) (hU:US .hand=[]) {r:Root} (hm:r.mem=true):
  Db w0 FA UA N w a (E.without r) blk (Cr (Cr FS r []) .hand (FS r)) (Cr (Cr US r []) .hand (US r)):=by
 have c:r≠ .hand:=by rintro rfl;cases hm
 have d:∀s,C3 w w a a E (E.without r) blk blk s:=by
  intro s;by_cases hs:s=r
  ·subst hs;exact⟨.inl (by simp[St.without,Cr]),.inl (by simp[St.without,Cr])⟩
  by_cases hh:s= .hand
  ·subst hh;exact Gu (by simp[St.without,Cr,hs]) (by simp[St.without,Cr,hs]) (by simp[St.root,h.nohand])
  exact En h (by simp[St.without,Cr,hs]) (by simp[St.without,Cr,hs]) (fE hs) (λ_ _=>rfl) (λ_=>rfl) (λ_ _=>rfl) (λ_ _=>rfl)
 refine h.two (r1:=r) (r2:= .hand) (L1:=[]) (L2:=FS r) (V1:=[]) (V2:=US r) c (by simpa using h.nodup r) (λb hb=>⟨.inl (by simpa using hb),(h.inF r b (by simpa using hb)).2⟩)
  (λb hb=> .inl ⟨r,by simpa using hb⟩) (A3 _) rfl rfl rfl (λ_ _ _ _=>rfl) d (λn _ _=>⟨rfl,rfl⟩) (λs _ hs _=>⟨by simp[St.without,Cr,hs],rfl⟩) ?_ trivial ?_ h.len h.nodef
 ·cases r with
  |slot n=>cases hm
  |hand=>cases hm
  |box n=>exact .inl ⟨by simp[St.without,Cr],rfl,rfl⟩
  |ext n=>exact .inl ⟨by simp[St.without,Cr],rfl,rfl⟩
 simp[St.without,Cr,Ft c,h.nohand]
theorem YT {a:Act}:∀{l:List (Bool×TypeId×Operand)},yH w a l (List.replicate l.length none) [] []
 |[]=>⟨rfl,rfl⟩
 |_::l=>YT (l:=l)
section
variable {w0:Base} {a:Act}
theorem mV {f:FuncId} {x:Operand} {l:List (Bool×TypeId×Operand)} {n:Nat} {K:Act->World->Prop} {Q:Exit->Act->World->Prop} (h:Db w0 FA UA N w a E blk FS US) (hF:FS .hand=[]) (hU:US .hand=[]) {o:Oper} {args:Array Operand} {tys:Array TypeId} (ho:o.op= .call {callee:= .value (.func f),args:=args,argTypes:=tys}) (hf:bQ P f) (hN:∀d,o.dst=some d->d<N) (hl:x::l.map (λx=>x.2.2)=args.toList) {r:Root} (hm:r.mem=true) (hx:E.ptr? x=some (r,[],0)) {cells cells':List TV} (hc:E.boxes r=some cells) (c6:cells'.length=cells.length) {res:SV} {c:Bool} (b5:J9 P (E.without r) l (List.replicate l.length none)=some (as,c)) (a3:c=true\/Bo res=false/\AJ cells'=false) (hg:AI P f (.ext cells::as) res (.ext cells'::List.replicate n .gone)) (hK:∀w' v blk' FS' US',Db w0 FA UA N w' (a.put o.dst v) (((E.setRoot r cells').bump r).put o.dst res) blk' FS' US'->FS' .hand=[]->US' .hand=[]->K (a.put o.dst v) w'):o.wp P a w K Q:=by
 have a6:r≠ .hand:=by rintro rfl;cases hm
 have k2:=h.without hF hU hm;obtain⟨U',k5,k6⟩:=Ls k2 YT b5;have a7:∃i T F,w.heap[blk r]?=some (.cells i T (0,0))/\B8 w cells i.toList F (US r)/\FS r=blk r::F:=by
  rcases h.box r hm with⟨h1,_⟩|⟨cs,i,T,F,h1,h2,h3,h4⟩
  ·rw[hc]at h1;cases h1
  rw[hc]at h1;injection h1 with h1;subst h1;exact⟨i,T,F,h2,h3,h4⟩
 obtain⟨i,T,F,b2,b3,b4⟩:=a7;obtain⟨a8,ad,h9,a9⟩:=KK h hx;have b6:ad=⟨blk r,0,none⟩:=by
  cases r with
  |slot n=>cases hm
  |hand=>cases hm
  |box n=>simp[pa,Addr.add]at h9;exact h9.symm
  |ext n=>simp[pa,Addr.add]at h9;exact h9.symm
 subst b6;have b0:cells≠ []:=by
  rintro rfl
  cases r with
  |slot n=>cases hm
  |hand=>cases hm
  |box n=>simp[St.place,St.root,hc,Ca]at a8
  |ext n=>simp[St.place,St.root,hc,Ca]at a8
 have b1:a.eval x::l.map (λx=>a.eval x.2.2)=(args.map a.eval).toList:=by
  rw[P9,<-hl,BE,FU];rfl
 have p:La w (.ext cells::as) (args.map a.eval).toList (FS r++ []) (US r++U'):=by
  rw[<-b1];exact⟨_,_,FS r,[],US r,U',rfl,rfl,rfl,⟨blk r,i,T,F,a9,b2,b3,b4,b0⟩,k5⟩
 rw[A0]at p;have b7:∀s b,b∈Cr (Cr US r []) .hand (US r) s->∃s',b∈US s':=by
  intro s b hb;by_cases hs:s= .hand
  ·subst hs;rw[BY]at hb;exact⟨r,hb⟩
  rw[B3 hs]at hb;by_cases k:s=r
  ·subst k;rw[BY]at hb;cases hb
  rw[B3 k]at hb;exact⟨s,hb⟩
 have b8:∀s b,s≠ .hand->b∈Cr (Cr FS r []) .hand (FS r) s->s≠r/\b∈FS s:=by
  intro s b hs hb;rw[B3 hs]at hb;by_cases k:s=r
  ·subst k;rw[BY]at hb;cases hb
  rw[B3 k]at hb;exact⟨k,hb⟩
 have k6':∀b∈U',(∃s,b∈US s)\/(c=false/\∃s,s≠r/\b∈FS s):=by
  intro b hb
  rcases k6 b hb with h4|⟨s,h4⟩|⟨h5,s,h6,h4⟩
  ·cases h4
  ·exact .inl (b7 s b h4)
  exact .inr ⟨h5,s,b8 s b h6 h4⟩
 have a4:∀b∈FS r,b∉US r++U':=by
  intro b hb hb'
  rcases Ai.1 hb' with hb'|hb'
  ·exact h.disU r r b hb hb'
  rcases k6' b hb' with⟨s,h4⟩|⟨_,s,h5,h4⟩
  ·exact h.disU r s b hb h4
  exact h.dis r s (Ft h5) b hb h4
 have t:=hg w _ (FS r) (US r++U') p (h.nodup r) a4 (by
  intro b hb
  rcases Ai.1 hb with hb|hb
  ·exact(h.inF r b hb).2
  rcases Ai.1 hb with hb|hb
  ·exact(h.inU r b hb).2
  rcases k6' b hb with⟨s,h4⟩|⟨_,s,h5,h4⟩
  ·exact(h.inU s b h4).2
  exact(h.inF s b h4).2)
 unfold Oper.wp;rw[IE ho hf];simp only[Oper.upon];rw[QM]at t;refine Calls.mono t ?_;rintro e w' ⟨v,Fr,Ur,G,V,rfl,g⟩;have u:=g.fin;rw[<-b1]at u;simp only[La]at u;obtain⟨v1,vs1,G1,G2,V1,V2,e1,rfl,rfl,⟨b,cur',T',F0,g1,g2,g3,rfl,g5⟩,a5⟩:=u;obtain⟨rfl,rfl⟩:=TO a5
 injection e1 with e1 e2
 rw[<-e1,a9]at g1
 injection g1 with g1
 injection g1 with g1
 injection g1 with g1
 subst g1;have m:=g.nodup;have a1:=g.dis;have z:=g.inF;have a2:=g.inU;simp only[A0]at m a1 z a2;have hV:∀b∈Ur++V1,(∃s,b∈US s)\/((b∈FS r\/w.heap.size<=b)/\b<w'.heap.size):=by
  intro b hb;obtain⟨h4,h5⟩:=a2 b hb
  rcases h4 with h4|h4|h4
  ·rcases Ai.1 h4 with h4|h4
   ·exact .inl ⟨r,h4⟩
   rcases k6' b h4 with h6|⟨h6,s,h7,h8⟩
   ·exact .inl h6
   rcases a3 with a3|⟨c1,c2⟩
   ·rw[a3]at h6;cases h6
   have n1:=Rg g.res c1;have n2:=KJ g3 c2;subst n1;subst n2;cases hb
  ·exact .inr ⟨.inl h4,h5⟩
  exact .inr ⟨.inr h4,h5⟩
 have a0:∀j,((E.setRoot r cells').bump r).place r [] j=cells'[j]? :=by
  intro j
  cases r with
  |slot n=>cases hm
  |hand=>cases hm
  |box n=>simp[St.place,St.bump,St.setRoot,St.root,Cr,Ca]
  |ext n=>simp[St.place,St.bump,St.setRoot,St.root,Cr,Ca]
 have h0:∀j,E.place r [] j=cells[j]? :=by
  intro j
  cases r with
  |slot n=>cases hm
  |hand=>cases hm
  |box n=>simp[St.place,St.root,hc,Ca]
  |ext n=>simp[St.place,St.root,hc,Ca]
 let E1:St:=(E.setRoot r cells').bump r
 have ev:∀s,s≠r->E1.ver s=E.ver s:=by
  intro s hs;cases r<;>simp[E1,St.bump,St.setRoot,Cr,hs]
 have evr:E1.ver r=E.ver r+1:=by cases r<;>simp[E1,St.bump,St.setRoot,Cr]
 have eg:∀s,E1.gen s=E.gen s:=by intro s;cases r<;>rfl
 have er:∀s,s≠r->E1.root s=E.root s:=by
  intro s hs
  cases r with
  |slot n=>cases hm
  |hand=>cases hm
  |box n=>cases s<;>simp[E1,St.bump,St.setRoot,St.root,Cr,hs]
  |ext n=>cases s<;>simp[E1,St.bump,St.setRoot,St.root,Cr,hs]
 have es:∀n,E1.slots n=E.slots n:=by
  intro n
  cases r with
  |slot n=>cases hm
  |hand=>cases hm
  |box n=>rfl
  |ext n=>rfl
 have eb:∀s,E1.boxes s=if s=r then some cells' else E.boxes s:=by
  intro s
  cases r with
  |slot n=>cases hm
  |hand=>cases hm
  |box n=>rfl
  |ext n=>rfl
 have c0:∀s,C3 w w' a a E E1 blk blk s:=by
  intro s;by_cases hs:s=r
  ·subst hs;refine⟨.inl (by rw[evr];omega),.inr ⟨eg s,λj ad hv hp=>?_⟩⟩;refine⟨(by cases s<;>first|exact hv|(cases hm)),?_⟩;rw[h0]at hp;rw[show E1.place s [] j=cells'[j]? from a0 j];have hj:j<cells.length:=by
    rcases CJ j cells.length with q|q
    ·exact q
    rw[DF q]at hp;cases hp
   rw[Ab (by omega)];rfl
  by_cases hh:s= .hand
  ·subst hh;exact Gu (ev _ hs) (eg _) (by simp[St.root,h.nohand])
  exact En h (ev s hs) (eg s) (er s hs) (λ_ _=>rfl) (λ_=>rfl)
   (λb hb=>g.keep b (h.inF s b hb).2 (h.dis s r hs b hb)) (λb hb=>g.keep b (h.inU s b hb).2 (λe=>h.disU r s b e hb))
 have k7:=h.two (w':=w') (a':=a) (E':=E1) (blk':=blk) (r1:=r) (r2:= .hand) (L1:=blk r::F0) (L2:=Fr) (V1:=V1) (V2:=Ur) a6
  (by
   rw[Bu]at m⊢
   exact⟨m.2.1,m.1,λx hx y hy e=>m.2.2 y hy x hx e.symm⟩)
  (λb hb=>by
   obtain⟨q1,q2⟩:=z b (by
    rcases Ai.1 hb with hb|hb
    ·exact AM _ hb
    exact AE _ hb)
   refine⟨?_,q2⟩
   rcases q1 with q1|q1
   ·exact .inl q1
   exact .inr (.inr q1))
  (λb hb=>by
   have hb':b∈Ur++V1:=by
    rcases Ai.1 hb with hb|hb
    ·exact AM _ hb
    exact AE _ hb
   rcases hV b hb' with q|⟨q1,q2⟩
   ·exact .inl q
   refine .inr ⟨?_,λe=>?_,q2⟩
   ·rcases q1 with q1|q1
    ·exact .inl q1
    exact .inr (.inr q1)
   refine a1 b ?_ hb'
   rcases Ai.1 e with e|e
   ·exact AM _ e
   exact AE _ e)
  g.size g.os g.tape g.output (λb hb q _=>g.keep b hb q) c0 (λn _ _=>⟨es n,rfl⟩) (λs _ hs _=>⟨by rw[eb,Az hs],rfl⟩)
  (by
   have:Hg w' a E1 blk r (blk r::F0) V1:=by
    have:=eb r;rw[Ax rfl]at this
    cases r with
    |slot n=>cases hm
    |hand=>cases hm
    |box n=>exact .inr ⟨cells',cur',T',F0,this,g2,g3,rfl⟩
    |ext n=>exact .inr ⟨cells',cur',T',F0,this,g2,g3,rfl⟩
   exact this)
  trivial (by rw[eb,Az (Ft a6)];exact h.nohand) h.len h.nodef (hfz:=by
   intro n hn;have e:((E.setRoot r cells').bump r).fz=E.fz:=by rw[QF,I4]
   exact h.frz n (e▸hn)) (hamb:=by show((E.setRoot r cells').bump r).amb=E.amb;rw[KY,E9])
 have kh:(Cr (Cr FS r (blk r::F0)) .hand Fr) .hand=Fr:=BY _ _ _;have kh2:(Cr (Cr US r V1) .hand Ur) .hand=Ur:=BY _ _ _
 cases hd:o.dst with
 |some d=>
  obtain⟨FS',US',q1,q2,q3⟩:=k7.land (w':=w') (d:=d) (s:=res) (v:=v) (F:=Fr) (U:=Ur) (hN d hd) (Ny g.res) (Bu.1 m).1
   (λb hb=>⟨.inl (by rw[kh];exact hb),(z b (AE _ hb)).2⟩) (λb hb=> .inl ⟨.hand,by rw[kh2];exact hb⟩) (A3 _) rfl rfl rfl (λ_ _ _=>rfl)
  have:=hK w' v blk FS' US' (by rw[hd];exact q1) q2 q3;rw[hd]at this;exact this
 |none=>
  obtain⟨FS',US',q1,q2,q3⟩:=k7.drop (w':=w') (A3 _) rfl rfl rfl (λ_ _ _=>rfl);have:=hK w' v blk FS' US' (by rw[hd];exact q1) q2 q3;rw[hd]at this;exact this
end
theorem Zu {f:FuncId} (A:Nat->QZ) (hA:∀b,(A b).B=[]/\(∀w,(A b).I w)/\∀c,(A b).pin=some c->c=b) {c:Code} {cells cells':List TV} {res:SV} (hf:P.funcs[f]?=some fn) (hb:fn.body=some c) (h:∀b,Wp P fn.ntmps c (DL (.ext cells::as) (A b)) λe E=>(e= .normal\/e= .ret)/\∃ss E',Ef P E fn.results.toList=some (ss,E')/\EU ss=res/\E'.boxes (.ext 0)=some cells') (m:cells'.isEmpty=false):
  AI P f (.ext cells::as) res (.ext cells'::List.replicate as.length .gone):=by
 intro w vs FA UA ha o k p;have ha':=ha;obtain⟨v0,vs0,F1,F2,U1,U2,rfl,rfl,rfl,⟨b0,cur0,T0,F0,rfl,_,_,rfl,_⟩,r⟩:=ha;obtain⟨blk,FS,US,hr,hF,hU⟩:=Sa (N:=fn.ntmps) ha' o k p (A:=A b0) ((hA b0).2.1 w) (λb hb=>by rw[(hA b0).1]at hb;cases hb) (hpin:=λc hc=>((hA b0).2.2 c hc).symm);refine calls_of_wp hf hb (wp_mono (h b0 _ _ _ _ _ _ _ _ hr hF hU) ?_);rintro e a w' ⟨E,blk',FS',US',⟨he,ss,E',h1,rfl,i⟩,h2,h3,h4⟩;obtain⟨us,FS2,US2,F,U,k1,k2,k3,k4,k5⟩:=Mu h2 h1;rw[h3,AA]at k4;rw[h4,AA]at k5;have j:∀(n:Nat) (vs:List Value),vs.length=n->La w' (List.replicate n .gone) vs [] []:=by
  intro n
  induction n with
  |zero=>intro vs hv;simp at hv;subst hv;exact⟨rfl,rfl,rfl⟩
  |succ n ih=>
   intro vs hv
   cases vs with
   |nil=>simp at hv
   |cons v vs=>exact⟨v,vs,[],[],[],[],rfl,rfl,rfl,⟨rfl,rfl⟩,ih vs (by simpa using hv)⟩
 have s:vs0.length=as.length:=by
  obtain⟨_,_,_,_,h5,_⟩:=SH r;exact h5
 have l:blk' (.ext 0)=b0:=by
  rw[k3.xblk];rfl
 obtain⟨d,T,F3,b2,b3,b4⟩:∃d T F3,w'.heap[b0]?=some (.cells d T (0,0))/\B8 w' cells' d.toList F3 (US2 (.ext 0))/\FS2 (.ext 0)=b0::F3:=by
  rcases k3.box (.ext 0) rfl with⟨q,_⟩|⟨cs,d,T,F3,q1,q2,q3,q4⟩
  ·rw[i]at q;cases q
  rw[i]at q1
  injection q1 with q1
  subst q1;rw[l]at q2 q4;exact⟨d,T,F3,q2,q3,q4⟩
 have hne':cells'≠ []:=by rintro rfl;cases m
 have g:a.defers=[]/\∃v,(results fn a.tmps).run P w'= .ok v w'/\∃v' F U G V,Ending.returned v= .returned v'/\AAb w w' ((b0::F0)++F2) (U1++U2) (EU ss) (.ext cells'::List.replicate as.length .gone) (.pointer (some ⟨b0,0,none⟩)::vs0) v' F U G V:=by
  refine⟨h2.nodef,_,Oy k1,_,F,U,FS2 (.ext 0),US2 (.ext 0),rfl,?_⟩
  exact{
   res:=R5 k2
   fin:=⟨_,vs0,FS2 (.ext 0),[],US2 (.ext 0),[],rfl,by simp,by simp,⟨b0,d,T,F3,rfl,b2,b3,b4,hne'⟩,j _ _ s⟩
   nodup:=by
    rw[<-k4,Bu];exact⟨k3.nodup _,k3.nodup _,λx hx y hy e=>k3.dis .hand (.ext 0) (by simp) x hx (e▸hy)⟩
   dis:=by
    intro b hb hb';rw[<-k4]at hb;rw[<-k5]at hb'
    rcases Ai.1 hb with hb|hb<;>rcases Ai.1 hb' with hb'|hb'
    ·exact k3.disU .hand .hand b hb hb'
    ·exact k3.disU .hand (.ext 0) b hb hb'
    ·exact k3.disU (.ext 0) .hand b hb hb'
    exact k3.disU (.ext 0) (.ext 0) b hb hb'
   inF:=by
    intro b hb;rw[<-k4]at hb
    rcases Ai.1 hb with hb|hb
    ·exact k3.inF .hand b hb
    exact k3.inF (.ext 0) b hb
   inU:=by
    intro b hb;rw[<-k5]at hb
    rcases Ai.1 hb with hb|hb
    ·exact k3.inU .hand b hb
    exact k3.inU (.ext 0) b hb
   os:=k3.os
   tape:=k3.tape
   output:=k3.output
   size:=k3.size
   keep:=λb hb hF=>k3.keep b hb hF (λe=>by rw[show b∈(A b0).B↔b∈([]:List Nat) by rw[(hA b0).1]]at e;cases e)}
 rcases he with rfl|rfl
 ·exact g
 exact g
theorem uR {f:FuncId} {c:Code} {a cells':List TV} {b:SV} (hf:P.funcs[f]?=some fn) (hb:fn.body=some c) (h:Wp P fn.ntmps c (DL (.ext a::as)) λe E=>(e= .normal\/e= .ret)/\∃ss E',Ef P E fn.results.toList=some (ss,E')/\EU ss=b/\E'.boxes (.ext 0)=some cells') (d:cells'.isEmpty=false):
 AI P f (.ext a::as) b (.ext cells'::List.replicate as.length .gone):=Zu (λ_=>QZ.none) (λ_=>⟨rfl,λ_=>trivial,λ_ h=>by cases h⟩) hf hb (λ_=>h) d
def kX (b:Nat):QZ:={QZ.none with pin:=some b}
theorem AAL (b:Nat):(kX b).B=[]/\(∀w,(kX b).I w)/\∀c,(kX b).pin=some c->c=b:=⟨rfl,λ_=>trivial,λc h=>by injection h with h;exact h.symm⟩
theorem ADZ {k:IntKind} {len:Nat} {o:Oper} {m:Nat} (r:Root) (q:List Nat) (j:Nat) (hn:n=(m:Int)) {t e:TypeId} {a i:Operand} (ho:o.op= .indexAddr t a i:=by rfl) (ht:P.underlying t=some (.array len e):=by rfl) (hi:E.cell1 P 0 i=some (.int k n):=by rfl) (hp:E.ptr? a=some (r,q,j):=by rfl) (hc:P.cellsOf e=1:=by rfl) (hl:Nat.blt m len=true:=by rfl) (hs:(E.place r q (j+m)).isSome=true:=by rfl):Bm P E o=some (.one (.ptr r (E.stamp r q) q (j+m))):=by
 subst hn;have hl':m<len:=by simpa[Bt]using hl
 simp only[Bm,ho,ht,hi,hp,hc,Bh,bY];rw[Ax ⟨by omega,by omega,by omega,hs⟩]
def EX (l:List Int):ByteArray:=strOfNums l
theorem Vt {f:Int->List TV} (hf:∀n,f n=[.int .u8 n]):∀l,OD (AU f l)=some l
 |[]=>rfl
 |n::l=>by
  have:AU f (n::l)=f n++AU f l:=by simp[AU]
  rw[this,hf];simp only[Ct,OD,Vt hf l,B9]
theorem AD5 {f:Int->List TV} {x:Operand} {o:Oper} (hf:∀n,f n=[.int .u8 n]) (l:List Int) {s d e e':TypeId} {a:Bool} {r:Root} (ho:o.op= .convert s d x:=by rfl) (hs:P.underlying s=some (.slice e):=by rfl) (hd:P.underlying d=some .string:=by rfl) (he:P.underlying e=some (.int .u8):=by rfl) (hr:E.ref x=some (r,q,j):=by rfl) (hp:E.place r q j=some (.sl a e' 1 (AU f l)):=by rfl):Bm P E o=some (.one (.str (EX l))):=by
 simp only[Bm,ho,hs,hd,he,hr,hp,BR,Vt hf,B9];rfl
def shl (k:IntKind) (a b:Int):Option Int:=if b<0 then none else some (k.wrap (a*2^(min b.toNat k.bits)))
theorem AC7 {k:IntKind} {x y:Operand} {o:Oper} {a b v:Int} (h:shl k a b=some v) {t t2:TypeId} (ho:o.op= .binOp .shl t x y t2:=by rfl) (hx:E.cell1 P t x=some (.int k a):=by rfl) (hy:E.cell1 P t y=some (.int k2 b):=by rfl):Bm P E o=some (.one (.int k v)):=by
 unfold shl at h;split at h
 ·cases h
 rename_i hb
 injection h with h
 subst h;simp only[Bm,ho,hx,hy,Wr,BR,WZ,Az hb,B9]
def dr (l:List α) (lo hi:Int):Option (List α):=if 0<=lo/\lo<=hi/\hi<=l.length then some ((l.drop lo.toNat).take (hi.toNat-lo.toNat))else none
theorem Wj (hf:∀x,(f x).length=sz):∀(l:List α) (n:Nat),(AU f l).take (n*sz)=AU f (l.take n)
 |l,0=>by simp[AU]
 |[],n+1=>by simp[AU]
 |x::l,n+1=>by
  have h1:AU f (x::l)=f x++AU f l:=by simp[AU]
  have h2:AU f (x::l.take n)=f x++AU f (l.take n):=by simp[AU]
  rw[h1,DJ,Ob,W0,hf x,Nat.add_sub_cancel_left,Wj hf l n,M6,h2,AS (by rw[hf x];omega)]
theorem AD4 {v:List α} {x oh:Operand} {o:Oper} (hf:∀x,(f x).length=sz) {a b:Int} (h:dr l a b=some v) {t e e':TypeId} {r:Root} (ho:o.op= .slice t x lo (some oh) none:=by rfl) (ht:P.underlying t=some (.slice e):=by rfl) (hr:E.ref x=some (r,q,j):=by rfl) (hp:E.place r q j=some (.sl false e' sz (AU f l)):=by rfl) (hl:(match lo with|some o=>E.cell1 P 0 o|none=>some (.int .i64 0))=some (.int k1 a):=by rfl) (hh:E.cell1 P 0 oh=some (.int k2 b):=by rfl) (c:P.cellsOf e=sz:=by rfl) (h0:Nat.blt 0 sz=true:=by rfl):Bm P E o=some (.one (.sl false e' sz (AU f v))):=by
 have h0':0<sz:=by simpa[Bt]using h0
 unfold dr at h;split at h
 ·rename_i hc
  injection h with h
  subst h;have hl':∀lo':Option TV,lo'=some (.int k1 a)->(match lo',E.cell1 P 0 oh with|some (.int _ l0),some (.int _ h0)=>if sz=P.cellsOf e/\0<sz/\0<=l0/\l0<=h0/\h0.toNat*sz<=(AU f l).length then some (SV.one (.sl false e' sz (((AU f l).drop (l0.toNat*sz)).take ((h0.toNat-l0.toNat)*sz))))else none|_,_=>none)=some (SV.one (.sl false e' sz (AU f ((l.drop a.toNat).take (b.toNat-a.toNat))))):=by
   rintro _ rfl;rw[hh];simp only;rw[Ax ⟨c.symm,h0',hc.1,hc.2.1,by rw[Fq hf];exact BH _ (by omega)⟩,K2 hf,Wj hf]
  simp only[Bm,ho,ht,hr,hp];exact hl' _ hl
 cases h
theorem ADa {v:List α} {x:Operand} {o:Oper} (hf:∀x,(f x).length=sz) {a:Int} (h:dr l a (ln l)=some v) {t e e':TypeId} {r:Root} (ho:o.op= .slice t x lo none none:=by rfl) (ht:P.underlying t=some (.slice e):=by rfl) (hr:E.ref x=some (r,q,j):=by rfl) (hp:E.place r q j=some (.sl false e' sz (AU f l)):=by rfl) (hl:(match lo with|some o=>E.cell1 P 0 o|none=>some (.int .i64 0))=some (.int k1 a):=by rfl) (c:P.cellsOf e=sz:=by rfl) (h0:Nat.blt 0 sz=true:=by rfl):Bm P E o=some (.one (.sl false e' sz (AU f v))):=by
 have h0':0<sz:=by simpa[Bt]using h0
 have b:(AU f l).length/sz=l.length:=by rw[Fq hf];exact FI _ h0'
 unfold dr at h;split at h
 ·rename_i hc
  injection h with h
  subst h;simp only[ln]at hc⊢;have hl':∀lo':Option TV,lo'=some (.int k1 a)->(match lo',some (TV.int .i64 (((AU f l).length/sz:Nat):Int))with|some (.int _ l0),some (.int _ h0)=>if sz=P.cellsOf e/\0<sz/\0<=l0/\l0<=h0/\h0.toNat*sz<=(AU f l).length then some (SV.one (.sl false e' sz (((AU f l).drop (l0.toNat*sz)).take ((h0.toNat-l0.toNat)*sz))))else none|_,_=>none)=some (SV.one (.sl false e' sz (AU f ((l.drop a.toNat).take (((l.length:Nat):Int).toNat-a.toNat))))):=by
   rintro _ rfl;rw[b];simp only;rw[Ax ⟨c.symm,h0',hc.1,hc.2.1,by rw[Fq hf];exact BH _ (by omega)⟩,K2 hf,Wj hf]
  simp only[Bm,ho,ht,hr,hp];exact hl' _ hl
 cases h
theorem iY {x y:Option β} {G:Prop} {b:Bool} {r:β} (h:(bif b then x else y)=some r) (h1:b=true->x=some r->G) (h2:y=some r->G):G:=by
 cases b with
 |true=>exact h1 rfl h
 |false=>exact h2 h
def oF (b:ByteArray):List Int:=b.data.toList.map λc=>(c.toNat:Int)
def aps (l:List Int) (b:ByteArray):Option (List Int):=if l.length+b.size<=140737488355328 then some (l++oF b)else none
theorem jS {f:Int->List TV} (hf:∀n,f n=[.int .u8 n]) (b:ByteArray):VD b=AU f (oF b):=by
 unfold VD oF
 induction b.data.toList with
 |nil=>rfl
 |cons c l ih=>
  have e:∀(x:Int) (m:List Int),AU f (x::m)=f x++AU f m:=λx m=>by simp[AU]
  rw[BE,BE,e,hf,ih];rfl
theorem ADU {o:Oper} {f:Int->List TV} {x:Operand} (hf:∀n,f n=[.int .u8 n]) {b:ByteArray} {src dst e:TypeId} (ho:o.op= .convert src dst x:=by rfl) (hd:o.dst=some d:=by rfl) (hN:Nat.blt d N=true:=by rfl) (hs:P.underlying src=some .string:=by rfl) (a:P.underlying dst=some (.slice e):=by rfl) (hx:E.cell1 P src x=some (.str b):=by rfl) (c:lN P e=true:=by rfl):CQ P N false E o=some (E.put (some d) (.one (.sl false e 1 (AU f (oF b))))):=by
 have hN':d<N:=by simpa[Bt]using hN
 unfold CQ;rw[hd];simp only[Ax hN',ho,SD,hs,a,hx];rw[Ax c,jS hf]
structure GL (w w':World) (B:List Nat):Prop where
 os:w'.os=w.os
 tape:w'.tape=w.tape
 output:w'.output=w.output
 size:w.heap.size<=w'.heap.size
 keep:∀b,b<w.heap.size->b∉B->w'.heap[b]?=w.heap[b]?
theorem Db.beside {w0:Base} {a:Act} (h:Db w0 FA UA N w a E blk FS US) (hb:GL w w' w0.B) (hB:A'.B=E.amb.B) (hI:A'.I w') (hP:∀b,A'.pin=some b->E.amb.pin=some b):Db w0 FA UA N w' a {E with amb:=A'} blk FS US:=by
 have hF:∀r,∀b∈FS r,w'.heap[b]?=w.heap[b]? :=λr b hx=>hb.keep b (h.inF r b hx).2 (λe=>by
  obtain⟨h1,h2,h3⟩:=h.ambF b e
  rcases(h.inF r b hx).1 with h4|h4
  ·exact h2 h4
  omega)
 have hU:∀r,∀b∈US r,w'.heap[b]?=w.heap[b]? :=λr b hx=>hb.keep b (h.inU r b hx).2 (λe=>by
  obtain⟨h1,h2,h3⟩:=h.ambF b e
  rcases(h.inU r b hx).1 with h4|h4|h4
  ·exact h3 h4
  ·exact h2 h4
  omega)
 have c:∀s,C3 w w' a a E {E with amb:=A'} blk blk s:=λs=>
  En h rfl rfl (by cases s<;>rfl) (λ_ _=>rfl) (λ_=>rfl) (hF s) (hU s)
 have hr:∀r,Hg w' a {E with amb:=A'} blk r (FS r) (US r):=λr=>
  Rx c (h.root r) (λn _=>⟨rfl,rfl⟩) (λ_=>⟨rfl,rfl⟩) (hF r) (hU r)
 constructor
 ·exact λn=>hr (.slot n)
 ·intro r hm
  cases r with
  |slot n=>cases hm
  |hand=>cases hm
  |box n=>exact hr (.box n)
  |ext n=>exact hr (.ext n)
 ·exact h.nohand
 ·exact h.nodup
 ·exact h.dis
 ·exact h.disU
 ·exact λr b hx=>⟨(h.inF r b hx).1,Bg (h.inF r b hx).2 hb.size⟩
 ·exact λr b hx=>⟨(h.inU r b hx).1,Bg (h.inU r b hx).2 hb.size⟩
 ·exact h.disA
 ·exact hb.os.trans h.os
 ·exact hb.tape.trans h.tape
 ·exact hb.output.trans h.output
 ·exact GN h.size hb.size
 ·exact λb h1 h2 h3=>(hb.keep b (Bg h1 h.size) h3).trans (h.keep b h1 h2 h3)
 ·exact h.len
 ·exact h.nodef
 ·exact h.xblk
 ·rw[hB];exact h.ambB
 ·exact hI
 ·exact h.frz
 ·exact h.ambF
 exact λb hp=>h.pin b (hP b hp)
def MI (P:Program) (f:FuncId) (A:QZ) (as:List AV) (A':QZ):Prop:=∀(w:World) (vs:List Value),La w as vs [] []->(∀b∈A.B,b<w.heap.size)->A.I w->Calls P f vs.toArray w λe w'=>e= .returned (.tuple #[])/\GL w w' A.B/\A'.I w'
theorem uS {f:FuncId} {c:Code} (hf:P.funcs[f]?=some fn) (hb:fn.body=some c) (hr:fn.results= #[]) (hp:A.pin=none) (h:Wp P fn.ntmps c (DL as A) λe E=>(e= .normal\/e= .ret)/\E.amb=A'):MI P f A as A':=by
 intro w vs ha hB hA;obtain⟨blk,FS,US,g,hF,hU⟩:=Sa (N:=fn.ntmps) ha CE (by simp) (by simp) (A:=A) hA (λb hb=>⟨hB b hb,by simp,by simp⟩) (hpin:=λb h=>by rw[hp]at h;cases h);refine calls_of_wp hf hb (wp_mono (h _ _ _ _ _ _ _ _ g hF hU) ?_);rintro e a w' ⟨E,blk',FS',US',⟨he,rfl⟩,h2,h3,h4⟩;have i:(results fn a.tmps).run P w'= .ok (.tuple #[]) w':=by
  rw[YD (P:=P),hr];simp
 have d:a.defers=[]/\∃v,(results fn a.tmps).run P w'= .ok v w'/\Ending.returned v= .returned (.tuple #[])/\GL w w' A.B/\E.amb.I w':=
  ⟨h2.nodef,_,i,rfl,⟨h2.os,h2.tape,h2.output,h2.size,λb h5 h6=>h2.keep b h5 (by simp) h6⟩,h2.ambI⟩
 rcases he with rfl|rfl
 ·exact d
 exact d
theorem Rj {w0:Base} {a:Act} {blk:Root->Nat} (h:Db w0 FA UA N w a E blk FS US) (hF:FS .hand=[]) (hU:US .hand=[]) (hd:d<N) {s:SV} (hb:GL w w' w0.B) (hB:A'.B=E.amb.B) (hI:A'.I w') (hs:Xj w' s v [] []) (hP:∀b,A'.pin=some b->E.amb.pin=some b):
  ∃FS' US',Db w0 FA UA N w' (a.put (some d) v) (({E with amb:=A'}:St).put (some d) s) blk FS' US'/\FS' .hand=[]/\US' .hand=[]:=by
 have k:=h.beside hb hB hI hP;exact k.land (w':=w') (F:=[]) (U:=[]) hd (Ny hs) CE (by simp) (by simp) (A3 _) rfl rfl rfl (λ_ _ _=>rfl)
theorem ACO {rr : β} {x : Option α} {k : α → Option β} {f : FuncId} {l : List AV} (h : x.bind k = some rr) (d : Nat) (Am : α → QZ) {args : Array Operand} {tys : Array TypeId} (ho : oo.op = .call { callee := .value (.func f), args := args, argTypes := tys }) (hA : E.amb = A) (hB : ∀ v, (Am v).B = A.B ∧ (Am v).pin = none) (m : J9 P E ((tys.toList.zip args.toList).map fun (t, x) => (false, t, x)) (List.replicate args.size none) = some (l, true)) (n : ∀ w vs F U, La w l vs F U → F = [] ∧ U = []) (o : ∀ v, x = some v → MI P f A l (Am v)) (hk : ∀ v, x = some v → k v = some rr → Hr P N ops rest (({ E with amb := Am v } : St).put (some d) (.tup [])) Q) (hf : P.funcs[f]? = some fn := by rfl) (hn : (fn.name == "runtime.NumGoroutine") = false := by rfl) (hb : fn.body.isNone = false := by rfl) (hd : oo.dst = some d := by rfl) (hN : Nat.blt d N = true := by rfl) (hz : tys.size = args.size := by rfl) (hg : BK P ops E oo = some true := by rfl) : Hr P N ops (oo :: rest) E Q := by
 obtain⟨v,hv,h⟩:=Av.1 h;have hN':d<N:=by simpa[Bt]using hN
 intro w0 FA UA w a blk FS US hr hF hU;simp only[wpList,Cv hr hg,BR];refine .inl ?_;have i:((tys.toList.zip args.toList).map λ(t,x)=>(false,t,x)).length=args.size:=by simp[hz]
 obtain⟨U',k5,k6⟩:=Ls hr (YT (l:=(tys.toList.zip args.toList).map λ(t,x)=>(false,t,x))) (by rw[i];exact m);have p:((tys.toList.zip args.toList).map λ(t,x)=>(false,t,x)).map (λx=>a.eval x.2.2)=(args.map a.eval).toList:=by
  rw[P9,FU];have:((λx:Bool×TypeId×Operand=>a.eval x.2.2)∘λ(x:TypeId×Operand)=>(false,x.1,x.2))=a.eval∘Prod.snd:=rfl;refine(Cb (λg=>List.map g (tys.toList.zip args.toList)) this).trans ?_;rw[<-FU,List.map_snd_zip (by simp[hz])]
 rw[p]at k5;obtain⟨_,rfl⟩:=n _ _ _ _ k5;have j:w0.B=A.B:=hr.ambB.trans (by rw[hA])
 have c:=o v hv w _ k5 (λb hb=>by
  rw[<-j]at hb
  exact Bg (hr.ambF b hb).1 hr.size) (by rw[<-hA];exact hr.ambI)
 unfold Oper.wp;rw[IE ho ⟨fn,hf,by intro e;rw[e]at hn;simp at hn,hb⟩];simp only[Oper.upon];rw[QM]at c;refine Calls.mono c ?_;rintro e w' ⟨rfl,q,hI⟩;obtain⟨FS',US',q1,q2,q3⟩:=Rj (s:= .tup []) (v:= .tuple #[]) hr hF hU hN' (by rw[j];exact q) (by rw[(hB _).1,hA]) hI ⟨[],rfl,rfl,rfl,rfl⟩ (λb hb=>by rw[(hB _).2]at hb;cases hb);rw[hd];exact hk v hv h _ _ _ _ _ _ _ _ q1 q2 q3
def IV (P:Program) (Am:List γ->QZ) (lt:γ->γ->Bool) (g:FuncId) (cap:Array Value):Prop:=(∀(args:Array Value) (w:World),(callFunc g args).run P w= .ok (.enter g args) w)/\∀(l:List γ) (i j:Int) (x y:γ),gi l i=some x->gi l j=some y->∀w,(Am l).I w->(∀b∈(Am l).B,b<w.heap.size)->Calls P g (#[.int .i64 i,.int .i64 j]++cap) w λe w'=>e= .returned (.bool (lt x y))/\GL w w' (Am l).B/\(Am l).I w'
def MH (P:Program) (Am:List γ->QZ) (sf:FuncId) (cap:Array Value):Prop:=∀(l:List γ) (i j:Int) (x y:γ),gi l i=some x->gi l j=some y->∀w,(Am l).I w->(∀b∈(Am l).B,b<w.heap.size)->∃w',(callFunc sf (#[.int .i64 i,.int .i64 j]++cap)).run P w= .ok (.value (.tuple #[])) w'/\GL w w' (Am l).B/\(Am (si (si l i y) j x)).I w'
theorem UI {a:Act} {o:Oper} {t:Nat} {args:Array Operand} {tys:Array TypeId} {cap:Array Value} (ho:o.op= .call {callee:= .value (.tmp t),args:=args,argTypes:=tys}) (hv:a.eval (.tmp t)= .func (.func g) #[] cap):
  (execOp a.eval o).run P w=(callFunc g (args.map a.eval++cap)).run P w:=by
 simp[execOp,ho,resolve,hv,Deferred.ofValue,invoke]
theorem zF {f:Fn} {w0:Base} {a:Act} {blk:Root->Nat} (h:Db w0 FA UA N w a E blk FS US) {t:Nat} {ta cap:Array Value} (hs:E.slots t= .one (.fn f ta cap)):a.eval (.tmp t)= .func f ta cap:=by
 have:=h.slot t;rw[hs]at this;simp only[EJ,CX,CA]at this;exact this.1.1
theorem ACN {l:List γ} {x y:γ} {j:Int} {cap:Array Value} (c:IV P Am lt g cap) (hx:gi l i=some x) (hy:gi l j=some y) (d:Nat) {t:Nat} {tys:Array TypeId} (hk:Hr P N ops rest (E.put (some d) (.one (.bool (lt x y)))) Q) (hA:E.amb=Am l:=by rfl) (ho:oo.op= .call {callee:= .value (.tmp t),args:= #[o1,o2],argTypes:=tys}:=by rfl) (hs:E.slots t= .one (.fn (.func g) #[] cap):=by rfl) (h1:E.cell1 P 0 o1=some (.int .i64 i):=by rfl) (h2:E.cell1 P 0 o2=some (.int .i64 j):=by rfl) (hd:oo.dst=some d:=by rfl) (hN:Nat.blt d N=true:=by rfl) (hg:BK P ops E oo=some true:=by rfl):Hr P N ops (oo::rest) E Q:=by
 have hN':d<N:=by simpa[Bt]using hN
 intro w0 FA UA w a blk FS US hr hF hU;simp only[wpList,Cv hr hg,BR];refine .inl ?_;have h:w0.B=(Am l).B:=hr.ambB.trans (by rw[hA])
 have m:∀b∈(Am l).B,b<w.heap.size:=λb hb=>by
  rw[<-h]at hb;exact Bg (hr.ambF b hb).1 hr.size
 have hI:(Am l).I w:=by rw[<-hA];exact hr.ambI
 have f:=c.2 l i j x y hx hy w hI m;unfold Oper.wp;have e1:=Dy hr h1;have e2:=Dy hr h2;have k:(execOp a.eval oo).run P w= .ok (.enter g (#[.int .i64 i,.int .i64 j]++cap)) w:=by
  rw[UI ho (zF hr hs)];rw[c.1];simp[e1,e2]
 rw[k];simp only[Oper.upon];refine Calls.mono f ?_;rintro e w' ⟨rfl,n,hI'⟩
 obtain⟨FS',US',q1,q2,q3⟩:=Rj (A':=E.amb) (s:= .one (.bool (lt x y))) (v:= .bool (lt x y)) hr hF hU hN' (by rw[h];exact n) rfl (by
  rw[hA]
  exact hI') ⟨⟨rfl,rfl,rfl⟩,rfl⟩ (λ_ hb=>hb)
 rw[hd];exact hk _ _ _ _ _ _ _ _ q1 q2 q3
theorem ACK {l:List γ} {x y:γ} {j:Int} {cap:Array Value} (c:MH P Am sf cap) (hB:∀l l',(Am l).B=(Am l').B/\(Am l).pin=none) (hx:gi l i=some x) (hy:gi l j=some y) (d:Nat) {t:Nat} {tys:Array TypeId} (hk:Hr P N ops rest (({E with amb:=Am (si (si l i y) j x)}:St).put (some d) (.tup [])) Q) (hA:E.amb=Am l:=by rfl) (ho:oo.op= .call {callee:= .value (.tmp t),args:= #[o1,o2],argTypes:=tys}:=by rfl) (hs:E.slots t= .one (.fn (.func sf) #[] cap):=by rfl) (h1:E.cell1 P 0 o1=some (.int .i64 i):=by rfl) (h2:E.cell1 P 0 o2=some (.int .i64 j):=by rfl) (hd:oo.dst=some d:=by rfl) (hN:Nat.blt d N=true:=by rfl) (hg:BK P ops E oo=some true:=by rfl):Hr P N ops (oo::rest) E Q:=by
 have hN':d<N:=by simpa[Bt]using hN
 intro w0 FA UA w a blk FS US hr hF hU;simp only[wpList,Cv hr hg,BR];refine .inl ?_;have f:w0.B=(Am l).B:=hr.ambB.trans (by rw[hA])
 have h:∀b∈(Am l).B,b<w.heap.size:=λb hb=>by
  rw[<-f]at hb;exact Bg (hr.ambF b hb).1 hr.size
 have hI:(Am l).I w:=by rw[<-hA];exact hr.ambI
 obtain⟨w',e,k,hI'⟩:=c l i j x y hx hy w hI h;unfold Oper.wp;have e1:=Dy hr h1;have e2:=Dy hr h2;have g:(execOp a.eval oo).run P w= .ok (.value (.tuple #[])) w':=by
  rw[UI ho (zF hr hs)];simpa[e1,e2]using e
 rw[g];rw[Oper.upon_value];obtain⟨FS',US',q1,q2,q3⟩:=Rj (s:= .tup []) (v:= .tuple #[]) hr hF hU hN' (by rw[f];exact k) (by rw[hA];exact(hB _ _).1) hI' ⟨[],rfl,rfl,rfl,rfl⟩ (λb hb=>by rw[(hB _ []).2]at hb;cases hb);rw[hd];exact hk _ _ _ _ _ _ _ _ q1 q2 q3
def vH (l:List γ) (i j:Int):Option (γ×γ):=(gi l i).bind λx=>(gi l j).bind λy=>some (x,y)
theorem ABB {rr:β} {l:List γ} {j:Int} {k:γ×γ->Option β} {cap:Array Value} (a:IV P Am lt g cap) (h:(vH l i j).bind k=some rr) (d:Nat) {t:Nat} {tys:Array TypeId} (hk:∀v,k v=some rr->Hr P N ops rest (E.put (some d) (.one (.bool (lt v.1 v.2)))) Q) (hA:E.amb=Am l:=by rfl) (ho:oo.op= .call {callee:= .value (.tmp t),args:= #[o1,o2],argTypes:=tys}:=by rfl) (hs:E.slots t= .one (.fn (.func g) #[] cap):=by rfl) (h1:E.cell1 P 0 o1=some (.int .i64 i):=by rfl) (h2:E.cell1 P 0 o2=some (.int .i64 j):=by rfl) (hd:oo.dst=some d:=by rfl) (hN:Nat.blt d N=true:=by rfl) (hg:BK P ops E oo=some true:=by rfl):Hr P N ops (oo::rest) E Q:=by
 obtain⟨v,hv,h⟩:=Av.1 h;obtain⟨x,hx,hv⟩:=Av.1 hv;obtain⟨y,hy,hv⟩:=Av.1 hv
 injection hv with hv
 subst hv;exact ACN a hx hy d (hk _ h) hA ho hs h1 h2 hd hN hg
def nX (l:List γ) (i j:Int):Option (List γ):=(gi l i).bind λx=>(gi l j).bind λy=>some (si (si l i y) j x)
theorem ABz {rr:β} {l:List γ} {j:Int} {k:List γ->Option β} {cap:Array Value} (a:MH P Am sf cap) (hB:∀l l',(Am l).B=(Am l').B/\(Am l).pin=none) (h:((nX l i j).bind k)=some rr) (d:Nat) {t:Nat} {tys:Array TypeId} (hk:∀l',k l'=some rr->Hr P N ops rest (({E with amb:=Am l'}:St).put (some d) (.tup [])) Q) (hA:E.amb=Am l:=by rfl) (ho:oo.op= .call {callee:= .value (.tmp t),args:= #[o1,o2],argTypes:=tys}:=by rfl) (hs:E.slots t= .one (.fn (.func sf) #[] cap):=by rfl) (h1:E.cell1 P 0 o1=some (.int .i64 i):=by rfl) (h2:E.cell1 P 0 o2=some (.int .i64 j):=by rfl) (hd:oo.dst=some d:=by rfl) (hN:Nat.blt d N=true:=by rfl) (hg:BK P ops E oo=some true:=by rfl):Hr P N ops (oo::rest) E Q:=by
 obtain⟨l',hl',h⟩:=Av.1 h;obtain⟨x,hx,hl'⟩:=Av.1 hl';obtain⟨y,hy,hl'⟩:=Av.1 hl'
 injection hl' with hl'
 subst hl';exact ACK a hB hx hy d (hk _ h) hA ho hs h1 h2 hd hN hg
def ADe (ls:List (Nat×SV)) (bs:List (Root×List TV)) (A:QZ):St:={ACo ls bs with amb:=A}
def TV.flat:TV->Bool
 | .int .. | .bool _| .str _| .fn .. =>true
 |_=>false
def pY:AV->Bool
 | .sv (.one t)=>t.flat
 | .sv (.agg cs)=>cs.all TV.flat
 |_=>false
theorem kV {t:TV} (h:CA w t v F U) (ht:t.flat=true):F=[]/\U=[]:=by
 cases t<;>first|(cases ht;done)|(simp only[CA]at h;exact h.2)
theorem LC:∀{ts:List TV} {vs:List Value} {F U:List Nat},B8 w ts vs F U->ts.all TV.flat=true->F=[]/\U=[]
 |[],vs,F,U,h,_=>by simp only[B8]at h;exact h.2
 |t::ts,vs,F,U,h,ht=>by
  simp only[Fc,An]at ht;simp only[B8]at h;obtain⟨v,a,F1,F2,U1,U2,rfl,rfl,rfl,h1,h2⟩:=h;obtain⟨rfl,rfl⟩:=kV h1 ht.1;obtain⟨rfl,rfl⟩:=LC h2 ht.2;exact⟨rfl,rfl⟩
theorem ZM:∀{l:List AV},l.all pY=true->∀(w:World) (vs:List Value) (F U:List Nat),La w l vs F U->F=[]/\U=[]
 |[],_,w,vs,F,U,h=>h.2
 |s::l,hl,w,vs,F,U,h=>by
  simp only[Fc,An]at hl;obtain⟨v,a,F1,F2,U1,U2,rfl,rfl,rfl,h1,h2⟩:=h;obtain⟨rfl,rfl⟩:=ZM hl.2 w a F2 U2 h2;have:F1=[]/\U1=[]:=by
   match s,hl.1,h1 with
   | .sv (.one t),ht,h1=>exact kV h1.1 ht
   | .sv (.agg cs),ht,h1=>obtain⟨_,_,h1⟩:=h1;exact LC h1 ht
  obtain⟨rfl,rfl⟩:=this;exact⟨rfl,rfl⟩
def TV.val:TV->Value
 | .int k n=> .int k n
 | .bool b=> .bool b
 | .str s=> .string s
 | .fn f ta c=> .func f ta c
 |_=> .bool false
theorem AAH {t:TV} (h:CA w t v F U) (ht:t.flat=true):v=t.val:=by
 cases t<;>first|(cases ht;done)|(simp only[CA]at h;exact h.1)
theorem UK:∀{ts:List TV} {vs:List Value} {F U:List Nat},B8 w ts vs F U->ts.all TV.flat=true->vs=ts.map TV.val
 |[],vs,F,U,h,_=>by simp only[B8]at h;exact h.1
 |t::ts,vs,F,U,h,ht=>by
  simp only[Fc,An]at ht;simp only[B8]at h;obtain⟨v,a,F1,F2,U1,U2,rfl,_,_,h1,h2⟩:=h;rw[AAH h1 ht.1,UK h2 ht.2];rfl
theorem AAt {t:TV} (ht:t.flat=true):CA w t t.val [] []:=by
 cases t<;>first|(cases ht;done)|(simp[CA,TV.val])
theorem Uc:∀{ts:List TV},ts.all TV.flat=true->B8 w ts (ts.map TV.val) [] []
 |[],_=>by simp[B8]
 |t::ts,ht=>by
  simp only[Fc,An]at ht;simp only[B8,BE];exact⟨_,_,[],[],[],[],rfl,rfl,rfl,AAt ht.1,Uc ht.2⟩
theorem X4 {t:TV}:t.val.oneCell'=true:=by cases t<;>rfl
theorem JP (e:TypeId) (fz:Nat×Nat) (g:Nat):∀(vs:List Value) (o:Nat) (a:Array Value) (w:World),w.heap[g]?=some (.cells a e fz)->o+vs.length<=a.size->(w.setCells g o vs).heap[g]?=some (.cells (setRow a.toList o vs).toArray e fz)
 |[],o,a,w,h,_=>by
  simp only[World.setCells];rw[h];congr 2;apply SU;simp[setRow]
 |v::vs,o,a,w,h,hl=>by
  simp only[Ay]at hl;simp only[World.setCells];have h1:(w.setCell ⟨g,o,none⟩ v).heap[g]?=some (.cells (a.setIfInBounds o v) e fz):=by
   simp only[World.setCell,Array.getElem?_modify,BR,h,B9];rfl
  rw[JP e fz g vs (o+1) (a.setIfInBounds o v) _ h1 (by simp;omega)];congr 2;apply SU;simp only[Array.toList_setIfInBounds];apply CO;intro k;have l1:(a.toList.take o).length=o:=by simp;omega
  have l2:((a.toList.set o v).take (o+1)).length=o+1:=by simp;omega
  simp only[setRow,Au]
  rcases Oa k o with hk|hk|hk
  ·rw[AR (by omega),AR (by omega),Cd,Cd,Ax (by omega),Ax hk,List.getElem?_set_ne (by omega)]
  ·subst hk;rw[AR (by omega),AY (by omega),Cd,Ax (by omega),List.getElem?_set_self (by simp;omega),l1];simp
  have eL:(List.take (o+1) (a.toList.set o v)++(vs++List.drop (o+1+vs.length) (a.toList.set o v)))[k]?=(vs++List.drop (o+1+vs.length) (a.toList.set o v))[k-(o+1)]? :=by
   rw[AY (by omega),l2]
  have eR:(List.take o a.toList++(v::vs++List.drop (o+(v::vs).length) a.toList))[k]?=(vs++List.drop (o+(v::vs).length) a.toList)[k-(o+1)]? :=by
   rw[AY (by omega),l1,show k-o=(k-(o+1))+1 by omega,BF,List.getElem?_cons_succ]
  rw[eL,eR];by_cases hv:k-(o+1)<vs.length
  ·rw[AR hv,AR hv]
  rw[AY (by omega),AY (by omega),BS,BS,List.getElem?_set_ne (by omega),Ay];congr 1;omega
structure e7 (n b g cap:Nat) (e T:TypeId) (sz:Nat) (enc:γ->List TV) (w:World) (l:List γ):Prop where
 ne:b≠g
 len:l.length=n
 box:w.heap[b]?=some (.cells #[.slice (some ⟨g,0,none⟩) l.length cap] T (0,0))
 row:∃cur,w.heap[g]?=some (.cells cur e (0,0))/\cur.size=cap*sz/\cur.toList.take (l.length*sz)=(AU enc l).map TV.val
 le:l.length<=cap/\cap<=maxLen
def LB (n b g cap:Nat) (e T:TypeId) (sz:Nat) (enc:γ->List TV) (l:List γ):QZ where
 B:=[b,g]
 I:=λw=>e7 n b g cap e T sz enc w l
 st:=λw w' h hk=>⟨h.ne,h.len,by rw[hk b (by simp)];exact h.box,by rw[hk g (by simp)];exact h.row,h.le⟩
 rd:=λad=>if ad.spot.isSome=true then none else if ad.block=b then(if ad.off=0 then some (.slice (some ⟨g,0,none⟩) n cap)else none)else if ad.block=g then(if ad.off<l.length*sz then((AU enc l).map TV.val)[ad.off]? else none)else none
 rdI:=λw ad v h hr=>by
  obtain⟨bl,off,spot⟩:=ad
  cases spot with
  |some s=>simp at hr
  |none=>
   simp only[EH,BB,EM]at hr;split at hr
   ·rename_i hb;subst hb;split at hr
    ·rename_i ho;subst ho
     injection hr with hr
     subst hr;simp[World.cell?,h.box,h.len]
    cases hr
   split at hr
   ·rename_i hg;subst hg;split at hr
    ·rename_i ho;obtain⟨a,h1,h2,h3⟩:=h.row;rw[<-h3,Cd,Ax ho]at hr;simpa[World.cell?,h1]using hr
    cases hr
   cases hr
theorem Q8 (f:γ->List TV) (x:γ) (l:List γ):AU f (x::l)=f x++AU f l:=by simp[AU]
theorem G9 (g:Nat):∀(vs:List Value) (o:Nat) (w:World),(w.setCells g o vs).heap.size=w.heap.size
 |[],_,_=>rfl
 |v::vs,o,w=>by
  simp only[World.setCells];rw[G9 g vs,World.size_setCell]
theorem JB (g:Nat):∀(vs:List Value) (o:Nat) (w:World),(w.setCells g o vs).tape=w.tape
 |[],_,_=>rfl
 |v::vs,o,w=>by
  simp only[World.setCells];rw[JB g vs,World.tape_setCell]
theorem Qb (f:α->β) (A B:List α) (j:Nat):(setRow A j B).map f=setRow (A.map f) j (B.map f):=by
 simp[setRow,List.map_take,List.map_drop]
theorem fO {enc:γ->List TV} (a:∀x,(enc x).length=sz) (x z:γ):setRow (enc x) 0 (enc z)=enc z:=by
 simp only[setRow,J4,AA,Io];rw[De (by rw[a,a];exact A3 _),A0]
theorem Si {l:List γ} {x z:γ} {enc:γ->List TV} (a:∀x,(enc x).length=sz) (h:gi l i=some x):setRow (AU enc l) (i.toNat*sz) (enc z)=AU enc (si l i z):=
 VH a h (k:=0) (by rw[a];simp) (fO a x z)
theorem IR (h:gi l i=some x):0<=i/\l[i.toNat]?=some x:=by
 unfold gi at h;split at h
 ·exact⟨by assumption,h⟩
 cases h
theorem Yk {ie:TypeInfo} {b g cap:Nat} {e T:TypeId} {enc:γ->List TV} (f:∀x,(enc x).length=sz) (n:Nat) (gS:Bool) (hx:∀args W,(callFunc sf args).run P W=((Extern.ReflectliteSwapper.swap gS args).run P W).andThen λv w'=> .ok (.value v) w') (h8:P.info? e=some ie) (h:ie.size=sz) (s:∀w,(isAgg e).run P w= .ok true w):
  MH P (LB n b g cap e T sz enc) sf #[.slice (some ⟨g,0,none⟩) n cap,typeHandle P e]:=by
 intro l i j x y hi hj w hI hB;obtain⟨u,hn,h0,⟨d,hg,h3,h4⟩,h5⟩:=hI;obtain⟨i0,i1⟩:=IR hi;obtain⟨j0,j1⟩:=IR hj;obtain⟨a,rfl⟩:=C9 i0;obtain⟨c,rfl⟩:=C9 j0;simp only[Bh]at i1 j1;have la:=(Ah.1 i1).1;have lc:=(Ah.1 j1).1;have hX:((enc x).map TV.val).length=sz:=by rw[AZ];exact f x
 have hY:((enc y).map TV.val).length=sz:=by rw[AZ];exact f y
 have a6:(AU enc l).length=l.length*sz:=Fq f l;have p:l.length*sz<=d.size:=by rw[h3];exact BH _ h5.1
 have h9:(a+1)*sz<=l.length*sz:=BH _ la;have a0:(c+1)*sz<=l.length*sz:=BH _ lc;rw[DJ]at h9 a0;have cell:∀(m:Nat) (z:γ),l[m]?=some z->∀k v,((enc z).map TV.val)[k]?=some v->w.cell? ⟨g,0+m*ie.size+k,none⟩=some v:=by
  intro m z hm k v hk;have h6:=(Ah.1 hk).1;rw[AZ,f]at h6;have lm:=(Ah.1 hm).1;have a1:(m+1)*sz<=l.length*sz:=BH _ lm;rw[DJ]at a1;rw[h,Io];have e1:(AU enc l)[m*sz+k]?=(enc z)[k]? :=by
   have:=K2 f l m;have h2:(AU enc l)[m*sz+k]?=((AU enc l).drop (m*sz))[k]? :=by rw[BS]
   rw[h2,this,Bf lm];have e3:AU enc (l[m]::l.drop (m+1))=enc l[m]++AU enc (l.drop (m+1)):=Q8 _ _ _;have e4:l[m]=z:=by rw[Ab lm]at hm;injection hm
   rw[e3,e4,AR (by rw[f];exact h6)]
  have e2:d.toList[m*sz+k]?=some v:=by
   have:(d.toList.take (l.length*sz))[m*sz+k]?=d.toList[m*sz+k]? :=by rw[Cd,Ax (by omega)]
   rw[<-this,h4,AT,e1,<-AT,hk]
  simp only[World.cell?,hg,Aa];simpa using e2
 have frz:∀(m k:Nat),w.frozen? ⟨g,0+m*ie.size+k,none⟩=false:=by
  intro m k;simp[World.frozen?,hg]
 have q:=Go.Lib.run_swap_cells (P:=P) gS e ie h8 s g 0 n cap a c (by omega) (by omega) ((enc x).map TV.val) ((enc y).map TV.val) (by rw[hX,h]) (by rw[hY,h]) (λv hv=>by obtain⟨t,_,rfl⟩:=AL.1 hv;exact X4) (λv hv=>by obtain⟨t,_,rfl⟩:=AL.1 hv;exact X4) w (cell a x i1) (cell c y j1) (λk _=>frz a k) (λk _=>frz c k);simp only[Io,h]at q;have h1:=JP e (0,0) g ((enc y).map TV.val) (a*sz) d w hg (by rw[hY];omega);have a2:(setRow d.toList (a*sz) ((enc y).map TV.val)).toArray.size=d.size:=by
  rw[Oc,Ek (by rw[hY];simp;omega)];simp
 have h2:=JP e (0,0) g ((enc x).map TV.val) (c*sz) _ _ h1 (by rw[a2,hX];omega);have kB:∀k,k<w.heap.size->k≠g->((w.setCells g (a*sz) ((enc y).map TV.val)).setCells g (c*sz) ((enc x).map TV.val)).heap[k]?=w.heap[k]? :=by
  intro k hk h7;have s1:(w.setCells g (a*sz) ((enc y).map TV.val)).heap.size=w.heap.size:=G9 g _ _ _;rw[World.heap_setCells_other _ g _ _ (by rw[s1];exact hk) h7,World.heap_setCells_other _ g _ _ hk h7]
 refine⟨(w.setCells g (a*sz) ((enc y).map TV.val)).setCells g (c*sz) ((enc x).map TV.val),?_,⟨?_,?_,?_,?_,?_⟩,?_⟩
 ·rw[hx];have ea:(#[Value.int .i64 (a:Int),Value.int .i64 (c:Int)]++ #[Value.slice (some ⟨g,0,none⟩) n cap,typeHandle P e])= #[.int .i64 (a:Int),.int .i64 (c:Int),.slice (some ⟨g,0,none⟩) n cap,typeHandle P e]:=rfl;rw[ea,q];rfl
 ·rw[World.os_setCells,World.os_setCells]
 ·rw[JB,JB]
 ·rw[World.output_setCells,World.output_setCells]
 ·rw[G9,G9];exact A3 _
 ·intro k hk a3;exact kB k hk (λe=>a3 (by rw[e];simp[LB]))
 have o:(si (si l (a:Int) y) (c:Int) x).length=l.length:=by simp[si]
 have lcur:d.toList.length=d.size:=by simp
 have r:(setRow d.toList (a*sz) ((enc y).map TV.val)).length=d.size:=by rw[Ek (by rw[hY,lcur];omega),lcur]
 have a4:(setRow (setRow d.toList (a*sz) ((enc y).map TV.val)) (c*sz) ((enc x).map TV.val)).length=d.size:=by rw[Ek (by rw[hX,r];omega),r]
 show e7 n b g cap e T sz enc _ (si (si l (a:Int) y) (c:Int) x);refine⟨u,o.trans hn,?_,⟨_,h2,?_,?_⟩,by rw[o];exact h5⟩
 ·rw[kB b (hB b (by simp[LB])) u,o];exact h0
 ·rw[Oc];exact a4.trans h3
 rw[o];show(setRow (setRow d.toList (a*sz) ((enc y).map TV.val)) (c*sz) ((enc x).map TV.val)).take (l.length*sz)=_;rw[Mf (by rw[hX];omega) (by rw[r];exact p),Mf (by rw[hY];omega) (by rw[lcur];exact p),h4,<-Qb,<-Qb];have e1:setRow (AU enc l) (a*sz) (enc y)=AU enc (si l (a:Int) y):=by
  have:=Si f (z:=y) hi
  rwa [Bh]at this
 obtain⟨z0,a5⟩:∃z0,gi (si l (a:Int) y) (c:Int)=some z0:=by
  have lc2:c<(si l (a:Int) y).length:=by simp only[si,Fl];exact lc
  refine⟨(si l (a:Int) y)[c],?_⟩;unfold gi;rw[Ax (by omega),Bh];exact Ab lc2
 have e2:=Si f (z:=x) a5;rw[Bh]at e2;rw[e1,e2]
theorem jB {w0:Base} {a:Act} {blk:Root->Nat} (h:Db w0 FA UA N w a E blk FS US) {t:Nat} {ad:Addr} (hs:E.slots t= .one (.adr ad)):a.eval (.tmp t)= .pointer (some ad):=by
 have:=h.slot t;rw[hs]at this;simp only[EJ,CX,CA]at this;exact this.1.1
theorem ABe {w0:Base} {a:Act} {blk:Root->Nat} (h:Db w0 FA UA N w a E blk FS US) {t:Nat} {ad:Addr} {n c:Nat} (hs:E.slots t= .one (.hdr ad n c)):a.eval (.tmp t)= .slice (some ad) n c:=by
 have:=h.slot t;rw[hs]at this;simp only[EJ,CX,CA]at this;exact this.1.1
theorem FW.any {o:Oper} (d:Nat) (t:TV) (hk:FW P N ops rest (E.put (some d) (.one t)) K) (b:∀(w0:Base) (FA UA:List Nat) (w:World) (a:Act) (blk:Root->Nat) (FS US:Root->List Nat),Db w0 FA UA N w a E blk FS US->∃v,(execOp a.eval o).run P w= .ok (.value v) w/\CA w t v [] []/\v.cells= #[v]) (hd:o.dst=some d:=by rfl) (hN:Nat.blt d N=true:=by rfl) (hg:BK P ops E o=some true:=by rfl):FW P N ops (o::rest) E K:=by
 have hN':d<N:=by simpa[Bt]using hN
 intro w0 FA UA w a blk FS US k1 k2 k3;obtain⟨v,h1,h2,h3⟩:=b w0 FA UA w a blk FS US k1;simp only[wpStill,Cv k1 hg,BR,Oper.still,h1,Oper.stillUpon_value];rw[hd];refine hk _ _ _ _ _ _ _ _ (k1.put (F:=[]) (U:=[]) hN' (by simp only[EJ];exact⟨G7 h2,λ_=>h3⟩) ZZ.none) ?_ ?_
 ·rw[B3 (by simp),k2]
 rw[B3 (by simp),k3]
theorem Lc {o:Oper} {ty:TypeId} {x:Nat} (d:Nat) (t:TV) (v:Value) {ad:Addr} (hk:FW P N ops rest (E.put (some d) (.one t)) K) (hs:E.slots x= .one (.adr ad)) (b:E.amb.rd ad=some v) (hv:∀w,CA w t v [] []) (hc:v.cells= #[v]) (ha:bT P ty=false) (hu:(P.underlying ty).isSome=true) (ho:o.op= .load ty (.tmp x):=by rfl) (hd:o.dst=some d:=by rfl) (hN:Nat.blt d N=true:=by rfl) (hg:BK P ops E o=some true:=by rfl):FW P N ops (o::rest) E K:=
 FW.any d t hk (λw0 FA UA w a blk FS US h=>by
  have h1:=jB h hs;have h2:=E.amb.rdI w ad v h.ambI b;have c:P.underlying ty≠none:=by intro e;rw[e]at hu;cases hu
  refine⟨v,?_,hv w,hc⟩
  simp[execOp,ho,h1,Instr.loadAt,Instr.sureAddr,loadVar,VL c,ha,h2]) hd hN hg
theorem OR {o:Oper} {x f:Nat} (d:Nat) {ad:Addr} (hk:FW P N ops rest (E.put (some d) (.one (.adr (ad.add fd.offset)))) K) (hs:E.slots x= .one (.adr ad)) (c:P.underlying st=some (.struct fs)) (hf:fs[f]?=some fd) (b:P.cellsOf fd.type≠0) (ho:o.op= .fieldAddr st (.tmp x) f:=by rfl) (hd:o.dst=some d:=by rfl) (hN:Nat.blt d N=true:=by rfl) (hg:BK P ops E o=some true:=by rfl):FW P N ops (o::rest) E K:=
 FW.any d (.adr (ad.add fd.offset)) hk (λw0 FA UA w a blk FS US h=>by
  have h1:=jB h hs;obtain⟨i,hi,_⟩:=GC b;refine⟨.pointer (some (ad.add fd.offset)),?_,by simp[CA],rfl⟩
  simp[execOp,ho,h1,Instr.fieldAt,run_underlying c,hf,Instr.sureAddr,fieldPlace,run_sizeOf w hi,b]) hd hN hg
theorem Ww {o:Oper} {x:Nat} {i:Operand} {k:IntKind} (d:Nat) {ad:Addr} {n c:Nat} {t e:TypeId} {m:Int} (hk:FW P N ops rest (E.put (some d) (.one (.adr (ad.add (m.toNat*P.cellsOf e))))) K) (hs:E.slots x= .one (.hdr ad n c)) (ht:P.underlying t=some (.slice e)) (hi:E.cell1 P 0 i=some (.int k m)) (h0:0<=m) (hm:m<n) (f:P.cellsOf e≠0) (ho:o.op= .indexAddr t (.tmp x) i:=by rfl) (hd:o.dst=some d:=by rfl) (hN:Nat.blt d N=true:=by rfl) (hg:BK P ops E o=some true:=by rfl):FW P N ops (o::rest) E K:=
 FW.any d (.adr (ad.add (m.toNat*P.cellsOf e))) hk (λw0 FA UA w a blk FS US h=>by
  have h1:=ABe h hs;have h2:=Dy h hi;obtain⟨inf,b,_⟩:=GC f;refine⟨.pointer (some (ad.add (m.toNat*P.cellsOf e))),?_,by simp[CA],rfl⟩
  simp[execOp,ho,h1,h2,Instr.indexAt,run_underlying ht,asIntOf,h0,hm,run_sizeOf w b]) hd hN hg
def Vy (P:Program) (f:FuncId) (A:QZ) (as:List AV) (t:TV):Prop:=∀(w:World) (vs:List Value),La w as vs [] []->(∀b∈A.B,b<w.heap.size)->A.I w->Calls P f vs.toArray w λe w'=>e= .returned (Vy.val t)/\GL w w' A.B/\A.I w'
where
 val:TV->Value
 | .int k n=> .int k n
 | .bool b=> .bool b
 | .str s=> .string s
 | .fn f ta c=> .func f ta c
 |_=> .bool false
theorem wQ {t:TV} (h:CA w t v F U) (ht:t.flat=true):v=Vy.val t:=by
 cases t<;>first|(cases ht;done)|(simp only[CA]at h;exact h.1)
theorem Zt {f:FuncId} {c:Code} {t:TV} (hf:P.funcs[f]?=some fn) (hb:fn.body=some c) (ht:t.flat=true) (h:Wp P fn.ntmps c (DL as A) λe E=>(e= .normal\/e= .ret)/\E.amb=A/\∃E',Ef P E fn.results.toList=some ([.one t],E')) (hp:A.pin=none:=by rfl):Vy P f A as t:=by
 intro w vs ha hB hA;obtain⟨blk,FS,US,g,hF,hU⟩:=Sa (N:=fn.ntmps) ha CE (by simp) (by simp) (A:=A) hA (λb hb=>⟨hB b hb,by simp,by simp⟩) (hpin:=λb h=>by rw[hp]at h;cases h);refine calls_of_wp hf hb (wp_mono (h _ _ _ _ _ _ _ _ g hF hU) ?_);rintro e a w' ⟨E,blk',FS',US',⟨he,i,E',h1⟩,h2,h3,h4⟩;obtain⟨us,FS2,US2,F,U,k1,k2,k3,k4,k5⟩:=Mu h2 h1;have k6:=R5 k2;have hv:=wQ k6.1 ht;have hI:A.I w':=by rw[<-i];exact h2.ambI
 have d:a.defers=[]/\∃v,(results fn a.tmps).run P w'= .ok v w'/\Ending.returned v= .returned (Vy.val t)/\GL w w' A.B/\A.I w':=
  ⟨h2.nodef,_,Oy k1,by rw[hv],⟨h2.os,h2.tape,h2.output,h2.size,λb h5 h6=>h2.keep b h5 (by simp) h6⟩,hI⟩
 rcases he with rfl|rfl
 ·exact d
 exact d
theorem VY {ad : Addr} (hf : P.funcs[g]? = some fn) (hn : (fn.name == "runtime.NumGoroutine") = false) (hb : fn.body.isNone = false) (h : ∀ (l : List γ) (i j : Int) (x y : γ), gi l i = some x → gi l j = some y → (∃ w, (Am l).I w) → Vy P g (Am l) [.sv (.one (.int .i64 i)), .sv (.one (.int .i64 j)), .sv (.one (.adr ad))] (.bool (lt x y))) : IV P Am lt g #[.pointer (some ad)] := by
 refine⟨λargs w=>?_,λl i j x y hx hy w hI hB=>?_⟩
 ·have a:fn.body≠none:=by intro e;simp[e]at hb
  have b : fn.name ≠ "runtime.NumGoroutine" := by intro e; rw[e] at hn; simp at hn
  simp[callFunc,hf,b,a]
 exact h l i j x y hx hy ⟨w,hI⟩ w [.int .i64 i,.int .i64 j,.pointer (some ad)]
  ⟨_,_,[],[],[],[],rfl,rfl,rfl,⟨by simp[CA],rfl⟩,⟨_,_,[],[],[],[],rfl,rfl,rfl,⟨by simp[CA],rfl⟩,⟨_,_,[],[],[],[],rfl,rfl,rfl,⟨by simp[CA],rfl⟩,⟨rfl,rfl,rfl⟩⟩⟩⟩ hB hI
def SJ (P:Program) (f:FuncId) (t e sz:Nat) (enc:γ->List TV) (g:FuncId) (l l':List γ):Prop:=∀(w:World) (b:Nat) (v:Value) (T:TypeId),w.heap[b]?=some (.cells #[v] T (0,0))->w.ownsRow 0 e sz v l.length ((AU enc l).map TV.val)->b∉Cc v->
  Calls P f #[.iface t v,.func (.func g) #[] #[.pointer (some ⟨b,0,none⟩)]] w λr w'=>r= .returned (.tuple #[])/\GL w w' (b::Cc v)/\w'.heap[b]?=some (.cells #[v] T (0,0))/\w'.ownsRow 0 e sz v l'.length ((AU enc l').map TV.val)
section
variable {w0:Base} {a:Act}
theorem Db.turn (h:Db w0 FA UA N w a E blk FS US) (hF:FS .hand=[]) (hU:US .hand=[]) {r:Root} (hm:r.mem=true) {cells cells':List TV} (hc:E.boxes r=some cells) (l:cells'.length=cells.length) (hb:GL w w' (FS r)) (g:∃c T F,w'.heap[blk r]?=some (.cells c T (0,0))/\B8 w' cells' c.toList F (US r)/\FS r=blk r::F):
  ∃FS' US',Db w0 FA UA N w' a ((E.setRoot r cells').bump r) blk FS' US'/\FS' .hand=[]/\US' .hand=[]:=by
 have i:r≠ .hand:=by rintro rfl;cases hm
 have f:∀j,((E.setRoot r cells').bump r).place r [] j=cells'[j]? :=by
  intro j
  cases r with
  |slot n=>cases hm
  |hand=>cases hm
  |box n=>simp[St.place,St.bump,St.setRoot,St.root,Cr,Ca]
  |ext n=>simp[St.place,St.bump,St.setRoot,St.root,Cr,Ca]
 have d:∀j,E.place r [] j=cells[j]? :=by
  intro j
  cases r with
  |slot n=>cases hm
  |hand=>cases hm
  |box n=>simp[St.place,St.root,hc,Ca]
  |ext n=>simp[St.place,St.root,hc,Ca]
 let E1:St:=(E.setRoot r cells').bump r
 have ev:∀s,s≠r->E1.ver s=E.ver s:=by
  intro s hs;cases r<;>simp[E1,St.bump,St.setRoot,Cr,hs]
 have evr:E1.ver r=E.ver r+1:=by cases r<;>simp[E1,St.bump,St.setRoot,Cr]
 have eg:∀s,E1.gen s=E.gen s:=by intro s;cases r<;>rfl
 have er:∀s,s≠r->E1.root s=E.root s:=by
  intro s hs
  cases r with
  |slot n=>cases hm
  |hand=>cases hm
  |box n=>cases s<;>simp[E1,St.bump,St.setRoot,St.root,Cr,hs]
  |ext n=>cases s<;>simp[E1,St.bump,St.setRoot,St.root,Cr,hs]
 have es:∀n,E1.slots n=E.slots n:=by
  intro n
  cases r with
  |slot n=>cases hm
  |hand=>cases hm
  |box n=>rfl
  |ext n=>rfl
 have eb:∀s,E1.boxes s=if s=r then some cells' else E.boxes s:=by
  intro s
  cases r with
  |slot n=>cases hm
  |hand=>cases hm
  |box n=>rfl
  |ext n=>rfl
 have k:∀s,C3 w w' a a E E1 blk blk s:=by
  intro s;by_cases hs:s=r
  ·subst hs;refine⟨.inl (by rw[evr];omega),.inr ⟨eg s,λj ad hv hp=>?_⟩⟩;refine⟨(by cases s<;>first|exact hv|(cases hm)),?_⟩;rw[d]at hp;rw[show E1.place s [] j=cells'[j]? from f j];have hj:j<cells.length:=by
    rcases CJ j cells.length with q|q
    ·exact q
    rw[DF q]at hp;cases hp
   rw[Ab (by omega)];rfl
  by_cases hh:s= .hand
  ·subst hh;exact Gu (ev _ hs) (eg _) (by simp[St.root,h.nohand])
  exact En h (ev s hs) (eg s) (er s hs) (λ_ _=>rfl) (λ_=>rfl)
   (λb hx=>hb.keep b (h.inF s b hx).2 (h.dis s r hs b hx)) (λb hx=>hb.keep b (h.inU s b hx).2 (λe=>h.disU r s b e hx))
 have k7:=h.two (w':=w') (a':=a) (E':=E1) (blk':=blk) (r1:=r) (r2:= .hand) (L1:=FS r) (L2:=[]) (V1:=US r) (V2:=[]) i
  (by simpa using h.nodup r)
  (λb hx=>⟨.inl (by simpa using hx),Bg (h.inF r b (by simpa using hx)).2 hb.size⟩)
  (λb hx=> .inl ⟨r,by simpa using hx⟩)
  hb.size hb.os hb.tape hb.output (λb hx q _=>hb.keep b hx q) k (λn _ _=>⟨es n,rfl⟩) (λs _ hs _=>⟨by rw[eb,Az hs],rfl⟩)
  (by
   obtain⟨c,T,F,g1,g2,g3⟩:=g;have:Hg w' a E1 blk r (FS r) (US r):=by
    have e1:=eb r;rw[Ax rfl]at e1
    cases r with
    |slot n=>cases hm
    |hand=>cases hm
    |box n=>exact .inr ⟨cells',c,T,F,e1,g1,g2,g3⟩
    |ext n=>exact .inr ⟨cells',c,T,F,e1,g1,g2,g3⟩
   exact this)
  trivial (by rw[eb,Az (Ft i)];exact h.nohand) h.len h.nodef (hfz:=by
   intro n hn;have e:((E.setRoot r cells').bump r).fz=E.fz:=by rw[QF,I4]
   exact h.frz n (e▸hn)) (hamb:=by show((E.setRoot r cells').bump r).amb=E.amb;rw[KY,E9])
 exact⟨_,_,k7,BY _ _ _,BY _ _ _⟩
end
theorem Vc {w0:Base} {a:Act} (h:Db w0 FA UA N w a E blk FS US) (hF:FS .hand=[]) (hU:US .hand=[]) (hd:d<N) (v:Value):∃FS' US',Db w0 FA UA N w (a.put (some d) v) (E.put (some d) (.one .junk)) blk FS' US'/\FS' .hand=[]/\US' .hand=[]:=
 h.land (w':=w) (F:=[]) (U:=[]) hd (by simp[EJ,CX,TV.isJunk]) CE (by simp) (by simp) (A3 _) rfl rfl rfl (λ_ _ _=>rfl)
theorem Gs {enc:γ->List TV} (a:∀x,(enc x).all TV.flat=true):∀l:List γ,(AU enc l).all TV.flat=true
 |[]=>rfl
 |x::l=>by
  have:AU enc (x::l)=enc x++AU enc l:=by simp[AU]
  rw[this,List.all_append,a,Gs a l];rfl
theorem JZ {o:Oper} (h:o.guard=none):BK P ops E o=some true:=by unfold BK;rw[h]
theorem Hr.srt {l l':List γ} {o1 o2 o3:Oper} {d1 d2 d3 x p ver:Nat} {enc:γ->List TV} {sz e t:Nat} {f b:FuncId} {r:Root} {tys:Array TypeId} (hs:SJ P f t e sz enc b l l') (hk:Hr P N ops rest (((((E.put (some d1) (.one .junk)).put (some d2) (.one .junk)).setRoot r [.sl true e sz (AU enc l')]).bump r).put (some d3) (.tup [])) Q) (i:∀x,(enc x).length=sz) (c:∀x,(enc x).all TV.flat=true) (hx:E.slots x= .one (.view r ver [] 0):=by rfl) (j:E.ver r=ver:=by rfl) (hp:E.ptr? (.tmp p)=some (r,[],0):=by rfl) (hc:E.boxes r=some [.sl true e sz (AU enc l)]:=by rfl) (hm:r.mem=true:=by rfl) (h1:o1.op= .makeInterface t (.tmp x):=by rfl) (h2:o2.op= .makeFunc (.func b) #[] #[.tmp p]:=by rfl) (h3:o3.op= .call {callee:= .value (.func f),args:= #[.tmp d1,.tmp d2],argTypes:=tys}:=by rfl) (k1:o1.dst=some d1:=by rfl) (k2:o2.dst=some d2:=by rfl) (k3:o3.dst=some d3:=by rfl) (g1:o1.guard=none:=by rfl) (g2:o2.guard=none:=by rfl) (g3:o3.guard=none:=by rfl) (u:Nat.blt d1 N=true:=by rfl) (y:Nat.blt d2 N=true:=by rfl) (z:Nat.blt d3 N=true:=by rfl) (h0:Nat.beq d1 d2=false:=by rfl) (k:Nat.beq p d1=false:=by rfl) (h4:Nat.blt 0 sz=true:=by rfl) (ht:P.underlying t=some (.slice e):=by rfl) (hf:bQ P f):Hr P N ops (o1::o2::o3::rest) E Q:=by
 have hN1':d1<N:=by simpa[Bt]using u
 have hN2':d2<N:=by simpa[Bt]using y
 have hN3':d3<N:=by simpa[Bt]using z
 have hne':d1≠d2:=by intro e;subst e;simp at h0
 have hne2':p≠d1:=by intro e;subst e;simp at k
 have hsz':0<sz:=by simpa[Bt]using h4
 intro w0 FA UA w a blk FS US hr hF hU;have m:∃v T F,w.heap[blk r]?=some (.cells #[v] T (0,0))/\CA w (.sl true e sz (AU enc l)) v F (US r)/\FS r=blk r::F:=by
  rcases hr.box r hm with⟨q1,_⟩|⟨cs,o,T,F,q1,q2,q3,q4⟩
  ·rw[hc]at q1;cases q1
  rw[hc]at q1
  injection q1 with q1
  subst q1;simp only[B8]at q3;obtain⟨v,h5,F1,F2,U1,U2,e1,rfl,e3,q5,rfl,rfl,rfl⟩:=q3;have:o= #[v]:=by apply SU;simpa using e1
  subst this;rw[A0]at q4;rw[e3,A0];exact⟨v,T,F1,q2,q5,q4⟩
 obtain⟨v,T,F,b1,b2,b3⟩:=m;simp only[CA]at b2;obtain⟨n,vs,F',b4,b5,rfl⟩:=b2;have h6:=UK b5 (Gs c l);obtain⟨rfl,a4⟩:=LC b5 (Gs c l);subst h6;have h7:n=l.length:=by
  have q:=b4.1;rw[AZ,Fq i l]at q;exact(Nat.eq_of_mul_eq_mul_right hsz' q).symm
 subst h7;rw[A0]at b3;have h8:blk r∉Cc v:=by
  have:=hr.nodup r;rw[b3]at this;exact(Dd.1 this).1
 have evx:a.eval (.tmp x)=v:=by
  have q:=hr.slot x;rw[hx]at q;simp only[EJ,CX]at q;obtain⟨⟨_,_,_,q4⟩,_⟩:=q;obtain⟨q5,_⟩:=q4 j
  cases r with
  |slot n=>cases hm
  |hand=>cases hm
  |box n=>simpa[pv,BZ,Addr.add,World.cell?,b1]using q5.symm
  |ext n=>simpa[pv,BZ,Addr.add,World.cell?,b1]using q5.symm
 have evp:a.eval (.tmp p)= .pointer (some ⟨blk r,0,none⟩):=by
  obtain⟨_,ad,q1,q2⟩:=KK hr hp;rw[q2]
  cases r with
  |slot n=>cases hm
  |hand=>cases hm
  |box n=>simp[pa,Addr.add]at q1;rw[<-q1]
  |ext n=>simp[pa,Addr.add]at q1;rw[<-q1]
 obtain⟨FS1,US1,r1,r2,r3⟩:=Vc hr hF hU hN1' (.iface t v);have e1:(execOp a.eval o1).run P w= .ok (.value (.iface t v)) w:=by
  simp[execOp,h1,Instr.makeInterface,run_underlying ht,evx]
 simp only[wpList,Cv hr (JZ (P:=P) (ops:=ops) g1),BR];refine .inl ?_
 try unfold Oper.wp
 rw[e1,Oper.upon_value,k1];have evp1:(a.put (some d1) (.iface t v)).eval (.tmp p)= .pointer (some ⟨blk r,0,none⟩):=by rw[D3 hne2',evp]
 obtain⟨FS2,US2,s1,s2,s3⟩:=Vc r1 r2 r3 hN2' (.func (.func b) #[] #[.pointer (some ⟨blk r,0,none⟩)]);have e2:(execOp (a.put (some d1) (.iface t v)).eval o2).run P w= .ok (.value (.func (.func b) #[] #[.pointer (some ⟨blk r,0,none⟩)])) w:=by
  simp[execOp,h2,Instr.makeFunc,evp1]
 simp only[wpList,Cv r1 (JZ (P:=P) (ops:=ops) g2),BR];refine .inl ?_
 try unfold Oper.wp
 rw[e2,Oper.upon_value,k2];simp only[wpList,Cv s1 (JZ (P:=P) (ops:=ops) g3),BR];refine .inl ?_;have h9:d1<a.tmps.size:=Bg hN1' hr.len;have a0:d2<(a.put (some d1) (.iface t v)).tmps.size:=Bg hN2' r1.len
 try unfold Oper.wp
 rw[IE h3 hf];have ea: #[Operand.tmp d1,.tmp d2].map ((a.put (some d1) (.iface t v)).put (some d2) (.func (.func b) #[] #[.pointer (some ⟨blk r,0,none⟩)])).eval= #[.iface t v,.func (.func b) #[] #[.pointer (some ⟨blk r,0,none⟩)]]:=by
  simp[G6 a0,D3 hne',G6 h9]
 rw[ea];simp only[Oper.upon];refine Calls.mono (hs w (blk r) v T b1 b4 h8) ?_;rintro ee w' ⟨rfl,a1,a2,a3⟩;have g:((E.put (some d1) (.one .junk)).put (some d2) (.one .junk)).boxes r=some [.sl true e sz (AU enc l)]:=hc;have h:∃F2,FS2 r=blk r::F2/\F2=Cc v/\US2 r=[]:=by
  rcases s1.box r hm with⟨q1,_⟩|⟨cs,o,T2,F2,q1,q2,q3,q4⟩
  ·rw[g]at q1;cases q1
  rw[g]at q1
  injection q1 with q1
  subst q1;rw[b1]at q2
  injection q2 with q2
  injection q2 with q2
  subst q2;simp only[B8]at q3;obtain⟨v2,h5,F3,F4,U1,U2,e1,rfl,e3,q5,rfl,rfl,rfl⟩:=q3;simp at e1;subst e1;simp only[CA]at q5;obtain⟨n,vs,F',c4,c5,rfl⟩:=q5;obtain⟨rfl,rfl⟩:=LC c5 (Gs c l);rw[A0]at e3;exact⟨_,q4,by simp,e3⟩
 obtain⟨F2,f1,rfl,f3⟩:=h;obtain⟨FS3,US3,t1,t2,t3⟩:=s1.turn s2 s3 hm g (cells':=[.sl true e sz (AU enc l')]) rfl (w':=w') (by rw[f1];exact a1)
  ⟨#[v],T,Cc v,a2,by
   rw[f3];simp only[B8];refine⟨v,[],Cc v,[],[],[],rfl,by simp,rfl,?_,rfl,rfl,rfl⟩;simp only[CA]
   exact⟨l'.length,_,[],a3,Uc (Gs c l'),by simp⟩,f1⟩
 obtain⟨FS4,US4,u1,u2,u3⟩:=t1.land (w':=w') (d:=d3) (s:= .tup []) (v:= .tuple #[]) (F:=[]) (U:=[]) hN3' (by simp[EJ,OH]) CE (by simp) (by simp) (A3 _) rfl rfl rfl (λ_ _ _=>rfl);rw[k3];exact hk _ _ _ _ _ _ _ _ u1 u2 u3
def sF (b:Nat) (v:Value) (T:TypeId) (e sz n:Nat) (xs:List Value):QZ where
 B:=b::Cc v
 I:=λw=>w.heap[b]?=some (.cells #[v] T (0,0))/\w.ownsRow 0 e sz v n xs
 st:=λw w' h hk=>⟨by rw[hk b (by simp)];exact h.1,h.2.1,by
  rcases h.2.2 with q|⟨g,cap,a,rfl,q1,q2,q3⟩
  ·exact .inl q
  exact .inr ⟨g,cap,a,rfl,q1,by rw[hk g (by simp[Cc,Value.ownBlock])];exact q2,q3⟩⟩
theorem gJ {l:List γ} {x:γ} {n b g cap:Nat} {e T:TypeId} {enc:γ->List TV} (a:∀x,(enc x).length=sz) {t:TV} {ad:Addr} (hi:gi l i=some x) (hk:(enc x)[k]?=some t) (hb:b≠g) (d:ad=⟨g,i.toNat*sz+k,none⟩):(LB n b g cap e T sz enc l).rd ad=some t.val:=by
 subst d;obtain⟨i0,i1⟩:=IR hi;have lm:=(Ah.1 i1).1;have c:=(Ah.1 hk).1;rw[a]at c;have f:(i.toNat+1)*sz<=l.length*sz:=BH _ lm;rw[DJ]at f;have e1:(AU enc l)[i.toNat*sz+k]?=(enc x)[k]? :=by
  have h2:(AU enc l)[i.toNat*sz+k]?=((AU enc l).drop (i.toNat*sz))[k]? :=by rw[BS]
  rw[h2,K2 a l i.toNat,Bf lm,Q8];have e4:l[i.toNat]=x:=by rw[Ab lm]at i1;injection i1
  rw[e4,AR (by rw[a];exact c)]
 simp only[LB,EH,BB,EM];rw[Az (λe=>hb e.symm),BR,Ax (by omega),AT,e1,hk];rfl
theorem gK {l:List γ} {n b g cap:Nat} {e T:TypeId} {enc:γ->List TV}:(LB n b g cap e T sz enc l).rd ⟨b,0,none⟩=some (.slice (some ⟨g,0,none⟩) n cap):=by
 simp[LB]
theorem Xb {g m:Nat}:((⟨g,0,none⟩:Addr).add m)=⟨g,m,none⟩:=by
 unfold Addr.add;split
 ·rename_i h;subst h;rfl
 simp
theorem eE (h:gi l i=some x):0<=i/\i<l.length:=by
 obtain⟨i0,i1⟩:=IR h;have lm:=(Ah.1 i1).1;exact⟨i0,by omega⟩
def vG (t t':TV):Prop:=t=t'\/∃e sz a cells',t= .sl true e sz a/\BQ a=cells'/\t'= .sl false e sz cells'
def les:List TV->List TV->Prop
 |[],ts'=>ts'=[]
 |t::ts,ts'=>∃x xs,ts'=x::xs/\vG t x/\les ts xs
mutual
def ZQ:SV->SV->Prop
 | .one t,s'=>∃t',s'= .one t'/\vG t t'
 | .agg cs,s'=>∃cs',s'= .agg cs'/\les cs cs'
 | .tup ss,s'=>∃ss',s'= .tup ss'/\Tk ss ss'
def Tk:List SV->List SV->Prop
 |[],ss'=>ss'=[]
 |s::ss,ss'=>∃x xs,ss'=x::xs/\ZQ s x/\Tk ss xs
end
theorem ABP {t:TV}:vG t t:= .inl rfl
theorem ABO:∀{ts:List TV},les ts ts
 |[]=>rfl
 |t::ts=>⟨t,ts,rfl,ABP,ABO⟩
theorem les.c {t x:TV} {ts xs:List TV} (h:vG t x) (k:les ts xs):les (t::ts) (x::xs):=⟨x,xs,rfl,h,k⟩
theorem vG.s {e sz:Nat} {a cells':List TV} (h:BQ a=cells'):vG (.sl true e sz a) (.sl false e sz cells'):= .inr ⟨e,sz,a,cells',rfl,h,rfl⟩
mutual
theorem ACE:∀{s:SV},ZQ s s
 | .one t=>⟨t,rfl,ABP⟩
 | .agg cs=>⟨cs,rfl,ABO⟩
 | .tup ss=>⟨ss,rfl,sZ⟩
theorem sZ:∀{ss:List SV},Tk ss ss
 |[]=>rfl
 |s::ss=>⟨s,ss,rfl,ACE,sZ⟩
end
theorem ZQ.a {cs cs':List TV} (h:les cs cs'):ZQ (.agg cs) (.agg cs'):=⟨cs',rfl,h⟩
theorem ZQ.o {t t':TV} (h:vG t t'):ZQ (.one t) (.one t'):=⟨t',rfl,h⟩
theorem AEf {ss':List SV} (h:Tk ss ss'):ZQ (.tup ss) (.tup ss'):=⟨ss',rfl,h⟩
theorem Tk.c {xs:List SV} {s x:SV} (h:ZQ s x) (k:Tk ss xs):Tk (s::ss) (x::xs):=⟨x,xs,rfl,h,k⟩
def J7 (F U F' U':List Nat):Prop:=F'.Sublist F/\∀b∈U',b∈U\/(b∈F/\b∉F')
theorem Sx {F1 F2 U1 U2 F1' F2' U1' U2':List Nat} (hd:(F1++F2).Nodup) (h:J7 F1 U1 F1' U1') (k:J7 F2 U2 F2' U2'):J7 (F1++F2) (U1++U2) (F1'++F2') (U1'++U2'):=by
 obtain⟨_,_,hd⟩:=Bu.1 hd;refine⟨h.1.append k.1,λb hb=>?_⟩
 rcases Ai.1 hb with hb|hb
 ·rcases h.2 b hb with q|⟨q1,q2⟩
  ·exact .inl (by simp[q])
  refine .inr ⟨by simp[q1],λhc=>?_⟩
  rcases Ai.1 hc with hc|hc
  ·exact q2 hc
  exact hd b q1 b (k.1.subset hc) rfl
 rcases k.2 b hb with q|⟨q1,q2⟩
 ·exact .inl (by simp[q])
 refine .inr ⟨by simp[q1],λhc=>?_⟩
 rcases Ai.1 hc with hc|hc
 ·exact hd b (h.1.subset hc) b q1 rfl
 exact q2 hc
theorem J7.refl:J7 F U F U:=⟨List.Sublist.refl _,λb hb=> .inl hb⟩
theorem ACd {t t':TV} (h:CA w t v F U) (k:vG t t'):∃F' U',CA w t' v F' U'/\J7 F U F' U':=by
 rcases k with rfl|⟨e,sz,a,cells',rfl,rfl,rfl⟩
 ·exact⟨F,U,h,J7.refl⟩
 obtain⟨U',h1,h2⟩:=So h;exact⟨[],U',h1,List.nil_sublist _,λb hb=>(h2 b hb).elim (λq=> .inr ⟨q,by simp⟩) .inl⟩
end Go.TI
