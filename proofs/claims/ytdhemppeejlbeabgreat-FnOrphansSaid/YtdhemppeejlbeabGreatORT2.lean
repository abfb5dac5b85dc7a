/- What walks of Go code need. No condition. -/
import Derived.Test.YtdhemppeejlbeabGreatORT1
import Derived.Orders
import Derived.Still
import Derived.StillTail
import Derived.OrdersHeld
import Derived.Deep.Slices
import Derived.ChangeOld
import Derived.DataReads
import Derived.Lib.ReflectliteSwap
import Derived.Deep.Upon
set_option linter.unusedVariables false
namespace Go.TI
open Go Go.RowKit
section
variable (P:Program)
def DO (E:St):List ResultVar->Option (List SV×St)
 |[]=>some ([],E)
 | .tmp t::rs=>match E.val P 0 (.tmp t)with
  |some s=>match Lx E s with
   |some (xs,E1)=>match DO E1 rs with
    |some (ss,E2)=>some (s.withCells xs::ss,E2)
    |none=>none
   |none=>none
  |none=>none
 | .cell t ty :: rs => match Bh P E { dst := none, op := .load ty (.tmp t), type := ty, pos := "", after := #[], guard := none } with
  |some s=>match Lx E s with
   |some (xs,E1)=>match DO E1 rs with
    |some (ss,E2)=>some (s.withCells xs::ss,E2)
    |none=>none
   |none=>none
  |none=>none
end
def Ev:List SV->SV
 |[s]=>s
 |ss=> .tup ss
section
variable {a:Act}
def Nv (P:Program) (tmps:Array Value):ResultVar->Sem Value
 | .tmp t=>pure (tmps.getD t undef)
 | .cell a t=>do loadVar t (<-asAddr (tmps.getD a undef))
end
variable {E E':St} {P:Program} {N sz fuel d k j by_:Nat} {α γ β S:Type} {ops:Array Oper} {Q:Exit->St->Prop} {w w':World} {rest:List Oper} {i n:Int} {K:St->Prop} {FA UA q F U:List Nat} {FS US:Root->List Nat} {listed:Array Bool} {blk:Root->Nat} {v:Value} {oo:Oper} {fn:Func} {as:List AV} {g sf:FuncId} {md:Region.Mode} {o1 o2:Operand} {ss:List SV} {y:Code} {lo:Option Operand} {A' A:P2} {vs:List Value} {st:TypeId} {fs:Array Field} {fd:Field} {zs cs':List TV} {T:Nat->Bool} {k2 k1:IntKind} {f:α->List TV} {l:List α} {x:α} {z:α} {Am:List γ->P2} {tx:Option β} {ty:Option β} {lt:γ->γ->Bool}
theorem WG (fn:Func) (tmps:Array Value):results fn tmps=(do
  let vs<-fn.results.mapM (Nv P tmps)
  pure (if h:vs.size=1 then vs[0]else .tuple vs)):=by
 unfold results;congr 1
section
variable {w0:Base} {a:Act}
theorem Li:∀{rs:List ResultVar} {ss:List SV} {E E':St} {FS US:Root->List Nat},CM w0 FA UA N w a E blk FS US->DO P E rs=some (ss,E')->
  ∃vs FS' US' F U,(rs.mapM (Nv P a.tmps)).run P w= .ok vs w/\Oi w ss vs F U/\CM w0 FA UA N w a E' blk FS' US'/\FS' .hand=FS .hand++F/\US' .hand=US .hand++U
 |[],ss,E,E',FS,US,h,ht=>by
  simp only [DO,Aj,Bk]at ht;obtain⟨rfl,rfl⟩:=ht;exact⟨[],FS,US,[],[],by simp,by simp [Oi],h,by simp,by simp⟩
 | .tmp t::rs,ss,E,E',FS,US,h,ht=>by
  simp only [DO]at ht;split at ht
  ·rename_i s hs;split at ht
   ·rename_i xs E1 hx;split at ht
    ·rename_i ss' E2 d;simp only [Aj,Bk]at ht;obtain⟨rfl,rfl⟩:=ht;obtain⟨U,h1,h2⟩:=LF h hs;obtain⟨FS1,US1,F1,U1,h3,h4,h5,h6,_,_⟩:=Kh h h1 h2 hx;obtain⟨vs,FS2,US2,F2,U2,k1,k2,k3,k4,k5⟩:=Li h4 d;obtain⟨hp,hl⟩:=RG hx;refine⟨a.eval (.tmp t)::vs,FS2,US2,F1++F2,U1++U2,?_,?_,k3,by rw [k4,h5,Ao],by rw [k5,h6,Ao]⟩
     ·rw [List.mapM_cons];simp [Nv,k1,Act.eval]
     simp only [Oi];exact⟨_,vs,F1,F2,U1,U2,rfl,rfl,rfl,LG h1 hp hl h3,k2⟩
    cases ht
   cases ht
  cases ht
 | .cell t ty::rs,ss,E,E',FS,US,h,ht=>by
  simp only [DO]at ht;split at ht
  ·rename_i s hs;split at ht
   ·rename_i xs E1 hx;split at ht
    ·rename_i ss' E2 d;simp only [Aj,Bk]at ht;obtain⟨rfl,rfl⟩:=ht;obtain⟨v,U,h0,h1,h2⟩:=RT h hs;obtain⟨FS1,US1,F1,U1,h3,h4,h5,h6,_,_⟩:=Kh h h1 h2 hx;obtain⟨vs,FS2,US2,F2,U2,k1,k2,k3,k4,k5⟩:=Li h4 d;obtain⟨hp,hl⟩:=RG hx;have b:=h0 w (λr _=>⟨λ_ _=>rfl,λ_ _=>rfl⟩);have e:(Nv P a.tmps (.cell t ty)).run P w= .ok v w:=by
      have c:∃r q j,E.ptr? (.tmp t)=some (r,q,j):=by
       simp only [Bh]at hs;split at hs
       ·rename_i r q j c;exact⟨r,q,j,c⟩
       cases hs
      obtain⟨r,q,j,c⟩:=c;obtain⟨_,ad,_,f⟩:=JP h c;simp only [execOp,Instr.loadAt,f,Instr.sureAddr]at b;simp only [Act.eval]at f;simp only [Nv,f,asAddr];simp only [Sem.run_bind,Sem.run_pure,Result.andThen_ok]at b⊢
      cases hl:(loadVar ty ad).run P w with
      |ok u w2=>
       rw [hl]at b;simp only [Result.andThen_ok,Result.ok.injEq,Next.value.injEq]at b;obtain⟨rfl,rfl⟩:=b;rfl
      |halt x w2=>
       rw [hl]at b;simp at b
     refine⟨v::vs,FS2,US2,F1++F2,U1++U2,?_,?_,k3,by rw [k4,h5,Ao],by rw [k5,h6,Ao]⟩
     ·rw [List.mapM_cons];simp [e,k1]
     simp only [Oi];exact⟨_,vs,F1,F2,U1,U2,rfl,rfl,rfl,LG h1 hp hl h3,k2⟩
    cases ht
   cases ht
  cases ht
end
section
variable {a:Act}
theorem MZ (h:(fn.results.toList.mapM (Nv P a.tmps)).run P w= .ok vs w):(results fn a.tmps).run P w= .ok (if h:vs.length=1 then vs[0]else .tuple vs.toArray) w:=by
 rw [WG (P:=P)];have:fn.results.mapM (Nv P a.tmps)=List.toArray<$>fn.results.toList.mapM (Nv P a.tmps):=by
  rw [<-List.mapM_toArray]
 rw [this];simp [h]
end
theorem Qc (h:Oi w ss vs F U):Vk w (Ev ss) (if h:vs.length=1 then vs[0]else .tuple vs.toArray) F U:=by
 unfold Ev;split
 ·rename_i s;simp only [Oi]at h;obtain⟨v,a,F1,F2,U1,U2,rfl,rfl,rfl,h1,rfl,rfl,rfl⟩:=h;simpa using h1
 rename_i b;have hl:vs.length=ss.length:=by
  have:∀{ss:List SV} {vs:List Value} {F U:List Nat},Oi w ss vs F U->vs.length=ss.length:=by
   intro ss
   induction ss with
   |nil=>intro vs F U h;simp only [Oi]at h;simp [h.1]
   |cons s ss ih=>
    intro vs F U h;simp only [Oi]at h;obtain⟨v,a,F1,F2,U1,U2,rfl,rfl,rfl,h1,h2⟩:=h;simp [ih h2]
  exact this h
 have:¬vs.length=1:=by
  intro h1;rw [h1]at hl
  match ss,hl with
  |[s],_=>exact b s rfl
 rw [dif_neg this];simp only [Vk];exact⟨vs,rfl,h⟩
theorem sD {f:FuncId} {c:Code} {res:SV} (hf:P.funcs[f]?=some fn) (hb:fn.body=some c) (h:Wp P fn.ntmps c (DA as) λe E=>(e= .normal\/e= .ret)/\∃ss E',DO P E fn.results.toList=some (ss,E')/\Ev ss=res):
  AM P f as res (List.replicate as.length .gone):=by
 intro w vs FA UA ha j i k;obtain⟨blk,FS,US,hr,hF,hU⟩:=Q5 (N:=fn.ntmps) ha j i k (A:=P2.none) trivial (λb hb=>by cases hb);refine calls_of_wp hf hb (wp_mono (h _ _ _ _ _ _ _ _ hr hF hU) ?_);rintro e a w' ⟨E,blk',FS',US',⟨he,ss,E',h1,rfl⟩,h2,h3,h4⟩;obtain⟨us,FS2,US2,F,U,k1,k2,k3,k4,k5⟩:=Li h2 h1;rw [h3,A5]at k4;rw [h4,A5]at k5;have g:∀(n:Nat) (vs:List Value),vs.length=n->JX w' (List.replicate n .gone) vs [] []:=by
  intro n
  induction n with
  |zero=>intro vs hv;simp at hv;subst hv;exact⟨rfl,rfl,rfl⟩
  |succ n ih=>
   intro vs hv
   cases vs with
   |nil=>simp at hv
   |cons v vs=>exact⟨v,vs,[],[],[],[],rfl,rfl,rfl,⟨rfl,rfl⟩,ih vs (by simpa using hv)⟩
 have l:vs.length=as.length:=by
  obtain⟨_,_,_,_,h5,_⟩:=Rm ha;exact h5
 have d:a.defers=[]/\∃v,(results fn a.tmps).run P w'= .ok v w'/\∃v' F U G V,Ending.returned v= .returned v'/\tQ w w' FA UA (Ev ss) (List.replicate as.length .gone) vs v' F U G V:=by
  refine⟨h2.nodef,_,MZ k1,_,F,U,[],[],rfl,?_⟩
  exact{
   res:=Qc k2
   fin:=g _ _ l
   nodup:=by simpa [<-k4]using k3.nodup .hand
   dis:=by
    intro b hb hb';simp only [A0]at hb hb';rw [<-k4]at hb;rw [<-k5]at hb';exact k3.disU .hand .hand b hb hb'
   inF:=by
    intro b hb;simp only [A0]at hb;rw [<-k4]at hb;exact k3.inF .hand b hb
   inU:=by
    intro b hb;simp only [A0]at hb;rw [<-k5]at hb;exact k3.inU .hand b hb
   os:=k3.os
   tape:=k3.tape
   output:=k3.output
   size:=k3.size
   keep:=λb hb hF=>k3.keep b hb hF (λe=>by cases e)}
 rcases he with rfl|rfl
 ·exact d
 exact d
theorem AAg {l:List Oper} {ops:Array Oper} (t:Nat) {b:Bool} (_:E.cell1 P 0 (.tmp t)=some (.bool b)) (ht:b=true->GX P N ops l E Q) (hf:b=false->GX P N ops l E Q):GX P N ops l E Q:=by
 cases b
 ·exact hf rfl
 exact ht rfl
def yZ (ls:List (Nat×SV)) (bs:List (Root×List TV)):St where
 slots:=λn=>(ls.lookup n).getD (.one .junk)
 boxes:=λr=>bs.lookup r
 ver:=λ_=>0
 gen:=λ_=>0
def mI (ls:List Nat) (bs:List Root):Root->Bool
 | .slot n=>ls.contains n
 |r=>bs.contains r
def SZ (E:St) (ls:List Nat) (bs:List Root):TV->TV
 | .view r v q j=>if E.ver r=v/\mI ls bs r=true then .view r 0 q j else .junk
 | .ptr r v q j=>if E.stamp r q=v/\mI ls bs r=true then .ptr r 0 q j else .junk
 |t=>t
def z7 (E:St) (ls:List Nat) (bs:List Root):SV->SV
 | .one t=> .one (SZ E ls bs t)
 | .agg cs=> .agg (cs.map (SZ E ls bs))
 | .tup _=> .one .junk
def L4 (E:St) (ls:List Nat) (bs:List Root):St:={yZ (ls.map λn=>(n,z7 E ls bs (E.slots n))) (bs.map λr=>(r,(E.boxes r).getD []))with amb:=E.amb,fz:=E.fz}
theorem Te {f:Nat->SV}:∀{ls:List Nat} {n:Nat},((ls.map λn=>(n,f n)).lookup n)=if ls.contains n=true then some (f n)else none
 |[],n=>rfl
 |m::ls,n=>by
  simp only [B8,List.lookup_cons,List.contains_cons];by_cases h:n=m
  ·subst h;simp
  have:(n==m)=false:=by simpa using h
  rw [this,Te];simp
theorem Hc {f:Root->List TV}:∀{bs:List Root} {r:Root},((bs.map λr=>(r,f r)).lookup r)=if bs.contains r=true then some (f r)else none
 |[],r=>rfl
 |s::bs,r=>by
  simp only [B8,List.lookup_cons,List.contains_cons];by_cases h:r=s
  ·subst h;simp
  have:(r==s)=false:=by simpa using h
  rw [this,Hc];simp
theorem rJ {ls:List Nat} {bs:List Root} {o:Bool} {e sz:Nat} {a:List TV}:SZ E ls bs (.sl o e sz a)= .sl o e sz a:=rfl
theorem sQ {ls:List Nat} {bs:List Root} {cs a:List TV} {c:Nat} (h:BZ cs (c::q)=some a):BZ (cs.map (SZ E ls bs)) (c::q)=some a:=by
 simp only [BZ,AN]at h⊢;split at h
 ·rename_i o e sz b hc;simp only [hc,B5,rJ];exact h
 cases h
theorem nX {ls:List Nat} {bs:List Root} {r:Root} (hk:mI ls bs r=true) (hb:∀r∈bs,r.mem=true/\(E.boxes r).isSome=true) (c:E.boxes .hand=none):
  (∀n,r≠ .slot n)->(L4 E ls bs).root r=E.root r:=by
 intro hn;have a:∀r,bs.contains r=true->(bs.map λr=>(r,(E.boxes r).getD [])).lookup r=E.boxes r:=by
  intro r hr;rw [Hc,Au hr];obtain⟨cs,b⟩:=Ff.1 (hb r (by simpa using hr)).2;rw [b];rfl
 cases r with
 |slot n=>exact absurd rfl (hn n)
 |box n=>exact a _ hk
 |ext n=>exact a _ hk
 |hand=>exact a _ hk
theorem Zb {n:Nat} {ls:List Nat} {bs:List Root}:(L4 E ls bs).slots n=if ls.contains n=true then z7 E ls bs (E.slots n)else .one .junk:=by
 simp only [L4,yZ];rw [Te];split<;>rfl
theorem WO {ls:List Nat} {bs:List Root} {r:Root} (hk:mI ls bs r=true) (hb:∀r∈bs,r.mem=true/\(E.boxes r).isSome=true) (d:E.boxes .hand=none) (hq:q=[]->r.mem=true\/Kg (E.place r q j)=true) (hs:(E.place r q j).isSome=true):(L4 E ls bs).place r q j=E.place r q j:=by
 by_cases b:∃n,r= .slot n
 ·obtain⟨n,rfl⟩:=b;have hk':ls.contains n=true:=hk;simp only [St.place,St.root,Aa]at hs hq⊢;rw [Zb,Au hk'];have a:(z7 E ls bs (E.slots n)).cells=(E.slots n).cells.map (SZ E ls bs)\/(E.slots n).cells=[]:=by
   cases E.slots n with
   |one t=>exact .inl rfl
   |agg cs=>exact .inl rfl
   |tup ss=>exact .inr rfl
  rcases a with hc|hc
  ·rw [hc]
   cases q with
   |nil=>
    rcases hq rfl with h1|h1
    ·cases h1
    simp only [BZ,Aa]at h1⊢;rw [AN]
    cases hx:(E.slots n).cells[j]? with
    |none=>rw [hx]at h1;cases h1
    |some t=>
     rw [hx]at h1;cases t<;>first|rfl|cases h1
   |cons c q=>
    cases hx:BZ (E.slots n).cells (c::q)with
    |none=>rw [hx]at hs;cases hs
    |some row=>rw [sQ hx]
  rw [hc]at hs;exfalso
  cases q with
  |nil=>simp [BZ]at hs
  |cons c q=>simp [BZ]at hs
 simp only [St.place,nX hk hb d (λn e=>b ⟨n,e⟩)]
theorem Xx {a:Act} {ls:List Nat} {bs:List Root} (hb:∀r∈bs,r.mem=true/\(E.boxes r).isSome=true) (d:E.boxes .hand=none) {t:TV} (h:CS w a E blk t v F U):CS w a (L4 E ls bs) blk (SZ E ls bs t) v F U:=by
 cases t with
 |view r ver q j=>
  obtain⟨rfl,rfl,_,hc⟩:=h;simp only [SZ];split
  ·rename_i c;obtain⟨h1,h2⟩:=hc c.1;refine⟨rfl,rfl,Mf _,λ_=>⟨h1,?_⟩⟩;rw [WO c.2 hb d (λ_=> .inr h2) (by cases hx:E.place r q j with|none=>rw [hx]at h2;cases h2|some _=>rfl)];exact h2
  exact⟨rfl,rfl⟩
 |ptr r ver q j=>
  obtain⟨rfl,rfl,_,hc⟩:=h;simp only [SZ];split
  ·rename_i c;obtain⟨h1,ad,h2,h3⟩:=hc c.1;refine⟨rfl,rfl,Mf _,λ_=>⟨?_,ad,h2,h3⟩⟩;rw [WO c.2 hb d (λhq=> .inl (by subst hq;cases r<;>first|rfl|(simp [pa]at h2;done))) h1];exact h1
  exact⟨rfl,rfl⟩
 |junk=>exact h
 |int k n=>exact h
 |bool b=>exact h
 |str s=>exact h
 |fn _ _ _=>exact h
 |adr _=>exact h
 |hdr _ _ _=>exact h
 |sl o e sz cells=>exact h
theorem Vb {a:Act} {ls:List Nat} {bs:List Root} (hb:∀r∈bs,r.mem=true/\(E.boxes r).isSome=true) (b:E.boxes .hand=none):∀{ts:List TV} {vs:List Value} {F U:List Nat},CT w a E blk ts vs F U->CT w a (L4 E ls bs) blk (ts.map (SZ E ls bs)) vs F U
 |[],_,_,_,h=>h
 |t::ts,vs,F,U,h=>by
  obtain⟨v,c,F1,F2,U1,U2,h1,h2,h3,h4,h5⟩:=h;exact⟨v,c,F1,F2,U1,U2,h1,h2,h3,Xx hb b h4,Vb hb b h5⟩
theorem CM.norm {w0:Base} {a:Act} (h:CM w0 FA UA N w a E blk FS US) (ls:List Nat) (bs:List Root) (hb:∀r∈bs,r.mem=true/\(E.boxes r).isSome=true):
  ∃FS' US',CM w0 FA UA N w a (L4 E ls bs) blk FS' US'/\FS' .hand=[]/\US' .hand=[]:=by
 have e:=h.nohand
 let st:Root->Bool:=λr=>match r with
  | .slot n=>ls.contains n&&(match E.slots n with| .tup _=>false|_=>true)
  | .hand=>false
  |r=>bs.contains r
 let FS':Root->List Nat:=λr=>if st r=true then FS r else []
 let US':Root->List Nat:=λr=>if st r=true then US r else []
 have hF:∀r b,b∈FS' r->b∈FS r:=by intro r b hx;simp only [FS']at hx;split at hx;exact hx;cases hx
 have hU:∀r b,b∈US' r->b∈US r:=by intro r b hx;simp only [US']at hx;split at hx;exact hx;cases hx
 refine⟨FS',US',?_,by simp [FS',st],by simp [US',st]⟩;constructor
 ·intro n;rw [Zb];have hs:=h.slot n
  cases hc:ls.contains n with
  |false=>
   have:st (.slot n)=false:=by show(ls.contains n&&_)=false;rw [hc];rfl
   simp [Ep,CS,TV.isJunk,FS',US',this]
  |true=>
   rw [Au rfl]
   cases c:E.slots n with
   |one t=>
    have:st (.slot n)=true:=by show(ls.contains n&&_)=true;rw [hc,c];rfl
    rw [c]at hs;simp only [Ep]at hs;simp only [z7,Ep,FS',US',this,BX];refine⟨Xx hb e hs.1,λhj=>hs.2 ?_⟩;cases t<;>first|rfl|cases hj
   |agg cs=>
    have:st (.slot n)=true:=by show(ls.contains n&&_)=true;rw [hc,c];rfl
    rw [c]at hs;simp only [Ep]at hs;obtain⟨vs,h1,h2⟩:=hs;simp only [z7,Ep,FS',US',this,BX];exact⟨vs,h1,Vb hb e h2⟩
   |tup ss=>
    have:st (.slot n)=false:=by show(ls.contains n&&_)=false;rw [hc,c];rfl
    simp [z7,Ep,CS,TV.isJunk,FS',US',this]
 ·intro r hr
  cases hc:bs.contains r with
  |false=>
   have d:st r=false:=by cases r<;>first|exact hc|cases hr
   refine .inl ⟨?_,by simp [FS',d],by simp [US',d]⟩;show(bs.map λr=>(r,(E.boxes r).getD [])).lookup r=none;rw [Hc,Ax (by rw [hc];simp)]
  |true=>
   have d:st r=true:=by cases r<;>first|exact hc|cases hr
   have f:(L4 E ls bs).boxes r=E.boxes r:=by
    show(bs.map λr=>(r,(E.boxes r).getD [])).lookup r=_;rw [Hc,Au hc];obtain⟨cs,g⟩:=Ff.1 (hb r (by simpa using hc)).2;rw [g];rfl
   rw [f];simp only [FS',US',d,BX];exact h.box r hr
 ·show(bs.map λr=>(r,(E.boxes r).getD [])).lookup .hand=none;rw [Hc,Ax];intro hx;have:=(hb .hand (by simpa using hx)).1;cases this
 ·intro r;simp only [FS'];split
  ·exact h.nodup r
  exact C0
 ·exact λr s i b hx hy=>h.dis r s i b (hF r b hx) (hF s b hy)
 ·exact λr s b hx hy=>h.disU r s b (hF r b hx) (hU s b hy)
 ·exact λr b hx=>h.inF r b (hF r b hx)
 ·exact λr b hx=>h.inU r b (hU r b hx)
 ·exact h.disA
 ·exact h.os
 ·exact h.tape
 ·exact h.output
 ·exact h.size
 ·exact h.keep
 ·exact h.len
 ·exact h.nodef
 ·exact h.xblk
 ·exact h.ambB
 ·exact h.ambI
 ·exact h.frz
 ·exact h.ambF
 exact h.pin
theorem Wp.norm {c:Code} (ls:List Nat) (bs:List Root) (E':St) (hb:bs.all (λr=>r.mem&&(E.boxes r).isSome)=true) (hE:L4 E ls bs=E') (h:Wp P N c E' Q):Wp P N c E Q:=by
 intro w0 FA UA w a blk FS US hr hF hU
 obtain⟨FS',US',h1,h2,h3⟩:=hr.norm ls bs (λr hm=>by
  have:=GH.1 hb r hm
  simpa using this)
 rw [hE]at h1;exact h _ _ _ _ _ _ _ _ h1 h2 h3
def wS (P:Program) (N:Nat) (ops:Array Oper) (b:Nat) (listed:Array Bool) (E:St) (Q:Exit->St->Prop):Prop:=
 ∀(w0:Base) (FA UA:List Nat) (w:World) (a:Act) (blk:Root->Nat) (FS US:Root->List Nat),CM w0 FA UA N w a E blk FS US->FS .hand=[]->US .hand=[]->wpAny P .any ops (gI w0 FA UA N Q) b listed a w
def AOp (P:Program) (N:Nat) (ops:Array Oper) (i:Nat) (E:St) (K:St->Prop) (Q:Exit->St->Prop):Prop:=
 ∀(w0:Base) (FA UA:List Nat) (w:World) (a:Act) (blk:Root->Nat) (FS US:Root->List Nat),CM w0 FA UA N w a E blk FS US->FS .hand=[]->US .hand=[]->
  wpOp P ops (gI w0 FA UA N Q) i (λa' w'=>∃E' blk' FS' US',K E'/\CM w0 FA UA N w' a' E' blk' FS' US'/\FS' .hand=[]/\US' .hand=[]) a w
theorem AAU (hr:Region.ready .any ops listed=[]) (h:Q .normal E):wS P N ops fuel listed E Q:=
 λw0 FA UA w a blk FS US k1 k2 k3=>wpAny_done hr ⟨E,blk,FS,US,h,k1,k2,k3⟩ fuel
section
variable {i:Nat}
theorem wS.all (rs:List Nat) (hr:Region.ready .any ops listed=rs) (b:rs≠ []) (h:∀i∈rs,AOp P N ops i E (λE'=>wS P N ops fuel (listed.setIfInBounds i true) E' Q) Q):wS P N ops (fuel+1) listed E Q:=
 λw0 FA UA w a blk FS US k1 k2 k3=>wpAny_all hr b λi hi=>wpOp_mono (λa' w' ⟨E',blk',FS',US',m1,m2,m3,m4⟩=>m1 _ _ _ _ _ _ _ _ m2 m3 m4) (h i hi _ _ _ _ _ _ _ _ k1 k2 k3)
end
theorem wS.one (i:Nat) (hr:Region.ready .any ops listed=[i]) (h:AOp P N ops i E (λE'=>wS P N ops fuel (listed.setIfInBounds i true) E' Q) Q):wS P N ops (fuel+1) listed E Q:=
 wS.all [i] hr (by simp) λj hj=>by
  have:j=i:=by simpa using hj
  subst this;exact h
def GL (P:Program) (N:Nat) (ops:Array Oper) (l:List Oper) (E:St) (K:St->Prop):Prop:=
 ∀(w0:Base) (FA UA:List Nat) (w:World) (a:Act) (blk:Root->Nat) (FS US:Root->List Nat),CM w0 FA UA N w a E blk FS US->FS .hand=[]->US .hand=[]->
  wpStill P ops w (λa'=>∃E' blk' FS' US',K E'/\CM w0 FA UA N w a' E' blk' FS' US'/\FS' .hand=[]/\US' .hand=[]) l a
def IU (P:Program) (E:St) (o:Oper):Option SV:=match o.op with
 | .build t parts=>VT P E t parts.toList
 |_=>Bh P E o
theorem Wr {w0:Base} {a:Act} {o:Oper} (h:CM w0 FA UA N w a E blk FS US) {s:SV} (hs:IU P E o=some s):EP P w a E blk FS US o s:=by
 unfold IU at hs;split at hs
 ·rename_i ho;exact eT h ho hs
 exact RT h hs
theorem GL.nil (h:K E):GL P N ops [] E K:=λw0 FA UA w a blk FS US k1 k2 k3=>⟨E,blk,FS,US,h,k1,k2,k3⟩
theorem GL.op {o:Oper} (s:SV) (hg:BE P ops E o=some true) (hd:o.dst=some d) (hN:d<N) (hs:IU P E o=some s) (h:GL P N ops rest (E.put (some d) s) K):GL P N ops (o::rest) E K:=by
 intro w0 FA UA w a blk FS US k1 k2 k3;obtain⟨v,U,h1,h2,h3⟩:=Wr k1 hs;have hr:=h1 w (λr _=>⟨λ_ _=>rfl,λ_ _=>rfl⟩);simp only [wpStill,Co k1 hg,BX,Oper.still,hr,Oper.stillUpon_value];rw [hd];refine h _ _ _ _ _ _ _ _ (k1.put hN h2 (NS k1 h3 _)) ?_ ?_
 ·rw [Bu (by simp),k2]
 rw [Bu (by simp),k3]
theorem tL {o:Oper} (hd:o.dst=some d) (hN:d<N) (hg:BE P ops E o=some false) (h:GL P N ops rest (E.put (some d) (.tup [])) K):GL P N ops (o::rest) E K:=by
 intro w0 FA UA w a blk FS US hr hF hU;simp only [wpStill,Co hr hg];rw [Ax (by simp),hd];refine h _ _ _ _ _ _ _ _ (hr.put (F:=[]) (U:=[]) hN (by simp only [Ep];exact⟨[],rfl,by simp [Nr]⟩) XB.none) ?_ ?_
 ·rw [Bu (by simp),hF]
 rw [Bu (by simp),hU]
theorem AAf {l:List Oper} (t:Nat) {b:Bool} (_:E.cell1 P 0 (.tmp t)=some (.bool b)) (ht:b=true->GL P N ops l E K) (hf:b=false->GL P N ops l E K):GL P N ops l E K:=by
 cases b
 ·exact hf rfl
 exact ht rfl
theorem Sk {l:List Oper} {id:Nat} (hm:P.follows .mixedOrders=true) (hB:Region.lexB .any l.toArray=true) (h:GL P N l.toArray l E (λE'=>Q .normal E')):Wp P N (.region id l.toArray true) E Q:=by
 intro w0 FA UA w a blk FS US k1 k2 k3;obtain⟨FS',US',m1,m2,m3⟩:=k1.drop (w':={w with drawn:=w.drawn+1}) (A3 _) rfl rfl rfl (λ_ _ _=>rfl);exact wp_region_still_lit hm hB (h _ _ _ _ _ _ _ _ m1 m2 m3)
section
variable {a:Act}
theorem Og {Q1 Q2:Act->Prop} (hq:∀a,Q1 a->Q2 a):∀{l:List Oper} {a:Act},wpStill P ops w Q1 l a->wpStill P ops w Q2 l a
 |[],a,h=>hq a h
 |o::l,a,h=>by
  simp only [wpStill]at h⊢;split
  ·rename_i hw;rw [Au hw]at h;exact Oper.still_mono (λa k=>Og hq k) h
  rename_i hw;rw [Ax hw]at h;exact Og hq h
end
theorem kD {l:List Oper} {id:Nat} (n:Nat) (hm:P.follows .mixedOrders=true) (hB:Region.lexTailB .any l.toArray n=true) (h:GL P N l.toArray (l.take n) E (λE'=>GX P N l.toArray (l.drop n) E' Q)):Wp P N (.region id l.toArray true) E Q:=by
 intro w0 FA UA w a blk FS US k1 k2 k3;obtain⟨FS',US',m1,m2,m3⟩:=k1.drop (w':={w with drawn:=w.drawn+1}) (A3 _) rfl rfl rfl (λ_ _ _=>rfl);refine wp_region_still_tail n hm hB (Og ?_ (h _ _ _ _ _ _ _ _ m1 m2 m3));rintro a' ⟨E',blk',FS2,US2,h1,h2,h3,h4⟩;exact h1 _ _ _ _ _ _ _ _ h2 h3 h4
def AR (f:α->List TV) (l:List α):List TV:=(l.map f).flatten
def gi (l:List α) (i:Int):Option α:=if 0<=i then l[i.toNat]? else none
def si (l:List α) (i:Int) (x:α):List α:=l.set i.toNat x
def ln (l:List α):Int:=(l.length:Nat)
theorem EK (hf:∀x,(f x).length=sz):∀l:List α,(AR f l).length=l.length*sz
 |[]=>by simp [AR]
 |x::l=>by
  have:=EK hf l;simp only [AR,B8,Sr,Ah,Az,hf]at this⊢;rw [this,D7,Vw]
theorem GF (x:α) (l:List α):AR f (x::l)=f x++AR f l:=rfl
theorem Qy (l m:List α):AR f (l++m)=AR f l++AR f m:=by simp [AR]
theorem Rd (h:gi l i=some x):0<=i/\i.toNat<l.length/\l[i.toNat]?=some x:=by
 unfold gi at h;split at h
 ·exact⟨by assumption,(Ag.1 h).1,h⟩
 cases h
theorem J6 (hf:∀x,(f x).length=sz):∀(l:List α) (n:Nat),(AR f l).drop (n*sz)=AR f (l.drop n)
 |l,0=>by simp
 |[],n+1=>by simp [AR]
 |x::l,n+1=>by
  rw [GF,List.drop_succ_cons,<-J6 hf l n,D7,Vw,<-CB,EF (hf x)]
theorem sE (hf:∀x,(f x).length=sz) (h:gi l i=some x):((AR f l).drop (i.toNat*sz)).take sz=f x:=by
 obtain⟨_,h1,h2⟩:=Rd h;rw [J6 hf,Bj h1,GF,P4 (hf _)];rw [Ab h1]at h2
 injection h2 with h2
 rw [h2]
theorem Nj (hf:∀x,(f x).length=sz) (h:gi l i=some x) (hk:k<sz):(AR f l)[i.toNat*sz+k]?=(f x)[k]? :=by
 rw [<-sE hf h,Cb,Au hk,BO]
theorem cD (hf:∀x,(f x).length=sz) (h:gi l i=some x):(i.toNat+1)*sz<=(AR f l).length:=by
 rw [EK hf];exact BC _ (Rd h).2.1
theorem PI (hf:∀x,(f x).length=sz):∀(l:List α) (n:Nat) (y:List TV) (z:α) {k:Nat} {x:α},l[n]?=some x->k+y.length<=sz->setRow (f x) k y=f z->setRow (AR f l) (n*sz+k) y=AR f (l.set n z)
 |[],n,y,z,k,x,h,_,_=>by simp at h
 |x0::l,0,y,z,k,x,h,hk,he=>by
  simp at h;subst h;rw [CW,GF,GF,<-he];have h1:=hf x0;simp only [setRow,Nat.zero_mul,H6];rw [Fj (by omega),List.drop_append_of_le_length (by omega)];simp
 |x0::l,n+1,y,z,k,x,h,hk,he=>by
  have ih:=PI hf l n y z (by simpa using h) hk he;rw [GP,GF,GF,<-ih];have h1:=hf x0;simp only [setRow,D7];rw [show n*sz+sz+k=(f x0).length+(n*sz+k) by omega,HE,Uv,List.drop_append,AP (by omega),CR (by omega)];simp
theorem TJ {y:List TV} (hf:∀x,(f x).length=sz) (h:gi l i=some x) (hk:Nat.ble (k+y.length) sz=true) (he:setRow (f x) k y=f z):setRow (AR f l) (i.toNat*sz+k) y=AR f (si l i z):=
 PI hf l _ y z (Rd h).2.2 (by simpa [Oa]using hk) he
theorem dN {n:Nat} (hf:∀x,(f x).length=sz) (h:l[n]?=some x) {t:TV} (hk:k<sz) (he:(f x).set k t=f z):(AR f l).set (n*sz+k) t=AR f (l.set n z):=by
 have hl:(n*sz+k)<(AR f l).length:=by
  rw [EK hf];have:=(Ag.1 h).1;have:(n+1)*sz<=l.length*sz:=BC _ this;rw [D7]at this;omega
 have a:∀{c:List TV} {m:Nat},m<c.length->c.set m t=setRow c m [t]:=by
  intro c m hm;rw [List.set_eq_take_append_cons_drop,Au hm];simp [setRow]
 rw [a hl];refine PI hf l n [t] z h hk ?_;rw [<-a (by rw [hf];exact hk)];exact he
theorem mU (hf:∀x,(f x).length=sz) (h:gi l i=some x) (hk:k<sz):BZ (AR f l) ((i.toNat*sz+k)::q)=BZ (f x) (k::q):=by
 simp only [BZ,Nj hf h hk]
theorem u7 (hf:∀x,(f x).length=sz) (h:gi l i=some x) (hk:k<sz):L0 (AR f l) ((i.toNat*sz+k)::q)=L0 (f x) (k::q):=by
 simp only [L0,Nj hf h hk]
theorem uH {g:List TV->List TV} (hf:∀x,(f x).length=sz) (h:gi l i=some x) (hk:k<sz) (he:DE (f x) (k::q) g=f z):DE (AR f l) ((i.toNat*sz+k)::q) g=AR f (si l i z):=by
 rw [DE]at he⊢;rw [Nj hf h hk];split
 ·rename_i o e sz' a hc;rw [hc]at he;exact dN hf (Rd h).2.2 hk he
 rename_i hc;split at he
 ·rename_i o e sz' a b;exact absurd b (hc _ _ _ _)
 have:(AR f l).set (i.toNat*sz+k) ((f x)[k]?.getD .junk)=AR f (si l i z):=by
  refine dN hf (Rd h).2.2 hk ?_;rw [<-he];have:k<(f x).length:=by rw [hf];exact hk
  rw [Ab this];simp
 rw [<-this];have h2:=Nj hf h hk;have h3:k<(f x).length:=by rw [hf];exact hk
 rw [Ab h3]at h2⊢;exact(N4 h2).symm
abbrev I (n:Int):SV:= .one (.int .i64 n)
abbrev B (b:Bool):SV:= .one (.bool b)
abbrev Y (s:ByteArray):SV:= .one (.str s)
def O7 (body:S->Option (S⊕α)):Nat->S->Option α
 |0,_=>none
 |n+1,s=>match body s with
  |none=>none
  |some (.inl s')=>O7 body n s'
  |some (.inr a)=>some a
theorem TP {body:S->Option (S⊕α)} {a:α}:∀{n m:Nat} {s:S},O7 body n s=some a->n<=m->O7 body m s=some a
 |0,_,_,h,_=>by cases h
 |n+1,0,_,_,h=>by omega
 |n+1,m+1,s,h,hm=>by
  simp only [O7]at h⊢;split at h
  ·cases h
  ·exact TP h (by omega)
  exact h
open Classical in
noncomputable def Av (body:S->Option (S⊕α)) (s:S):Option α:=
 if h:∃a n,O7 body n s=some a then some h.choose else none
theorem Hw {body:S->Option (S⊕α)} {s:S} {a:α}:Av body s=some a↔∃n,O7 body n s=some a:=by
 unfold Av;constructor
 ·intro h;split at h
  ·rename_i he
   injection h with h
   rw [<-h];exact he.choose_spec
  cases h
 rintro⟨n,h⟩;have he:∃a n,O7 body n s=some a:=⟨a,n,h⟩;rw [dif_pos he];obtain⟨m,hm⟩:=he.choose_spec;have h1:=TP hm (Nat.le_max_left m n);have h2:=TP h (Nat.le_max_right m n);rw [h1]at h2;exact h2
theorem AA (body:S->Option (S⊕α)) (s:S):Av body s=match body s with
  |none=>none
  |some (.inl s')=>Av body s'
  |some (.inr a)=>some a:=by
 have b:∀a,Av body s=some a↔(match body s with|none=>none|some (.inl s')=>Av body s'|some (.inr a)=>some a)=some a:=by
  intro a;rw [Hw];constructor
  ·rintro⟨n,h⟩
   cases n with
   |zero=>cases h
   |succ n=>
    simp only [O7]at h;split at h
    ·cases h
    ·rename_i s' hb;exact Hw.2 ⟨n,h⟩
    rename_i a' hb;simpa only [hb]using h
  intro h;split at h
  ·cases h
  ·rename_i s' hb;obtain⟨n,hn⟩:=Hw.1 h;exact⟨n+1,by simp only [O7,hb];exact hn⟩
  rename_i a' hb;exact⟨1,by simp only [O7,hb];exact h⟩
 cases hx:Av body s with
 |some a=>exact((b a).1 hx).symm
 |none=>
  cases hy:(match body s with|none=>none|some (.inl s')=>Av body s'|some (.inr a)=>some a:Option α)with
  |none=>rfl
  |some a=>rw [(b a).2 hy]at hx;cases hx
def xJ (E:St) (l:List (Root×List TV)):St:=l.foldl (λE x=>(E.setRoot x.1 x.2).bump x.1) E
def St.rs (E:St) (t:Nat) (b:Bool):St:={E with slots:=Cn E.slots t (B b)}
theorem YM {t:Nat} {b:Bool} (h:E.slots t=B b):E.rs t b=E:=by
 have:Cn E.slots t (B b)=E.slots:=by
  funext n;simp only [Cn];split
  ·rename_i hn;rw [hn,h]
  rfl
 unfold St.rs;rw [this]
theorem GX.o (d:Nat) (s:SV) (h:GX P N ops rest (E.put (some d) s) Q) (hs:C4 P N false E oo=some (E.put (some d) s):=by rfl) (hg:BE P ops E oo=some true:=by rfl):GX P N ops (oo::rest) E Q:=GX.op false hg hs h
theorem GX.b (m:List (Root×List TV)) (d:Nat) (xs:List TV) (h:GX P N ops rest ((xJ E m).newBox d xs) Q) (hs:C4 P N false E oo=some ((xJ E m).newBox d xs):=by rfl) (hg:BE P ops E oo=some true:=by rfl):GX P N ops (oo::rest) E Q:=GX.op false hg hs h
theorem ABF (mv:Bool) (m:List (Root×List TV)) (d:Nat) (s:SV) (h:GX P N ops rest ((xJ E m).put (some d) s) Q) (hs:C4 P N mv E oo=some ((xJ E m).put (some d) s):=by rfl) (hg:BE P ops E oo=some true:=by rfl):GX P N ops (oo::rest) E Q:=GX.op mv hg hs h
theorem zS {l:List Oper} {r:β} {b:Bool} (h:(bif b then tx else ty)=some r) (t:Nat) (ht:tx=some r->GX P N ops l (E.rs t true) Q) (hf:ty=some r->GX P N ops l (E.rs t false) Q) (hc:E.slots t=B b:=by rfl):GX P N ops l E Q:=by
 cases b
 ·rw [YM hc]at hf;exact hf h
 rw [YM hc]at ht;exact ht h
theorem Wp.c {r:β} {x:Code} {c:Operand} {b:Bool} (h:(bif b then tx else ty)=some r) (ht:tx=some r->Wp P N x E Q) (hf:ty=some r->Wp P N y E Q) (hc:E.cell1 P 0 c=some (.bool b):=by rfl):Wp P N (.cond c x y) E Q:=by
 refine Wp.cond hc (λhb=>?_) (λhb=>?_)
 ·subst hb;exact ht h
 subst hb;exact hf h
theorem AAI {x:Code} {c:Operand} (ht:Wp P N x E Q) (hc:E.cell1 P 0 c=some (.bool true):=by rfl):Wp P N (.cond c x y) E Q:=Wp.cond hc (λ_=>ht) (λh=>by cases h)
theorem AAJ {x:Code} {c:Operand} (hf:Wp P N y E Q) (hc:E.cell1 P 0 c=some (.bool false):=by rfl):Wp P N (.cond c x y) E Q:=Wp.cond hc (λh=>by cases h) (λ_=>hf)
def pk (o:Oper):Bool:=match o.op with
 | .nilCheck _| .pick .. | .binOp .. | .unOp .. | .convert .. | .fieldAddr .. | .indexAddr .. | .load .. | .index .. | .slice .. =>true
 | .call c=>match c.callee with
  | .builtin .len| .builtin .min| .builtin .max=>true
  |_=>false
 |_=>false
theorem oW {o:Oper} {s:SV} {src dst:TypeId} {x:Operand} (ho:o.op= .convert src dst x) (hp:Bh P E o=some s):Rh P E d src dst x=none:=by
 unfold Bh at hp;simp only [ho]at hp;unfold Rh;split
 ·rename_i e hd;split
  ·rename_i b hs hb;simp only [hd,hs,hb]at hp;cases hp
  rfl
 rfl
theorem lF {o:Oper} {s:SV} (hp:Bh P E o=some s) (hd:o.dst=some d:=by rfl) (hN:Nat.blt d N=true:=by rfl) (hk:pk o=true:=by rfl):C4 P N false E o=some (E.put (some d) s):=by
 have hN':d<N:=by simpa [Bn]using hN
 unfold pk at hk;unfold C4;rw [hd];simp only [Au hN'];split at hk<;>rename_i ho<;>try (cases hk;done)
 all_goals first|(simp only [ho,oW ho hp,hp,B5];done)|simp only [ho,hp,B5]
 rename_i c;split at hk<;>rename_i hc<;>try (cases hk;done)
 all_goals simp only [hc,B5]
theorem lG {o:Oper} {s:SV} (hp:Bh P E o=some s) (hk:pk o=true:=by rfl):IU P E o=some s:=by
 unfold pk at hk;unfold IU;split at hk<;>rename_i ho<;>try (cases hk;done)
 all_goals simp only [ho];exact hp
theorem AAt {o:Oper} {k:IntKind} (hf:∀x,(f x).length=sz) (r:Root) (q:List Nat) (j:Nat) (hx:gi l n=some x) {t e e':TypeId} {a i:Operand} {b:Bool} (hp:E.place r q j=some (.sl b e' sz (AR f l)):=by rfl) (ho:o.op= .indexAddr t a i:=by rfl) (ht:P.underlying t=some (.slice e):=by rfl) (hi:E.cell1 P 0 i=some (.int k n):=by rfl) (hr:E.ref a=some (r,q,j):=by rfl) (c:P.cellsOf e=sz:=by rfl) (h0:Nat.blt 0 sz=true:=by rfl):Bh P E o=some (.one (.ptr r (E.ver r) (q++ [j]) (n.toNat*sz+0))):=by
 have h0':0<sz:=by simpa [Bn]using h0
 simp only [Bh,ho,ht,hi,hr,hp];rw [Au ⟨c.symm,h0',(Rd hx).1,cD hf hx⟩];rfl
theorem ABh {o:Oper} {fl:Nat} (hf:∀x,(f x).length=sz) (r:Root) (q:List Nat) (k:Nat) (hx:gi l n=some x) {a:Operand} (hr:(E.root r).bind (λcs=>BZ cs q)=some (AR f l):=by rfl) (ho:o.op= .fieldAddr st a fl:=by rfl) (hs:P.underlying st=some (.struct fs):=by rfl) (hp:E.ptr? a=some (r,q,n.toNat*sz+k):=by rfl) (b:fs[fl]?=some fd:=by rfl) (hc:Nat.beq (P.cellsOf fd.type) 0=false:=by rfl) {m:Nat} (hm:k+fd.offset=m:=by rfl) (hk:Nat.blt (k+fd.offset) sz=true:=by rfl):Bh P E o=some (.one (.ptr r (E.stamp r q) q (n.toNat*sz+m))):=by
 subst hm;have hc':P.cellsOf fd.type≠0:=by intro h;rw [h]at hc;cases hc
 have hk':k+fd.offset<sz:=by simpa [Bn]using hk
 have c:(E.place r q (n.toNat*sz+k+fd.offset)).isSome=true:=by
  obtain⟨cs,h1,h2⟩:=Ar.1 hr;simp only [St.place,h1,Aa,h2,HE,Nj hf hx hk'];rw [Ab (by rw [hf];exact hk')];rfl
 simp only [Bh,ho,hs,hp,b];rw [Ax hc',Au c,HE]
theorem ABg {o:Oper} (hf:∀x,(f x).length=sz) (r:Root) (q:List Nat) (k:Nat) (u:TV) (hx:gi l n=some x) {t:TypeId} {a:Operand} (hr:(E.root r).bind (λcs=>BZ cs q)=some (AR f l):=by rfl) (ho:o.op= .load t a:=by rfl) (hp:E.ptr? a=some (r,q,n.toNat*sz+k):=by rfl) (ha:Ys P t=false:=by rfl) (h1:P.cellsOf t=1:=by rfl) (hu:(P.underlying t).isSome=true:=by rfl) (hk:Nat.blt k sz=true:=by rfl) (hj:(f x)[k]?=some u:=by rfl):Bh P E o=some (.one (yM E r q (n.toNat*sz+k) u)):=by
 have hk':k<sz:=by simpa [Bn]using hk
 have b:=cD hf hx;rw [D7]at b;simp only [Bh,ho,hp,hr,ha,h1];rw [Au (by omega),Ax (by simp),Au ⟨trivial,hu⟩,Nj hf hx hk',hj];rfl
theorem ABf {o:Oper} (hf:∀x,(f x).length=sz) (r:Root) (q:List Nat) (k m:Nat) (hx:gi l n=some x) {t:TypeId} {a:Operand} (hr:(E.root r).bind (λcs=>BZ cs q)=some (AR f l):=by rfl) (ho:o.op= .load t a:=by rfl) (hp:E.ptr? a=some (r,q,n.toNat*sz+k):=by rfl) (ha:Ys P t=true:=by rfl) (h1:P.cellsOf t=m:=by rfl) (hk:Nat.ble (k+m) sz=true:=by rfl):Bh P E o=some (.agg (SC E r q (n.toNat*sz+k) (((f x).drop k).take m))):=by
 have hk':k+m<=sz:=by simpa [Oa]using hk
 have b:=cD hf hx;rw [D7]at b;simp only [Bh,ho,hp,hr,ha,h1];rw [Au (by omega),Au trivial,<-sE hf hx,List.drop_take,List.take_take,Nat.min_eq_left (by omega),CB]
theorem AAs {o:Oper} (hf:∀x,(f x).length=sz) (l:List α) {t e e':TypeId} {a:Operand} {b:Bool} {r:Root} (ho:o.op= .call {callee:= .builtin .len,args:= #[a],argTypes:= #[t]}:=by rfl) (ht:P.underlying t=some (.slice e):=by rfl) (hr:E.ref a=some (r,q,j):=by rfl) (hp:E.place r q j=some (.sl b e' sz (AR f l)):=by rfl) (h0:Nat.blt 0 sz=true:=by rfl):Bh P E o=some (.one (.int .i64 (ln l))):=by
 have h0':0<sz:=by simpa [Bn]using h0
 have:(AR f l).length/sz=l.length:=by rw [EK hf];exact EU _ h0'
 simp only [Bh,ho,No,ht,St.sliceCells,hr,hp];rw [Au h0',this];rfl
def sx (s:ByteArray) (i:Int):Option Int:=if 0<=i/\i<s.size then some (Bh.bt s i)else none
def sub (s:ByteArray) (l h:Int):Option ByteArray:=if 0<=l/\l<=h/\h<=s.size then some (s.extract l.toNat h.toNat)else none
def TB (a b:ByteArray):Option ByteArray:=if((a.size+b.size:Nat):Int)>9223372036854775807 then none else some (a++b)
def Gi (s:ByteArray):Int:=(s.size:Nat)
def seq (a b:ByteArray):Bool:=a.toList==b.toList
theorem ABe {o:Oper} {k:IntKind} {s:ByteArray} {n b:Int} (h:sx s n=some b) {t:TypeId} {a i:Operand} (ho:o.op= .index t a i:=by rfl) (ht:P.underlying t=some .string:=by rfl) (ha:E.cell1 P t a=some (.str s):=by rfl) (hi:E.cell1 P 0 i=some (.int k n):=by rfl):
  Bh P E o=some (.one (.int .u8 b)):=by
 unfold sx at h;split at h
 ·rename_i hc
  injection h with h
  simp only [Bh,ho,ht,ha,hi];rw [Au hc,h]
 cases h
section
variable {o:Oper}
theorem AAq {l h:Int} {hi:Option Operand} {k k':IntKind} {s u:ByteArray} (hx:sub s l h=some u) {t:TypeId} {a:Operand} (ho:o.op= .slice t a lo hi none:=by rfl) (ht:P.underlying t=some .string:=by rfl) (ha:E.cell1 P t a=some (.str s):=by rfl) (hl:(match lo with|some o=>E.cell1 P 0 o|none=>some (.int .i64 0))=some (.int k l):=by rfl) (hh:(match hi with|some o=>E.cell1 P 0 o|none=>some (.int .i64 s.size))=some (.int k' h):=by rfl):
  Bh P E o=some (.one (.str u)):=by
 unfold sub at hx;split at hx
 ·rename_i hc
  injection hx with hx
  have fin:(if 0<=l/\l<=h/\h<=(s.size:Int)then some (SV.one (.str (s.extract l.toNat h.toNat)))else none)=some (.one (.str u)):=by rw [Au hc,hx]
  cases lo with
  |none=>
   injection hl with hl
   injection hl with _ hl
   subst hl
   cases hi with
   |none=>
    injection hh with hh
    injection hh with _ hh
    subst hh;simpa only [Bh,ho,ht,ha]using fin
   |some y=>
    have hh':E.cell1 P 0 y=some (.int k' h):=hh;simpa only [Bh,ho,ht,ha,hh']using fin
  |some z=>
   have hl':E.cell1 P 0 z=some (.int k l):=hl
   cases hi with
   |none=>
    injection hh with hh
    injection hh with _ hh
    subst hh;simpa only [Bh,ho,ht,ha,hl']using fin
   |some y=>
    have hh':E.cell1 P 0 y=some (.int k' h):=hh;simpa only [Bh,ho,ht,ha,hl',hh']using fin
 cases hx
end
theorem AAv {o:Oper} {x y:Operand} {a b u:ByteArray} (hx:TB a b=some u) {t t':TypeId} (ho:o.op= .binOp .add t x y t':=by rfl) (ha:E.cell1 P t x=some (.str a):=by rfl) (hb:E.cell1 P t y=some (.str b):=by rfl):
  Bh P E o=some (.one (.str u)):=by
 unfold TB at hx;split at hx
 ·cases hx
 rename_i hc
 injection hx with hx
 simp only [Bh,ho,ha,hb,Uo,BX,Ve];rw [Ax hc,hx];rfl
def IN (cs:List TV):Bool:=cs.all λt=>match t with
 | .int .. | .bool _| .str _| .sl false .. =>true
 |_=>false
theorem Ww {E:St} {r:Root} {q:List Nat}:∀{cs:List TV} (c:Nat),IN cs=true->SC E r q c cs=cs
 |[],c,h=>rfl
 |t::ts,c,h=>by
  simp only [IN,E8,Al]at h;have ih:=Ww (E:=E) (r:=r) (q:=q) (c+1) (show IN ts=true from h.2);simp only [SC,ih]
  cases t with
  |sl o e sz cells=>cases o<;>first|rfl|(have:=h.1;simp at this)
  |_=>rfl
theorem Pv {E:St}:∀{cs:List TV},IN cs=true->ER E cs=some (cs,E)
 |[],h=>rfl
 |t::ts,h=>by
  simp only [IN,E8,Al]at h;have ih:=Pv (E:=E) (show IN ts=true from h.2);have h1:=h.1;have hr:∀E1 E2 t,(∀r v q j,t≠ .view r v q j)->List.map (yO E1 E2 t) ts=ts:=by
   intro E1 E2 t ht;have:yO E1 E2 t=id:=by
    funext u;cases t<;>first|rfl|exact absurd rfl (ht _ _ _ _)
   rw [this,Sp]
  rw [PC];cases t<;>simp only [DF]<;>first|(rw [hr _ _ _ (by intros;simp)];simp only [ih])|(simp at h1;done)
theorem RU (hf:∀x,IN (f x)=true):∀l:List α,IN (AR f l)=true
 |[]=>rfl
 |x::l=>by
  have:=RU hf l;rw [GF];unfold IN at*;rw [List.all_append,hf,this];rfl
def ap (by_:Nat) (l m:List α):Option (List α):=if(l.length+m.length)*by_<=140737488355328 then some (l++m)else none
def mk (by_:Nat) (z:α) (n:Int):Option (List α):=if 0<=n/\(by_:Int)*n<=281474976710656/\n<=9223372036854775807 then some (List.replicate n.toNat z)else none
theorem wJ {l m u:List α} (h:ap by_ l m=some u):u=l++m/\(l.length+m.length)*by_<=140737488355328:=by
 unfold ap at h;split at h
 ·injection h with h;exact⟨h.symm,by assumption⟩
 cases h
theorem PW (h:f z=zs):∀n,(List.replicate n zs).flatten=AR f (List.replicate n z)
 |0=>rfl
 |n+1=>by rw [Gf,Sr,PW h n,Gf,GF,h]
theorem AA8 {o:Oper} {u:List α} {kl kc:IntKind} (z:α) (h:mk by_ z n=some u) {t e:TypeId} {l c:Operand} (ho:o.op= .makeSlice t l c:=by rfl) (hd:o.dst=some d:=by rfl) (hN:Nat.blt d N=true:=by rfl) (ht:P.underlying t=some (.slice e):=by rfl) (hl:E.cell1 P 0 l=some (.int kl n):=by rfl) (hc:E.cell1 P 0 c=some (.int kc n):=by rfl) (hz:KC P e=some zs:=by rfl) (hfz:f z=zs:=by rfl) (hb:P.bytesOf e=by_:=by rfl) (b:P.cellsOf e=sz:=by rfl):
  C4 P N false E o=some (E.put (some d) (.one (.sl true e sz (AR f u)))):=by
 have hN':d<N:=by simpa [Bn]using hN
 unfold mk at h;split at h
 ·rename_i a
  injection h with h
  subst h;unfold C4;rw [hd];simp only [Au hN',ho,VQ,ht,hl,hc,hz];rw [Au ⟨trivial,a.1,by rw [hb];exact a.2.1,a.2.2⟩,PW hfz,b]
 cases h
section
variable {o:Oper}
structure At (cs:List TV) (q:List Nat) (row:List TV) (g:List TV->List TV) (cs':List TV):Prop where
 c:BZ cs q=some row
 o:L0 cs q=true
 u:DE cs q g=cs'
end
theorem At.one {g:List TV->List TV} {row':List TV} {cs a:List TV} {c:Nat} {e s:Nat} (h:g a=row') (hc:cs[c]?=some (.sl true e s a):=by rfl) (hs:cs.set c (.sl true e s row')=cs':=by rfl):At cs [c] a g cs':=
 ⟨by simp [BZ,hc],by simp [L0,hc],by simp [DE,hc,h,hs]⟩
theorem AAS {g:List TV->List TV} (hf:∀x,(f x).length=sz) {cs a:List TV} {c k:Nat} {e s:Nat} (hx:gi l n=some x) (h:At (f x) (k::q) a g (f z)) (hk:Nat.blt k sz=true:=by rfl) (hc:cs[c]?=some (.sl true e s (AR f l)):=by rfl) (hs:cs.set c (.sl true e s (AR f (si l n z)))=cs':=by rfl):At cs (c::(n.toNat*sz+k)::q) a g cs':=by
 have hk':k<sz:=by simpa [Bn]using hk
 refine⟨?_,?_,?_⟩
 ·rw [<-h.c,<-mU hf hx hk'];simp only [BZ,hc]
 ·rw [<-h.o,<-u7 hf hx hk'];simp only [L0,hc,CJ]
 rw [<-hs,<-uH hf hx hk' h.u];simp only [DE,hc]
theorem zF (hf:∀x,(f x).length=sz) (hx:gi l n=some x) {k m:Nat} (hk:Nat.ble (k+m) sz=true):n.toNat*sz+k+m<=(AR f l).length:=by
 have:=cD hf hx;rw [D7]at this;have h1:k+m<=sz:=by simpa [Oa]using hk
 omega
def SV.comps:SV->List SV
 | .tup ss=>ss
 |_=>[]
def St.ex (E:St) (n ix:Nat):St:={E with slots:=Cn E.slots n (.tup ((E.slots n).comps.set ix (.one .junk)))}
theorem ABG (n ix d:Nat) (s:SV) (h:GX P N ops rest ((E.ex n ix).put (some d) s) Q) (hs:C4 P N false E oo=some ((E.ex n ix).put (some d) s):=by rfl) (hg:BE P ops E oo=some true:=by rfl):GX P N ops (oo::rest) E Q:=GX.op false hg hs h
theorem GL.o (d:Nat) (s:SV) (h:GL P N ops rest (E.put (some d) s) K) (hs:IU P E oo=some s:=by rfl) (hg:BE P ops E oo=some true:=by rfl) (hd:oo.dst=some d:=by rfl) (hN:Nat.blt d N=true:=by rfl):GL P N ops (oo::rest) E K:=
 GL.op s hg hd (by simpa [Bn]using hN) hs h
theorem zK {l:List Oper} {r:β} {b:Bool} (h:(bif b then tx else ty)=some r) (t:Nat) (ht:tx=some r->GL P N ops l (E.rs t true) K) (hf:ty=some r->GL P N ops l (E.rs t false) K) (hc:E.slots t=B b:=by rfl):GL P N ops l E K:=by
 cases b
 ·rw [YM hc]at hf;exact hf h
 rw [YM hc]at ht;exact ht h
theorem DN {g:α->List TV} (h:∀x,BH (f x)=g x):∀l:List α,BH (AR f l)=AR g l
 |[]=>rfl
 |x::l=>by
  have c:∀a b:List TV,BH (a++b)=BH a++BH b:=by
   intro a b
   induction a with
   |nil=>rfl
   |cons t ts ih=>simp only [BF,BH,ih]
  rw [GF,GF,c,h,DN h l]
theorem KH (h:∀x,AI (f x)=false):∀l:List α,AI (AR f l)=false
 |[]=>rfl
 |x::l=>by
  have c:∀a b:List TV,AI (a++b)=(AI a||AI b):=by
   intro a b
   induction a with
   |nil=>rfl
   |cons t ts ih=>simp only [BF,AI,ih,Bool.or_assoc]
  rw [GF,c,h,KH h l];rfl
def ad (a b:Int):Int:=IntKind.i64.wrap (a+b)
def sb (a b:Int):Int:=IntKind.i64.wrap (a-b)
def ml (a b:Int):Int:=IntKind.i64.wrap (a*b)
def qu (a b:Int):Int:=IntKind.i64.wrap (a.tdiv b)
def xr (a b:Int):Int:=IntKind.u32.wrap (BitVec.ofInt 32 a^^^BitVec.ofInt 32 b).toNat
def an (a b:Int):Int:=IntKind.u32.wrap (BitVec.ofInt 32 a&&&BitVec.ofInt 32 b).toNat
def bs (l:List UInt8):ByteArray:=⟨l.toArray⟩
section
variable (P:Program) (md:Region.Mode) (ops:Array Oper) (Q:Exit->Act->World->Prop) (T:Nat->Bool)
def Wa:Nat->Array Bool->Act->World->Prop
 |0,listed,a,w=>Region.ready md ops listed=[]/\Q .normal a w
 |fuel+1,listed,a,w=>
  (Region.ready md ops listed=[]->Q .normal a w)/\
  ∀i∈Region.ready md ops listed,wpOp P ops Q i (λa' w'=>(T i=false->En w w')/\Wa fuel (listed.setIfInBounds i true) a' w') a w
end
theorem VZ {Q:Exit->Act->World->Prop}:∀(b:Nat) (listed:Array Bool) (a:Act) (w:World),Wa P md ops Q T b listed a w->wpAny P md ops Q b listed a w
 |0,_,_,_,h=>h
 |b+1,_,_,_,h=>⟨h.1,λi hi=>wpOp_mono (λa' w' h'=>VZ b _ a' w' h'.2) (h.2 i hi)⟩
section
variable (md:Region.Mode) (ops:Array Oper)
def Wc (i:Nat):Nat->Nat->Bool
 |0,_=>false
 |n+1,j=>match ops[j]? with
  |some o=>o.after.any λe=>Region.binds md e&&(e.on==i||Wc i n e.on)
  |none=>false
end
def XC (md:Region.Mode) (ops:Array Oper) (listed:Array Bool):Prop:=∀k o,ops[k]?=some o->listed.getD k false=true->∀e∈o.after,Region.binds md e=true->listed.getD e.on false=true
theorem Sw {i:Nat} (hc:XC md ops listed):∀{n j:Nat} {o:Oper},ops[j]?=some o->(∀e∈o.after,Region.binds md e=true->listed.getD e.on false=true)->Wc md ops i n j=true->listed.getD i false=true
 |0,j,o,_,_,h=>by cases h
 |n+1,j,o,ho,ha,h=>by
  simp only [Wc,ho]at h;obtain⟨e,he,hb⟩:=Array.any_eq_true'.1 h;simp only [Al,Cy,Dn]at hb;have h1:=ha e he hb.1
  rcases hb.2 with h2|h2
  ·rw [<-h2];exact h1
  cases hk:ops[e.on]? with
  |none=>
   cases n with
   |zero=>cases h2
   |succ n=>simp [Wc,hk]at h2
  |some ok=>exact Sw hc hk (hc e.on ok hk h1) h2
theorem K6 (hc:XC md ops listed) (hr:j∈Region.ready md ops listed):XC md ops (listed.setIfInBounds j true):=by
 intro k o hk hl e he hb
 have a:∀m,listed.getD m false=true->(listed.setIfInBounds j true).getD m false=true:=λm hm=>getD_set_true hm
 by_cases b:k=j
 ·subst b;obtain⟨_,o',ho',c⟩:=mem_ready.1 hr;rw [hk]at ho'
  injection ho' with ho'
  subst ho';exact a _ (c e he hb)
 rw [getD_set_ne false (EL b)]at hl;exact a _ (hc k o hk hl e he hb)
theorem LE {Q:Exit->Act->World->Prop} {i:Nat} {oi:Oper} {n:Nat} (hi:ops[i]?=some oi) (m:∀(j:Nat) (o:Oper) cs b,ops[j]?=some o->o.op≠ .select cs b) (hQ:∀c a w,Q (.panic c) (a.put oi.dst v) w->Q (.panic c) a w) (h7:T i=false) (hT:∀j,T j=true->Wc md ops i n j=true):
  ∀(d:Nat) (listed:Array Bool) (a:Act) (w:World),XC md ops listed->
   (∀j oj,ops[j]?=some oj->j≠i->listed.getD j true=false->(∀e∈oj.after,Region.binds md e=true->e.on≠i)->oi.apart ops oj=true)->
   i∈Region.ready md ops listed->YieldsIf P ops (En w) oi v a->
   Wa P md ops Q T d (listed.setIfInBounds i true) (a.put oi.dst v) w->Wa P md ops Q T (d+1) listed a w:=by
 intro d
 induction d with
 |zero=>
  intro listed a w _ _ hr hy H;refine⟨λh=>(by rw [h]at hr;cases hr),λj hj=>?_⟩;by_cases f:j=i
  ·subst f;exact hy.wpOp hi En.refl ⟨λ_=>En.refl,H⟩
  have:=ready_mono hj f;rw [H.1]at this;cases this
 |succ d ih=>
  intro listed a w t g hr hy H;refine⟨λh=>(by rw [h]at hr;cases hr),λj hj=>?_⟩;by_cases f:j=i
  ·subst f;exact hy.wpOp hi En.refl ⟨λ_=>En.refl,H⟩
  have h1:=H.2 j (ready_mono hj f);obtain⟨p,oj,l,q⟩:=mem_ready.1 hj;have r:listed.getD i false=false:=by
   have h0:=(mem_ready.1 hr).1
   rcases Dc i listed.size with h'|h'
   ·simpa [h']using h0
   simp [Gm h']
  have s:T j=false:=by
   cases s:T j with
   |false=>rfl
   |true=>
    have:=Sw t l q (hT j s);rw [r]at this;cases this
  have u:∀e∈oj.after,Region.binds md e=true->e.on≠i:=λe he hb z=>by
   have h1:=q e he hb;rw [z,r]at h1;cases h1
  have h2:=wpOp_putIf l (g j oj l f p u) (λcs b=>m i oi cs b hi) (λcs b=>m j oj cs b l) hQ hy h1;have hfree':∀k ok,ops[k]?=some ok->k≠i->(listed.setIfInBounds j true).getD k true=false->
    (∀e∈ok.after,Region.binds md e=true->e.on≠i)->oi.apart ops ok=true:=λk ok hk h4 x h5=>by
   refine g k ok hk h4 ?_ h5;by_cases y:j=k
   ·subst y;exact p
   rw [getD_set_ne true y]at x;exact x
  refine wpOp_mono (λa' w' h3=>⟨h3.2.1,ih (listed.setIfInBounds j true) a' w' (K6 t hj) hfree' (ready_mono hr (EL f)) ?_ ?_⟩) h2
  ·exact h3.1.imp (λ⟨p1,p2⟩=>⟨p1,λw2 h6=>p2 w2 ((h3.2.1 s).trans h6)⟩) id
  rw [Array.setIfInBounds_comm _ _ f];exact h3.2.2
def Vi (P:Program) (N:Nat) (ops:Array Oper) (ts:List Nat) (b:Nat) (listed:Array Bool) (E:St) (Q:Exit->St->Prop):Prop:=
 (∀c E,Q (.panic c) E->False)->XC .any ops listed->∀(w0:Base) (FA UA:List Nat) (w:World) (a:Act) (blk:Root->Nat) (FS US:Root->List Nat),CM w0 FA UA N w a E blk FS US->FS .hand=[]->US .hand=[]->Wa P .any ops (gI w0 FA UA N Q) (λi=>ts.contains i) b listed a w
def ZI (P:Program) (N:Nat) (ops:Array Oper) (ts:List Nat) (i:Nat) (E:St) (K:St->Prop) (Q:Exit->St->Prop):Prop:=
 ∀(w0:Base) (FA UA:List Nat) (w:World) (a:Act) (blk:Root->Nat) (FS US:Root->List Nat),CM w0 FA UA N w a E blk FS US->FS .hand=[]->US .hand=[]->
  wpOp P ops (gI w0 FA UA N Q) i (λa' w'=>(ts.contains i=false->En w w')/\∃E' blk' FS' US',K E'/\CM w0 FA UA N w' a' E' blk' FS' US'/\FS' .hand=[]/\US' .hand=[]) a w
theorem ZI.op {ts:List Nat} (i:Nat) {o:Oper} (mv:Bool) (h:K E') (hs:C4 P N mv E o=some E') (ho:ops[i]?=some o) (hg:BE P ops E o=some true) (hk:(kp o||ts.contains i)=true):ZI P N ops ts i E K Q:=by
 intro w0 FA UA w a blk FS US hr hF hU;unfold wpOp;simp only [ho,Co hr hg,BX];refine .inl ((PG hr hF hU hs).wp λw' v blk' FS' US' k1 k2 k3 k4=>⟨λht=>k4 (by rw [ht,Oe]at hk;exact hk),_,_,_,_,h,k1,k2,k3⟩)
theorem ZI.call {ts:List Nat} {f:FuncId} {n:Nat} (i:Nat) {o:Oper} {args:Array Operand} {tys:Array TypeId} (hi:ops[i]?=some o) (ho:o.op= .call {callee:= .value (.func f),args:=args,argTypes:=tys}) (hf:Yp P f) (hg:BE P ops E o=some true) (hN:∀d,o.dst=some d->d<N) (l:List (Bool×TypeId×Operand)) (hl:l.map (λx=>x.2.2)=args.toList) (b:(l.all (λx=>!x.1)||ts.contains i)=true) {c:SV} (e:AM P f as c (List.replicate n .gone)) (he:VR P E o.dst l as c E') (h:K E'):ZI P N ops ts i E K Q:=by
 intro w0 FA UA w a blk FS US hr hF hU;unfold wpOp;simp only [hi,Co hr hg,BX];exact .inl (Z8 hr hF hU ho hf hN hl e he λw' v blk' FS' US' k1 k2 k3 k4=>⟨λht=>k4 (by rw [ht,Oe]at b;exact b),_,_,_,_,h,k1,k2,k3⟩)
theorem tS {ts:List Nat} (h:Q .normal E) (hr:Region.ready .any ops listed=[]:=by decide+kernel):Vi P N ops ts fuel listed E Q:=
 λ_ _ w0 FA UA w a blk FS US k1 k2 k3=>by
  have hq:gI w0 FA UA N Q .normal a w:=⟨E,blk,FS,US,h,k1,k2,k3⟩
  cases fuel with
  |zero=>exact⟨hr,hq⟩
  |succ n=>exact⟨λ_=>hq,by rw [hr];simp⟩
section
variable {ts:List Nat}
theorem Vi.all (rs:List Nat) (h:∀i∈rs,ZI P N ops ts i E (λE'=>Vi P N ops ts fuel (listed.setIfInBounds i true) E' Q) Q) (hr:Region.ready .any ops listed=rs) (b:rs≠ []):Vi P N ops ts (fuel+1) listed E Q:=
 λhQ hc w0 FA UA w a blk FS US k1 k2 k3=>⟨λh0=>absurd (hr▸h0) b,λi hi=>by
  have hi':i∈rs:=hr▸hi
  exact wpOp_mono (λa' w' ⟨m0,E',blk',FS',US',m1,m2,m3,m4⟩=>⟨m0,m1 hQ (K6 hc hi) _ _ _ _ _ _ _ _ m2 m3 m4⟩) (h i hi' _ _ _ _ _ _ _ _ k1 k2 k3)⟩
end
def Re (ops:Array Oper) (ts:List Nat) (n i:Nat) (listed:Array Bool):Bool:=Region.noSelect ops&&Region.free .any ops listed i&&(Region.ready .any ops listed).contains i&&!ts.contains i&&ts.all λj=>Wc .any ops i n j
theorem Tr {ts:List Nat} {n i:Nat} (h:Re ops ts n i listed=true):Region.noSelect ops=true/\Region.free .any ops listed i=true/\i∈Region.ready .any ops listed/\ts.contains i=false/\∀j,ts.contains j=true->Wc .any ops i n j=true:=by
 simp only [Re,Al,C8,GH]at h;obtain⟨⟨⟨⟨h1,h2⟩,h3⟩,h4⟩,h5⟩:=h;exact⟨h1,h2,by simpa using h3,h4,λj hj=>h5 j (by simpa using hj)⟩
theorem Vi.take {ts:List Nat} (n i:Nat) {o:Oper} (d:Nat) (s:SV) (h:Vi P N ops ts fuel (listed.setIfInBounds i true) (E.put (some d) s) Q) (hs:IU P E o=some s) (ho:ops[i]?=some o) (f:Re ops ts n i listed=true) (hg:BE P ops E o=some true) (hd:o.dst=some d) (hN:Nat.blt d N=true):Vi P N ops ts (fuel+1) listed E Q:=by
 intro hQ hc w0 FA UA w a blk FS US k1 k2 k3;obtain⟨e1,e2,e3,e4,e5⟩:=Tr f;obtain⟨v,U,h1,h2,h3⟩:=Wr k1 hs;refine LE (v:=v) (n:=n) ho (Region.noSelect_spec e1) (λc a w hx=>?_) e4 e5 fuel listed a w hc (Region.free_spec ho e2) e3 (.inl ⟨Co k1 hg,λw2 e=>?_⟩) ?_
 ·obtain⟨E',blk',FS',US',m1,_⟩:=hx;exact(hQ c E' m1).elim
 ·exact h1 w2 (λr hr=>⟨λb hb=>e.2 b (k1.inF r b hb).2,λb hb=>e.2 b (k1.inU r b hb).2⟩)
 rw [hd];refine h hQ (K6 hc e3) _ _ _ _ _ _ _ _ (k1.put (by simpa [Bn]using hN) h2 (NS k1 h3 _)) ?_ ?_
 ·rw [Bu (by simp),k2]
 rw [Bu (by simp),k3]
theorem cW {ts:List Nat} (n i:Nat) {o:Oper} (d:Nat) (h:Vi P N ops ts fuel (listed.setIfInBounds i true) (E.put (some d) (.tup [])) Q) (ho:ops[i]?=some o) (b:Re ops ts n i listed=true) (hg:BE P ops E o=some false) (hd:o.dst=some d) (hN:Nat.blt d N=true):Vi P N ops ts (fuel+1) listed E Q:=by
 intro hQ hc w0 FA UA w a blk FS US k1 k2 k3;obtain⟨e1,e2,e3,e4,e5⟩:=Tr b;refine LE (v:=undef) (n:=n) ho (Region.noSelect_spec e1) (λc a w hx=>?_) e4 e5 fuel listed a w hc (Region.free_spec ho e2) e3 (.inr ⟨Co k1 hg,rfl⟩) ?_
 ·obtain⟨E',blk',FS',US',m1,_⟩:=hx;exact(hQ c E' m1).elim
 rw [hd];refine h hQ (K6 hc e3) _ _ _ _ _ _ _ _ (k1.put (F:=[]) (U:=[]) (by simpa [Bn]using hN) (by simp only [Ep];exact⟨[],rfl,by simp [Nr]⟩) XB.none) ?_ ?_
 ·rw [Bu (by simp),k2]
 rw [Bu (by simp),k3]
theorem kE {id:Nat} (n:Nat) (ts:List Nat) (hm:P.follows .mixedOrders=true) (hQ:∀c E,Q (.panic c) E->False) (h:Vi P N ops ts n (Array.replicate n false) E Q) (hn:ops.size=n:=by rfl):Wp P N (.region id ops true) E Q:=by
 subst hn;intro w0 FA UA w a blk FS US k1 k2 k3;refine wp_region_any hm (VZ (T:=λi=>ts.contains i) _ _ _ _ ?_);obtain⟨FS',US',m1,m2,m3⟩:=k1.drop (w':={w with drawn:=w.drawn+1}) (A3 _) rfl rfl rfl (λ_ _ _=>rfl);refine h hQ (λk o hk hl=>?_) _ _ _ _ _ _ _ _ m1 m2 m3;exfalso;rw [Eo]at hl
 rcases Dc k ops.size with h'|h'
 ·simp [h']at hl
 simp [h']at hl
theorem Vi.o {ts:List Nat} (n i d:Nat) (s:SV) {o:Oper} (h:Vi P N ops ts fuel (listed.setIfInBounds i true) (E.put (some d) s) Q) (ho:ops[i]?=some o:=by rfl) (hs:IU P E o=some s:=by rfl) (a:Re ops ts n i listed=true:=by decide+kernel) (hg:BE P ops E o=some true:=by rfl) (hd:o.dst=some d:=by rfl) (hN:Nat.blt d N=true:=by rfl):Vi P N ops ts (fuel+1) listed E Q:=Vi.take n i d s h hs ho a hg hd hN
theorem zW {ts:List Nat} {r:β} {b:Bool} (h:(bif b then tx else ty)=some r) (t:Nat) (ht:tx=some r->Vi P N ops ts fuel listed (E.rs t true) Q) (hf:ty=some r->Vi P N ops ts fuel listed (E.rs t false) Q) (hc:E.slots t=B b:=by rfl):Vi P N ops ts fuel listed E Q:=by
 cases b
 ·rw [YM hc]at hf;exact hf h
 rw [YM hc]at ht;exact ht h
theorem ZI.o {ts:List Nat} (i d:Nat) (s:SV) {o:Oper} (h:K (E.put (some d) s)) (ho:ops[i]?=some o:=by rfl) (hs:C4 P N false E o=some (E.put (some d) s):=by rfl) (hg:BE P ops E o=some true:=by rfl) (hk:(kp o||ts.contains i)=true:=by rfl):ZI P N ops ts i E K Q:=ZI.op i false h hs ho hg hk
theorem ZI.b {ts:List Nat} (i:Nat) (m:List (Root×List TV)) (d:Nat) (xs:List TV) {o:Oper} (h:K ((xJ E m).newBox d xs)) (ho:ops[i]?=some o:=by rfl) (hs:C4 P N false E o=some ((xJ E m).newBox d xs):=by rfl) (hg:BE P ops E o=some true:=by rfl) (hk:(kp o||ts.contains i)=true:=by rfl):ZI P N ops ts i E K Q:=ZI.op i false h hs ho hg hk
theorem ABH {ts:List Nat} (i:Nat) (mv:Bool) (m:List (Root×List TV)) (d:Nat) (s:SV) {o:Oper} (h:K ((xJ E m).put (some d) s)) (ho:ops[i]?=some o:=by rfl) (hs:C4 P N mv E o=some ((xJ E m).put (some d) s):=by rfl) (hg:BE P ops E o=some true:=by rfl) (hk:(kp o||ts.contains i)=true:=by rfl):ZI P N ops ts i E K Q:=ZI.op i mv h hs ho hg hk
theorem ABI {ts:List Nat} (i n ix d:Nat) (s:SV) {o:Oper} (h:K ((E.ex n ix).put (some d) s)) (ho:ops[i]?=some o:=by rfl) (hs:C4 P N false E o=some ((E.ex n ix).put (some d) s):=by rfl) (hg:BE P ops E o=some true:=by rfl) (hk:(kp o||ts.contains i)=true:=by rfl):ZI P N ops ts i E K Q:=ZI.op i false h hs ho hg hk
def oI (n:Int):Prop:= -9223372036854775808<=n/\n<=9223372036854775807
def oK (k:IntKind) (n:Int):Prop:=k.min<=n/\n<=k.max
def ol (o:α->Prop) (l:List α):Prop:=l.length<=9223372036854775807/\∀x∈l,o x
def ZG (P:Program) (t:TypeId) (c:α->List TV) (o:α->Prop):Prop:=
 ∀{H:Type} (enc:TypeId×Value->H) (w:World) (d:Nat) (e:Nat) (cs:List Value) (x:DataW H×List MemPlace),DataW.trod enc P w d (λ_=>true) true e t cs=some x->
  ∃a U,o a/\B4 w (c a) cs [] U/\∀b∈U,b<w.heap.size
theorem Na {t:TV} (h:Cz w t v F U):B4 w [t] [v] F U:=by
 simp only [B4];exact⟨v,[],F,[],U,[],rfl,by simp,by simp,h,rfl,rfl,rfl⟩
theorem nS {k:IntKind} {t:TypeId} (ht:P.underlying t=some (.int k)):ZG P t (λn:Int=>[.int k n]) (λn=>k.min<=n/\n<=k.max):=by
 intro H enc w b a cs x h
 cases a with
 |zero=>simp [DataW.trod]at h
 |succ a=>
  simp only [DataW.trod,ht]at h;split at h<;>rename_i h1<;>try (first|(injection h1 with h1;cases h1;done)|(cases h1;done))
  all_goals first|(cases h;done)|skip
  rename_i k' n;split at h
  ·rename_i hk;simp only [Aj,TypeDesc.int.injEq]at h1;subst h1;obtain⟨rfl,hw⟩:=hk;simp only [Lit.wf,Al,A7]at hw;exact⟨n,[],hw,Na (by simp [Cz]),by simp⟩
  cases h
theorem eQ {t e:TypeId} {c:α->List TV} {o:α->Prop} (ht:P.underlying t=some (.slice e)) (q:P.cellsOf e=sz) (h0:0<sz) (hc:∀a,(c a).length=sz) (h:ZG P e c o):
  ZG P t (λl:List α=>[.sl false e sz (AR c l)]) (λl=>l.length<=9223372036854775807/\∀a∈l,o a):=by
 intro H enc w d h7 cs x hx
 rcases Go.Deep.open_slice ht hx with⟨rfl,_⟩|⟨a,len,cap,m,n,D,Pl,rfl,hb,f,r,hm,_,g⟩
 ·refine⟨[],[],⟨by simp,by simp⟩,Na ?_,by simp⟩;simp only [Cz];exact⟨none,0,0,[],[],[],rfl,A3 _,by simp,λi u hi=>by simp at hi,by simp [AR,B4],by simp,by simp,by simp⟩
 simp only [BX]at hm;have s:∀k,k<=len->∃(l:List α) (vs:List Value) (U:List Nat),l.length=k/\(∀a∈l,o a)/\vs.length=k*sz/\B4 w (AR c l) vs [] U/\(∀i u,vs[i]?=some u->w.cell? (a.add i)=some u)/\∀b∈U,b<w.heap.size:=by
  intro k
  induction k with
  |zero=>intro _;exact⟨[],[],[],rfl,by simp,by simp,by simp [AR,B4],by simp,by simp⟩
  |succ k ih=>
   intro hk;obtain⟨l,vs,U,h1,h2,h3,h4,h5,h6⟩:=ih (by omega);obtain⟨cs',k1,k2⟩:=g k (by omega);obtain⟨y,V,g1,g2,g3⟩:=h enc w d n cs' _ k2;obtain⟨_,k3,k4⟩:=World.cells?_some k1;rw [q]at k1 k3 k4;refine⟨l++ [y],vs++cs',U++V,by simp [h1],?_,?_,?_,?_,?_⟩
   ·intro a ha
    rcases Ai.1 ha with ha|ha
    ·exact h2 a ha
    rw [Ay.1 ha];exact g1
   ·rw [Ah,h3,k3,D7]
   ·rw [Qy];have:=HV h4 (show B4 w (AR c [y]) cs' [] V by simpa [AR]using g2);simpa using this
   ·intro i u hi;by_cases v:i<vs.length
    ·rw [AO v]at hi;exact h5 i u hi
    rw [AS (by omega)]at hi;have j:i-vs.length<sz:=by
     have:=(Ag.1 hi).1;omega
    have:=k4 (i-vs.length) j;rw [hi,TI.add_add]at this;rw [<-this];congr 2;omega
   intro b hb
   rcases Ai.1 hb with hb|hb
   ·exact h6 b hb
   exact g3 b hb
 obtain⟨l,vs,U,h1,h2,h3,h4,h5,h6⟩:=s len (A3 _);have h8:len<=9223372036854775807:=by simp only [maxLen]at r;omega
 by_cases z:len=0
 ·subst z;have:vs=[]:=A9 (by omega);subst this;refine⟨l,U,⟨by omega,h2⟩,Na ?_,h6⟩;simp only [Cz];exact⟨some a,0,cap,[],U,[],rfl,f,by simp,λi u hi=>by simp at hi,h4,by simp,by simp,by simp⟩
 have p:a.block<w.heap.size:=by
  obtain⟨cs',k1,_⟩:=g 0 (by omega);have:=World.cells?_block k1 (by omega)
  rwa [GG]at this
 refine⟨l,a.block::U,⟨by omega,h2⟩,Na ?_,?_⟩
 ·simp only [Cz];exact⟨some a,len,cap,vs,U,[a.block],rfl,f,h3,λi u hi=>⟨a,len,cap,rfl,h5 i u hi⟩,h4,by simp,.inl (by simp [Cg,Value.ownBlock]),by simp⟩
 intro b hb
 rcases BB.1 hb with rfl|hb
 ·exact p
 exact h6 b hb
theorem wI {u:α->TV} {H:Type} {d:DataW H} {ps:List MemPlace} {t:TypeId} {o:α->Prop} {enc:TypeId×Value->H} (h:ZG P t (λa=>[u a]) o) (hv:v.cells= #[v]) (k:DataW.Trod enc P w 0 (λ_=>true) true t v d ps):
  ∃a U,o a/\Vk w (.one (u a)) v [] U/\∀b∈U,b<w.heap.size:=by
 obtain⟨n,hn⟩:=k;obtain⟨a,U,h1,h2,h3⟩:=h enc w 0 n _ _ hn;rw [hv]at h2;simp only [B4]at h2;obtain⟨v',c,F1,F2,U1,U2,e,hF,hU,h4,rfl,rfl,rfl⟩:=h2
 injection e with e _
 subst e;obtain⟨rfl,_⟩:=IR.1 hF.symm;refine⟨a,U1,h1,?_,by simpa [hU]using h3⟩;simp only [Vk];exact⟨h4,hv⟩
theorem qX {r:Reach} {a:Nat} {t:TypeId} (h:Value.okWide P w r a t v) (h1:∀fs,P.underlying t≠some (.struct fs)) (h2:∀n e,P.underlying t≠some (.array n e)):v.cells= #[v]:=by
 unfold Value.okWide at h;split at h
 ·rename_i fs b;exact absurd b (h1 fs)
 ·rename_i n e c;exact absurd c (h2 n e)
 unfold Cell.okWide at h;cases v<;>first|rfl|skip
 all_goals
  split at h<;>rename_i hv<;>first|(cases hv;done)|skip
  unfold Cell.ok at h;split at h<;>first|(exact h.elim)|skip
 all_goals rename_i d;cases d
def St.without (E:St) (r:Root):St:={E with boxes:=Cn E.boxes r none,ver:=Cn E.ver r (E.ver r+1),gen:=Cn E.gen r (E.gen r+1)}
theorem ZJ {r s:Root} (h:s≠r):(E.without r).root s=E.root s:=by
 cases s<;>simp [St.without,St.root,Cn,h]
theorem CM.without {w0:Base} {a:Act} (h:CM w0 FA UA N w a E blk FS US) (hF:FS .hand=[]) (hU:US .hand=[]) {r:Root} (hm:r.mem=true):
  CM w0 FA UA N w a (E.without r) blk (Cn (Cn FS r []) .hand (FS r)) (Cn (Cn US r []) .hand (US r)):=by
 have c:r≠ .hand:=by rintro rfl;cases hm
 have d:∀s,Cr w w a a E (E.without r) blk blk s:=by
  intro s;by_cases hs:s=r
  ·subst hs;exact⟨.inl (by simp [St.without,Cn]),.inl (by simp [St.without,Cn])⟩
  by_cases hh:s= .hand
  ·subst hh;exact FC (by simp [St.without,Cn,hs]) (by simp [St.without,Cn,hs]) (by simp [St.root,h.nohand])
  exact DS h (by simp [St.without,Cn,hs]) (by simp [St.without,Cn,hs]) (ZJ hs) (λ_ _=>rfl) (λ_=>rfl) (λ_ _=>rfl) (λ_ _=>rfl)
 refine h.two (r1:=r) (r2:= .hand) (L1:=[]) (L2:=FS r) (V1:=[]) (V2:=US r) c (by simpa using h.nodup r) (λb hb=>⟨.inl (by simpa using hb),(h.inF r b (by simpa using hb)).2⟩)
  (λb hb=> .inl ⟨r,by simpa using hb⟩) (A3 _) rfl rfl rfl (λ_ _ _ _=>rfl) d (λn _ _=>⟨rfl,rfl⟩) (λs _ hs _=>⟨by simp [St.without,Cn,hs],rfl⟩) ?_ trivial ?_ h.len h.nodef
 ·cases r with
  |slot n=>cases hm
  |hand=>cases hm
  |box n=>exact .inl ⟨by simp [St.without,Cn],rfl,rfl⟩
  |ext n=>exact .inl ⟨by simp [St.without,Cn],rfl,rfl⟩
 simp [St.without,Cn,EL c,h.nohand]
theorem WS {a:Act}:∀{l:List (Bool×TypeId×Operand)},rL w a l (List.replicate l.length none) [] []
 |[]=>⟨rfl,rfl⟩
 |_::l=>WS (l:=l)
section
variable {w0:Base} {a:Act}
theorem fZ {f:FuncId} {x:Operand} {l:List (Bool×TypeId×Operand)} {n:Nat} {K:Act->World->Prop} {Q:Exit->Act->World->Prop} (h:CM w0 FA UA N w a E blk FS US) (hF:FS .hand=[]) (hU:US .hand=[]) {o:Oper} {args:Array Operand} {tys:Array TypeId} (ho:o.op= .call {callee:= .value (.func f),args:=args,argTypes:=tys}) (hf:Yp P f) (hN:∀d,o.dst=some d->d<N) (hl:x::l.map (λx=>x.2.2)=args.toList) {r:Root} (hm:r.mem=true) (hx:E.ptr? x=some (r,[],0)) {cells cells':List TV} (hc:E.boxes r=some cells) (c6:cells'.length=cells.length) {res:SV} {c:Bool} (b5:IC P (E.without r) l (List.replicate l.length none)=some (as,c)) (a3:c=true\/Bl res=false/\AI cells'=false) (hg:AM P f (.ext cells::as) res (.ext cells'::List.replicate n .gone)) (hK:∀w' v blk' FS' US',CM w0 FA UA N w' (a.put o.dst v) (((E.setRoot r cells').bump r).put o.dst res) blk' FS' US'->FS' .hand=[]->US' .hand=[]->K (a.put o.dst v) w'):o.wp P a w K Q:=by
 have a6:r≠ .hand:=by rintro rfl;cases hm
 have k2:=h.without hF hU hm;obtain⟨U',k5,k6⟩:=Kl k2 WS b5;have a7:∃i T F,w.heap[blk r]?=some (.cells i T (0,0))/\B4 w cells i.toList F (US r)/\FS r=blk r::F:=by
  rcases h.box r hm with⟨h1,_⟩|⟨cs,i,T,F,h1,h2,h3,h4⟩
  ·rw [hc]at h1;cases h1
  rw [hc]at h1;injection h1 with h1;subst h1;exact⟨i,T,F,h2,h3,h4⟩
 obtain⟨i,T,F,b2,b3,b4⟩:=a7;obtain⟨a8,ad,h9,a9⟩:=JP h hx;have b6:ad=⟨blk r,0,none⟩:=by
  cases r with
  |slot n=>cases hm
  |hand=>cases hm
  |box n=>simp [pa,Addr.add]at h9;exact h9.symm
  |ext n=>simp [pa,Addr.add]at h9;exact h9.symm
 subst b6;have b0:cells≠ []:=by
  rintro rfl
  cases r with
  |slot n=>cases hm
  |hand=>cases hm
  |box n=>simp [St.place,St.root,hc,BZ]at a8
  |ext n=>simp [St.place,St.root,hc,BZ]at a8
 have b1:a.eval x::l.map (λx=>a.eval x.2.2)=(args.map a.eval).toList:=by
  rw [Od,<-hl,B8,Fg];rfl
 have p:JX w (.ext cells::as) (args.map a.eval).toList (FS r++ []) (US r++U'):=by
  rw [<-b1];exact⟨_,_,FS r,[],US r,U',rfl,rfl,rfl,⟨blk r,i,T,F,a9,b2,b3,b4,b0⟩,k5⟩
 rw [A0]at p;have b7:∀s b,b∈Cn (Cn US r []) .hand (US r) s->∃s',b∈US s':=by
  intro s b hb;by_cases hs:s= .hand
  ·subst hs;rw [BT]at hb;exact⟨r,hb⟩
  rw [Bu hs]at hb;by_cases k:s=r
  ·subst k;rw [BT]at hb;cases hb
  rw [Bu k]at hb;exact⟨s,hb⟩
 have b8:∀s b,s≠ .hand->b∈Cn (Cn FS r []) .hand (FS r) s->s≠r/\b∈FS s:=by
  intro s b hs hb;rw [Bu hs]at hb;by_cases k:s=r
  ·subst k;rw [BT]at hb;cases hb
  rw [Bu k]at hb;exact⟨k,hb⟩
 have k6':∀b∈U',(∃s,b∈US s)\/(c=false/\∃s,s≠r/\b∈FS s):=by
  intro b hb
  rcases k6 b hb with h4|⟨s,h4⟩|⟨h5,s,h6,h4⟩
  ·cases h4
  ·exact .inl (b7 s b h4)
  exact .inr ⟨h5,s,b8 s b h6 h4⟩
 have a4:∀b∈FS r,b∉US r++U':=by
  intro b hb hb'
  rcases Ai.1 hb' with hb'|hb'
  ·exact h.disU r r b hb hb'
  rcases k6' b hb' with⟨s,h4⟩|⟨_,s,h5,h4⟩
  ·exact h.disU r s b hb h4
  exact h.dis r s (EL h5) b hb h4
 have t:=hg w _ (FS r) (US r++U') p (h.nodup r) a4 (by
  intro b hb
  rcases Ai.1 hb with hb|hb
  ·exact(h.inF r b hb).2
  rcases Ai.1 hb with hb|hb
  ·exact(h.inU r b hb).2
  rcases k6' b hb with⟨s,h4⟩|⟨_,s,h5,h4⟩
  ·exact(h.inU s b h4).2
  exact(h.inF s b h4).2)
 unfold Oper.wp;rw [HT ho hf];simp only [Oper.upon];rw [Ps]at t;refine Calls.mono t ?_;rintro e w' ⟨v,Fr,Ur,G,V,rfl,g⟩;have u:=g.fin;rw [<-b1]at u;simp only [JX]at u;obtain⟨v1,vs1,G1,G2,V1,V2,e1,rfl,rfl,⟨b,cur',T',F0,g1,g2,g3,rfl,g5⟩,a5⟩:=u;obtain⟨rfl,rfl⟩:=Si a5
 injection e1 with e1 e2
 rw [<-e1,a9]at g1
 injection g1 with g1
 injection g1 with g1
 injection g1 with g1
 subst g1;have m:=g.nodup;have a1:=g.dis;have z:=g.inF;have a2:=g.inU;simp only [A0]at m a1 z a2;have hV:∀b∈Ur++V1,(∃s,b∈US s)\/((b∈FS r\/w.heap.size<=b)/\b<w'.heap.size):=by
  intro b hb;obtain⟨h4,h5⟩:=a2 b hb
  rcases h4 with h4|h4|h4
  ·rcases Ai.1 h4 with h4|h4
   ·exact .inl ⟨r,h4⟩
   rcases k6' b h4 with h6|⟨h6,s,h7,h8⟩
   ·exact .inl h6
   rcases a3 with a3|⟨c1,c2⟩
   ·rw [a3]at h6;cases h6
   have n1:=PD g.res c1;have n2:=JO g3 c2;subst n1;subst n2;cases hb
  ·exact .inr ⟨.inl h4,h5⟩
  exact .inr ⟨.inr h4,h5⟩
 have a0:∀j,((E.setRoot r cells').bump r).place r [] j=cells'[j]? :=by
  intro j
  cases r with
  |slot n=>cases hm
  |hand=>cases hm
  |box n=>simp [St.place,St.bump,St.setRoot,St.root,Cn,BZ]
  |ext n=>simp [St.place,St.bump,St.setRoot,St.root,Cn,BZ]
 have h0:∀j,E.place r [] j=cells[j]? :=by
  intro j
  cases r with
  |slot n=>cases hm
  |hand=>cases hm
  |box n=>simp [St.place,St.root,hc,BZ]
  |ext n=>simp [St.place,St.root,hc,BZ]
 let E1:St:=(E.setRoot r cells').bump r
 have ev:∀s,s≠r->E1.ver s=E.ver s:=by
  intro s hs;cases r<;>simp [E1,St.bump,St.setRoot,Cn,hs]
 have evr:E1.ver r=E.ver r+1:=by cases r<;>simp [E1,St.bump,St.setRoot,Cn]
 have eg:∀s,E1.gen s=E.gen s:=by intro s;cases r<;>rfl
 have er:∀s,s≠r->E1.root s=E.root s:=by
  intro s hs
  cases r with
  |slot n=>cases hm
  |hand=>cases hm
  |box n=>cases s<;>simp [E1,St.bump,St.setRoot,St.root,Cn,hs]
  |ext n=>cases s<;>simp [E1,St.bump,St.setRoot,St.root,Cn,hs]
 have es:∀n,E1.slots n=E.slots n:=by
  intro n
  cases r with
  |slot n=>cases hm
  |hand=>cases hm
  |box n=>rfl
  |ext n=>rfl
 have eb:∀s,E1.boxes s=if s=r then some cells' else E.boxes s:=by
  intro s
  cases r with
  |slot n=>cases hm
  |hand=>cases hm
  |box n=>rfl
  |ext n=>rfl
 have c0:∀s,Cr w w' a a E E1 blk blk s:=by
  intro s;by_cases hs:s=r
  ·subst hs;refine⟨.inl (by rw [evr];omega),.inr ⟨eg s,λj ad hv hp=>?_⟩⟩;refine⟨(by cases s<;>first|exact hv|(cases hm)),?_⟩;rw [h0]at hp;rw [show E1.place s [] j=cells'[j]? from a0 j];have hj:j<cells.length:=by
    rcases Dc j cells.length with q|q
    ·exact q
    rw [D3 q]at hp;cases hp
   rw [Ab (by omega)];rfl
  by_cases hh:s= .hand
  ·subst hh;exact FC (ev _ hs) (eg _) (by simp [St.root,h.nohand])
  exact DS h (ev s hs) (eg s) (er s hs) (λ_ _=>rfl) (λ_=>rfl)
   (λb hb=>g.keep b (h.inF s b hb).2 (h.dis s r hs b hb)) (λb hb=>g.keep b (h.inU s b hb).2 (λe=>h.disU r s b e hb))
 have k7:=h.two (w':=w') (a':=a) (E':=E1) (blk':=blk) (r1:=r) (r2:= .hand) (L1:=blk r::F0) (L2:=Fr) (V1:=V1) (V2:=Ur) a6
  (by
   rw [Bo]at m⊢
   exact⟨m.2.1,m.1,λx hx y hy e=>m.2.2 y hy x hx e.symm⟩)
  (λb hb=>by
   obtain⟨q1,q2⟩:=z b (by
    rcases Ai.1 hb with hb|hb
    ·exact AK _ hb
    exact A8 _ hb)
   refine⟨?_,q2⟩
   rcases q1 with q1|q1
   ·exact .inl q1
   exact .inr (.inr q1))
  (λb hb=>by
   have hb':b∈Ur++V1:=by
    rcases Ai.1 hb with hb|hb
    ·exact AK _ hb
    exact A8 _ hb
   rcases hV b hb' with q|⟨q1,q2⟩
   ·exact .inl q
   refine .inr ⟨?_,λe=>?_,q2⟩
   ·rcases q1 with q1|q1
    ·exact .inl q1
    exact .inr (.inr q1)
   refine a1 b ?_ hb'
   rcases Ai.1 e with e|e
   ·exact AK _ e
   exact A8 _ e)
  g.size g.os g.tape g.output (λb hb q _=>g.keep b hb q) c0 (λn _ _=>⟨es n,rfl⟩) (λs _ hs _=>⟨by rw [eb,Ax hs],rfl⟩)
  (by
   have:G6 w' a E1 blk r (blk r::F0) V1:=by
    have:=eb r;rw [Au rfl]at this
    cases r with
    |slot n=>cases hm
    |hand=>cases hm
    |box n=>exact .inr ⟨cells',cur',T',F0,this,g2,g3,rfl⟩
    |ext n=>exact .inr ⟨cells',cur',T',F0,this,g2,g3,rfl⟩
   exact this)
  trivial (by rw [eb,Ax (EL a6)];exact h.nohand) h.len h.nodef (hfz:=by
   intro n hn;have e:((E.setRoot r cells').bump r).fz=E.fz:=by rw [Pj,HJ]
   exact h.frz n (e▸hn)) (hamb:=by show((E.setRoot r cells').bump r).amb=E.amb;rw [JW,Eb])
 have kh:(Cn (Cn FS r (blk r::F0)) .hand Fr) .hand=Fr:=BT _ _ _;have kh2:(Cn (Cn US r V1) .hand Ur) .hand=Ur:=BT _ _ _
 cases hd:o.dst with
 |some d=>
  obtain⟨FS',US',q1,q2,q3⟩:=k7.land (w':=w') (d:=d) (s:=res) (v:=v) (F:=Fr) (U:=Ur) (hN d hd) (Mj g.res) (Bo.1 m).1
   (λb hb=>⟨.inl (by rw [kh];exact hb),(z b (A8 _ hb)).2⟩) (λb hb=> .inl ⟨.hand,by rw [kh2];exact hb⟩) (A3 _) rfl rfl rfl (λ_ _ _=>rfl)
  have:=hK w' v blk FS' US' (by rw [hd];exact q1) q2 q3;rw [hd]at this;exact this
 |none=>
  obtain⟨FS',US',q1,q2,q3⟩:=k7.drop (w':=w') (A3 _) rfl rfl rfl (λ_ _ _=>rfl);have:=hK w' v blk FS' US' (by rw [hd];exact q1) q2 q3;rw [hd]at this;exact this
end
theorem Xi {f:FuncId} (A:Nat->P2) (hA:∀b,(A b).B=[]/\(∀w,(A b).I w)/\∀c,(A b).pin=some c->c=b) {c:Code} {cells cells':List TV} {res:SV} (hf:P.funcs[f]?=some fn) (hb:fn.body=some c) (h:∀b,Wp P fn.ntmps c (DA (.ext cells::as) (A b)) λe E=>(e= .normal\/e= .ret)/\∃ss E',DO P E fn.results.toList=some (ss,E')/\Ev ss=res/\E'.boxes (.ext 0)=some cells') (m:cells'.isEmpty=false):
  AM P f (.ext cells::as) res (.ext cells'::List.replicate as.length .gone):=by
 intro w vs FA UA ha o k p;have ha':=ha;obtain⟨v0,vs0,F1,F2,U1,U2,rfl,rfl,rfl,⟨b0,cur0,T0,F0,rfl,_,_,rfl,_⟩,r⟩:=ha;obtain⟨blk,FS,US,hr,hF,hU⟩:=Q5 (N:=fn.ntmps) ha' o k p (A:=A b0) ((hA b0).2.1 w) (λb hb=>by rw [(hA b0).1]at hb;cases hb) (hpin:=λc hc=>((hA b0).2.2 c hc).symm);refine calls_of_wp hf hb (wp_mono (h b0 _ _ _ _ _ _ _ _ hr hF hU) ?_);rintro e a w' ⟨E,blk',FS',US',⟨he,ss,E',h1,rfl,i⟩,h2,h3,h4⟩;obtain⟨us,FS2,US2,F,U,k1,k2,k3,k4,k5⟩:=Li h2 h1;rw [h3,A5]at k4;rw [h4,A5]at k5;have j:∀(n:Nat) (vs:List Value),vs.length=n->JX w' (List.replicate n .gone) vs [] []:=by
  intro n
  induction n with
  |zero=>intro vs hv;simp at hv;subst hv;exact⟨rfl,rfl,rfl⟩
  |succ n ih=>
   intro vs hv
   cases vs with
   |nil=>simp at hv
   |cons v vs=>exact⟨v,vs,[],[],[],[],rfl,rfl,rfl,⟨rfl,rfl⟩,ih vs (by simpa using hv)⟩
 have s:vs0.length=as.length:=by
  obtain⟨_,_,_,_,h5,_⟩:=Rm r;exact h5
 have l:blk' (.ext 0)=b0:=by
  rw [k3.xblk];rfl
 obtain⟨d,T,F3,b2,b3,b4⟩:∃d T F3,w'.heap[b0]?=some (.cells d T (0,0))/\B4 w' cells' d.toList F3 (US2 (.ext 0))/\FS2 (.ext 0)=b0::F3:=by
  rcases k3.box (.ext 0) rfl with⟨q,_⟩|⟨cs,d,T,F3,q1,q2,q3,q4⟩
  ·rw [i]at q;cases q
  rw [i]at q1
  injection q1 with q1
  subst q1;rw [l]at q2 q4;exact⟨d,T,F3,q2,q3,q4⟩
 have hne':cells'≠ []:=by rintro rfl;cases m
 have g:a.defers=[]/\∃v,(results fn a.tmps).run P w'= .ok v w'/\∃v' F U G V,Ending.returned v= .returned v'/\tQ w w' ((b0::F0)++F2) (U1++U2) (Ev ss) (.ext cells'::List.replicate as.length .gone) (.pointer (some ⟨b0,0,none⟩)::vs0) v' F U G V:=by
  refine⟨h2.nodef,_,MZ k1,_,F,U,FS2 (.ext 0),US2 (.ext 0),rfl,?_⟩
  exact{
   res:=Qc k2
   fin:=⟨_,vs0,FS2 (.ext 0),[],US2 (.ext 0),[],rfl,by simp,by simp,⟨b0,d,T,F3,rfl,b2,b3,b4,hne'⟩,j _ _ s⟩
   nodup:=by
    rw [<-k4,Bo];exact⟨k3.nodup _,k3.nodup _,λx hx y hy e=>k3.dis .hand (.ext 0) (by simp) x hx (e▸hy)⟩
   dis:=by
    intro b hb hb';rw [<-k4]at hb;rw [<-k5]at hb'
    rcases Ai.1 hb with hb|hb<;>rcases Ai.1 hb' with hb'|hb'
    ·exact k3.disU .hand .hand b hb hb'
    ·exact k3.disU .hand (.ext 0) b hb hb'
    ·exact k3.disU (.ext 0) .hand b hb hb'
    exact k3.disU (.ext 0) (.ext 0) b hb hb'
   inF:=by
    intro b hb;rw [<-k4]at hb
    rcases Ai.1 hb with hb|hb
    ·exact k3.inF .hand b hb
    exact k3.inF (.ext 0) b hb
   inU:=by
    intro b hb;rw [<-k5]at hb
    rcases Ai.1 hb with hb|hb
    ·exact k3.inU .hand b hb
    exact k3.inU (.ext 0) b hb
   os:=k3.os
   tape:=k3.tape
   output:=k3.output
   size:=k3.size
   keep:=λb hb hF=>k3.keep b hb hF (λe=>by rw [show b∈(A b0).B↔b∈([]:List Nat) by rw [(hA b0).1]]at e;cases e)}
 rcases he with rfl|rfl
 ·exact g
 exact g
theorem oO {f:FuncId} {c:Code} {a cells':List TV} {b:SV} (hf:P.funcs[f]?=some fn) (hb:fn.body=some c) (h:Wp P fn.ntmps c (DA (.ext a::as)) λe E=>(e= .normal\/e= .ret)/\∃ss E',DO P E fn.results.toList=some (ss,E')/\Ev ss=b/\E'.boxes (.ext 0)=some cells') (d:cells'.isEmpty=false):
 AM P f (.ext a::as) b (.ext cells'::List.replicate as.length .gone):=Xi (λ_=>P2.none) (λ_=>⟨rfl,λ_=>trivial,λ_ h=>by cases h⟩) hf hb (λ_=>h) d
def eN (b:Nat):P2:={P2.none with pin:=some b}
theorem uZ (b:Nat):(eN b).B=[]/\(∀w,(eN b).I w)/\∀c,(eN b).pin=some c->c=b:=⟨rfl,λ_=>trivial,λc h=>by injection h with h;exact h.symm⟩
theorem ABd {k:IntKind} {len:Nat} {o:Oper} {m:Nat} (r:Root) (q:List Nat) (j:Nat) (hn:n=(m:Int)) {t e:TypeId} {a i:Operand} (ho:o.op= .indexAddr t a i:=by rfl) (ht:P.underlying t=some (.array len e):=by rfl) (hi:E.cell1 P 0 i=some (.int k n):=by rfl) (hp:E.ptr? a=some (r,q,j):=by rfl) (hc:P.cellsOf e=1:=by rfl) (hl:Nat.blt m len=true:=by rfl) (hs:(E.place r q (j+m)).isSome=true:=by rfl):Bh P E o=some (.one (.ptr r (E.stamp r q) q (j+m))):=by
 subst hn;have hl':m<len:=by simpa [Bn]using hl
 simp only [Bh,ho,ht,hi,hp,hc,Ba,So];rw [Au ⟨by omega,by omega,by omega,hs⟩]
def HC (l:List Int):ByteArray:=strOfNums l
theorem Tz {f:Int->List TV} (hf:∀n,f n=[.int .u8 n]):∀l,Nn (AR f l)=some l
 |[]=>rfl
 |n::l=>by
  have:AR f (n::l)=f n++AR f l:=by simp [AR]
  rw [this,hf];simp only [BS,Nn,Tz hf l,B5]
theorem ABj {f:Int->List TV} {x:Operand} {o:Oper} (hf:∀n,f n=[.int .u8 n]) (l:List Int) {s d e e':TypeId} {a:Bool} {r:Root} (ho:o.op= .convert s d x:=by rfl) (hs:P.underlying s=some (.slice e):=by rfl) (hd:P.underlying d=some .string:=by rfl) (he:P.underlying e=some (.int .u8):=by rfl) (hr:E.ref x=some (r,q,j):=by rfl) (hp:E.place r q j=some (.sl a e' 1 (AR f l)):=by rfl):Bh P E o=some (.one (.str (HC l))):=by
 simp only [Bh,ho,hs,hd,he,hr,hp,BX,Tz hf,B5];rfl
def shl (k:IntKind) (a b:Int):Option Int:=if b<0 then none else some (k.wrap (a*2^(min b.toNat k.bits)))
theorem AAr {k:IntKind} {x y:Operand} {o:Oper} {a b v:Int} (h:shl k a b=some v) {t t2:TypeId} (ho:o.op= .binOp .shl t x y t2:=by rfl) (hx:E.cell1 P t x=some (.int k a):=by rfl) (hy:E.cell1 P t y=some (.int k2 b):=by rfl):Bh P E o=some (.one (.int k v)):=by
 unfold shl at h;split at h
 ·cases h
 rename_i hb
 injection h with h
 subst h;simp only [Bh,ho,hx,hy,Uo,BX,Ve,Ax hb,B5]
def dr (l:List α) (lo hi:Int):Option (List α):=if 0<=lo/\lo<=hi/\hi<=l.length then some ((l.drop lo.toNat).take (hi.toNat-lo.toNat))else none
theorem Ui (hf:∀x,(f x).length=sz):∀(l:List α) (n:Nat),(AR f l).take (n*sz)=AR f (l.take n)
 |l,0=>by simp [AR]
 |[],n+1=>by simp [AR]
 |x::l,n+1=>by
  have h1:AR f (x::l)=f x++AR f l:=by simp [AR]
  have h2:AR f (x::l.take n)=f x++AR f (l.take n):=by simp [AR]
  rw [h1,D7,Vw,Uv,hf x,Nat.add_sub_cancel_left,Ui hf l n,Lu,h2,AP (by rw [hf x];omega)]
theorem ABi {v:List α} {x oh:Operand} {o:Oper} (hf:∀x,(f x).length=sz) {a b:Int} (h:dr l a b=some v) {t e e':TypeId} {r:Root} (ho:o.op= .slice t x lo (some oh) none:=by rfl) (ht:P.underlying t=some (.slice e):=by rfl) (hr:E.ref x=some (r,q,j):=by rfl) (hp:E.place r q j=some (.sl false e' sz (AR f l)):=by rfl) (hl:(match lo with|some o=>E.cell1 P 0 o|none=>some (.int .i64 0))=some (.int k1 a):=by rfl) (hh:E.cell1 P 0 oh=some (.int k2 b):=by rfl) (c:P.cellsOf e=sz:=by rfl) (h0:Nat.blt 0 sz=true:=by rfl):Bh P E o=some (.one (.sl false e' sz (AR f v))):=by
 have h0':0<sz:=by simpa [Bn]using h0
 unfold dr at h;split at h
 ·rename_i hc
  injection h with h
  subst h;have hl':∀lo':Option TV,lo'=some (.int k1 a)->(match lo',E.cell1 P 0 oh with|some (.int _ l0),some (.int _ h0)=>if sz=P.cellsOf e/\0<sz/\0<=l0/\l0<=h0/\h0.toNat*sz<=(AR f l).length then some (SV.one (.sl false e' sz (((AR f l).drop (l0.toNat*sz)).take ((h0.toNat-l0.toNat)*sz))))else none|_,_=>none)=some (SV.one (.sl false e' sz (AR f ((l.drop a.toNat).take (b.toNat-a.toNat))))):=by
   rintro _ rfl;rw [hh];simp only;rw [Au ⟨c.symm,h0',hc.1,hc.2.1,by rw [EK hf];exact BC _ (by omega)⟩,J6 hf,Ui hf]
  simp only [Bh,ho,ht,hr,hp];exact hl' _ hl
 cases h
theorem AAu {v:List α} {x:Operand} {o:Oper} (hf:∀x,(f x).length=sz) {a:Int} (h:dr l a (ln l)=some v) {t e e':TypeId} {r:Root} (ho:o.op= .slice t x lo none none:=by rfl) (ht:P.underlying t=some (.slice e):=by rfl) (hr:E.ref x=some (r,q,j):=by rfl) (hp:E.place r q j=some (.sl false e' sz (AR f l)):=by rfl) (hl:(match lo with|some o=>E.cell1 P 0 o|none=>some (.int .i64 0))=some (.int k1 a):=by rfl) (c:P.cellsOf e=sz:=by rfl) (h0:Nat.blt 0 sz=true:=by rfl):Bh P E o=some (.one (.sl false e' sz (AR f v))):=by
 have h0':0<sz:=by simpa [Bn]using h0
 have b:(AR f l).length/sz=l.length:=by rw [EK hf];exact EU _ h0'
 unfold dr at h;split at h
 ·rename_i hc
  injection h with h
  subst h;simp only [ln]at hc⊢;have hl':∀lo':Option TV,lo'=some (.int k1 a)->(match lo',some (TV.int .i64 (((AR f l).length/sz:Nat):Int))with|some (.int _ l0),some (.int _ h0)=>if sz=P.cellsOf e/\0<sz/\0<=l0/\l0<=h0/\h0.toNat*sz<=(AR f l).length then some (SV.one (.sl false e' sz (((AR f l).drop (l0.toNat*sz)).take ((h0.toNat-l0.toNat)*sz))))else none|_,_=>none)=some (SV.one (.sl false e' sz (AR f ((l.drop a.toNat).take (((l.length:Nat):Int).toNat-a.toNat))))):=by
   rintro _ rfl;rw [b];simp only;rw [Au ⟨c.symm,h0',hc.1,hc.2.1,by rw [EK hf];exact BC _ (by omega)⟩,J6 hf,Ui hf]
  simp only [Bh,ho,ht,hr,hp];exact hl' _ hl
 cases h
theorem cL {x y:Option β} {G:Prop} {b:Bool} {r:β} (h:(bif b then x else y)=some r) (h1:b=true->x=some r->G) (h2:y=some r->G):G:=by
 cases b with
 |true=>exact h1 rfl h
 |false=>exact h2 h
def iD (b:ByteArray):List Int:=b.data.toList.map λc=>(c.toNat:Int)
def aps (l:List Int) (b:ByteArray):Option (List Int):=if l.length+b.size<=140737488355328 then some (l++iD b)else none
theorem Uy {f:Int->List TV} (hf:∀n,f n=[.int .u8 n]) (b:ByteArray):TF b=AR f (iD b):=by
 unfold TF iD
 induction b.data.toList with
 |nil=>rfl
 |cons c l ih=>
  have e:∀(x:Int) (m:List Int),AR f (x::m)=f x++AR f m:=λx m=>by simp [AR]
  rw [B8,B8,e,hf,ih];rfl
theorem AA7 {o:Oper} {f:Int->List TV} {x:Operand} (hf:∀n,f n=[.int .u8 n]) {b:ByteArray} {src dst e:TypeId} (ho:o.op= .convert src dst x:=by rfl) (hd:o.dst=some d:=by rfl) (hN:Nat.blt d N=true:=by rfl) (hs:P.underlying src=some .string:=by rfl) (a:P.underlying dst=some (.slice e):=by rfl) (hx:E.cell1 P src x=some (.str b):=by rfl) (c:fB P e=true:=by rfl):C4 P N false E o=some (E.put (some d) (.one (.sl false e 1 (AR f (iD b))))):=by
 have hN':d<N:=by simpa [Bn]using hN
 unfold C4;rw [hd];simp only [Au hN',ho,Rh,hs,a,hx];rw [Au c,Uy hf]
structure GJ (w w':World) (B:List Nat):Prop where
 os:w'.os=w.os
 tape:w'.tape=w.tape
 output:w'.output=w.output
 size:w.heap.size<=w'.heap.size
 keep:∀b,b<w.heap.size->b∉B->w'.heap[b]?=w.heap[b]?
theorem CM.beside {w0:Base} {a:Act} (h:CM w0 FA UA N w a E blk FS US) (hb:GJ w w' w0.B) (hB:A'.B=E.amb.B) (hI:A'.I w') (hP:∀b,A'.pin=some b->E.amb.pin=some b):CM w0 FA UA N w' a {E with amb:=A'} blk FS US:=by
 have hF:∀r,∀b∈FS r,w'.heap[b]?=w.heap[b]? :=λr b hx=>hb.keep b (h.inF r b hx).2 (λe=>by
  obtain⟨h1,h2,h3⟩:=h.ambF b e
  rcases(h.inF r b hx).1 with h4|h4
  ·exact h2 h4
  omega)
 have hU:∀r,∀b∈US r,w'.heap[b]?=w.heap[b]? :=λr b hx=>hb.keep b (h.inU r b hx).2 (λe=>by
  obtain⟨h1,h2,h3⟩:=h.ambF b e
  rcases(h.inU r b hx).1 with h4|h4|h4
  ·exact h3 h4
  ·exact h2 h4
  omega)
 have c:∀s,Cr w w' a a E {E with amb:=A'} blk blk s:=λs=>
  DS h rfl rfl (by cases s<;>rfl) (λ_ _=>rfl) (λ_=>rfl) (hF s) (hU s)
 have hr:∀r,G6 w' a {E with amb:=A'} blk r (FS r) (US r):=λr=>
  PU c (h.root r) (λn _=>⟨rfl,rfl⟩) (λ_=>⟨rfl,rfl⟩) (hF r) (hU r)
 constructor
 ·exact λn=>hr (.slot n)
 ·intro r hm
  cases r with
  |slot n=>cases hm
  |hand=>cases hm
  |box n=>exact hr (.box n)
  |ext n=>exact hr (.ext n)
 ·exact h.nohand
 ·exact h.nodup
 ·exact h.dis
 ·exact h.disU
 ·exact λr b hx=>⟨(h.inF r b hx).1,Bb (h.inF r b hx).2 hb.size⟩
 ·exact λr b hx=>⟨(h.inU r b hx).1,Bb (h.inU r b hx).2 hb.size⟩
 ·exact h.disA
 ·exact hb.os.trans h.os
 ·exact hb.tape.trans h.tape
 ·exact hb.output.trans h.output
 ·exact H7 h.size hb.size
 ·exact λb h1 h2 h3=>(hb.keep b (Bb h1 h.size) h3).trans (h.keep b h1 h2 h3)
 ·exact h.len
 ·exact h.nodef
 ·exact h.xblk
 ·rw [hB];exact h.ambB
 ·exact hI
 ·exact h.frz
 ·exact h.ambF
 exact λb hp=>h.pin b (hP b hp)
def L9 (P:Program) (f:FuncId) (A:P2) (as:List AV) (A':P2):Prop:=
 ∀(w:World) (vs:List Value),JX w as vs [] []->(∀b∈A.B,b<w.heap.size)->A.I w->Calls P f vs.toArray w λe w'=>e= .returned (.tuple #[])/\GJ w w' A.B/\A'.I w'
theorem oP {f:FuncId} {c:Code} (hf:P.funcs[f]?=some fn) (hb:fn.body=some c) (hr:fn.results= #[]) (hp:A.pin=none) (h:Wp P fn.ntmps c (DA as A) λe E=>(e= .normal\/e= .ret)/\E.amb=A'):L9 P f A as A':=by
 intro w vs ha hB hA;obtain⟨blk,FS,US,g,hF,hU⟩:=Q5 (N:=fn.ntmps) ha C0 (by simp) (by simp) (A:=A) hA (λb hb=>⟨hB b hb,by simp,by simp⟩) (hpin:=λb h=>by rw [hp]at h;cases h);refine calls_of_wp hf hb (wp_mono (h _ _ _ _ _ _ _ _ g hF hU) ?_);rintro e a w' ⟨E,blk',FS',US',⟨he,rfl⟩,h2,h3,h4⟩;have i:(results fn a.tmps).run P w'= .ok (.tuple #[]) w':=by
  rw [WG (P:=P),hr];simp
 have d:a.defers=[]/\∃v,(results fn a.tmps).run P w'= .ok v w'/\Ending.returned v= .returned (.tuple #[])/\GJ w w' A.B/\E.amb.I w':=
  ⟨h2.nodef,_,i,rfl,⟨h2.os,h2.tape,h2.output,h2.size,λb h5 h6=>h2.keep b h5 (by simp) h6⟩,h2.ambI⟩
 rcases he with rfl|rfl
 ·exact d
 exact d
theorem PF {w0:Base} {a:Act} {blk:Root->Nat} (h:CM w0 FA UA N w a E blk FS US) (hF:FS .hand=[]) (hU:US .hand=[]) (hd:d<N) {s:SV} (hb:GJ w w' w0.B) (hB:A'.B=E.amb.B) (hI:A'.I w') (hs:Vk w' s v [] []) (hP:∀b,A'.pin=some b->E.amb.pin=some b):
  ∃FS' US',CM w0 FA UA N w' (a.put (some d) v) (({E with amb:=A'}:St).put (some d) s) blk FS' US'/\FS' .hand=[]/\US' .hand=[]:=by
 have k:=h.beside hb hB hI hP;exact k.land (w':=w') (F:=[]) (U:=[]) hd (Mj hs) C0 (by simp) (by simp) (A3 _) rfl rfl rfl (λ_ _ _=>rfl)
theorem zV {rr : β} {x : Option α} {k : α → Option β} {f : FuncId} {l : List AV} (h : x.bind k = some rr) (d : Nat) (Am : α → P2) {args : Array Operand} {tys : Array TypeId} (ho : oo.op = .call { callee := .value (.func f), args := args, argTypes := tys }) (hA : E.amb = A) (hB : ∀ v, (Am v).B = A.B ∧ (Am v).pin = none) (m : IC P E ((tys.toList.zip args.toList).map fun (t, x) => (false, t, x)) (List.replicate args.size none) = some (l, true)) (n : ∀ w vs F U, JX w l vs F U → F = [] ∧ U = []) (o : ∀ v, x = some v → L9 P f A l (Am v)) (hk : ∀ v, x = some v → k v = some rr → GX P N ops rest (({ E with amb := Am v } : St).put (some d) (.tup [])) Q) (hf : P.funcs[f]? = some fn := by rfl) (hn : (fn.name == "runtime.NumGoroutine") = false := by rfl) (hb : fn.body.isNone = false := by rfl) (hd : oo.dst = some d := by rfl) (hN : Nat.blt d N = true := by rfl) (hz : tys.size = args.size := by rfl) (hg : BE P ops E oo = some true := by rfl) : GX P N ops (oo :: rest) E Q := by
 obtain⟨v,hv,h⟩:=Ar.1 h;have hN':d<N:=by simpa [Bn]using hN
 intro w0 FA UA w a blk FS US hr hF hU;simp only [wpList,Co hr hg,BX];refine .inl ?_;have i:((tys.toList.zip args.toList).map λ(t,x)=>(false,t,x)).length=args.size:=by simp [hz]
 obtain⟨U',k5,k6⟩:=Kl hr (WS (l:=(tys.toList.zip args.toList).map λ(t,x)=>(false,t,x))) (by rw [i];exact m);have p:((tys.toList.zip args.toList).map λ(t,x)=>(false,t,x)).map (λx=>a.eval x.2.2)=(args.map a.eval).toList:=by
  rw [Od,Fg];have:((λx:Bool×TypeId×Operand=>a.eval x.2.2)∘λ(x:TypeId×Operand)=>(false,x.1,x.2))=a.eval∘Prod.snd:=rfl;refine(Ca (λg=>List.map g (tys.toList.zip args.toList)) this).trans ?_;rw [<-Fg,List.map_snd_zip (by simp [hz])]
 rw [p]at k5;obtain⟨_,rfl⟩:=n _ _ _ _ k5;have j:w0.B=A.B:=hr.ambB.trans (by rw [hA])
 have c:=o v hv w _ k5 (λb hb=>by
  rw [<-j]at hb
  exact Bb (hr.ambF b hb).1 hr.size) (by rw [<-hA];exact hr.ambI)
 unfold Oper.wp;rw [HT ho ⟨fn,hf,by intro e;rw [e]at hn;simp at hn,hb⟩];simp only [Oper.upon];rw [Ps]at c;refine Calls.mono c ?_;rintro e w' ⟨rfl,q,hI⟩;obtain⟨FS',US',q1,q2,q3⟩:=PF (s:= .tup []) (v:= .tuple #[]) hr hF hU hN' (by rw [j];exact q) (by rw [(hB _).1,hA]) hI ⟨[],rfl,rfl,rfl,rfl⟩ (λb hb=>by rw [(hB _).2]at hb;cases hb);rw [hd];exact hk v hv h _ _ _ _ _ _ _ _ q1 q2 q3
def Jf (P:Program) (Am:List γ->P2) (lt:γ->γ->Bool) (g:FuncId) (cap:Array Value):Prop:=
 (∀(args:Array Value) (w:World),(callFunc g args).run P w= .ok (.enter g args) w)/\∀(l:List γ) (i j:Int) (x y:γ),gi l i=some x->gi l j=some y->∀w,(Am l).I w->(∀b∈(Am l).B,b<w.heap.size)->Calls P g (#[.int .i64 i,.int .i64 j]++cap) w λe w'=>e= .returned (.bool (lt x y))/\GJ w w' (Am l).B/\(Am l).I w'
def L7 (P:Program) (Am:List γ->P2) (sf:FuncId) (cap:Array Value):Prop:=
 ∀(l:List γ) (i j:Int) (x y:γ),gi l i=some x->gi l j=some y->∀w,(Am l).I w->(∀b∈(Am l).B,b<w.heap.size)->∃w',(callFunc sf (#[.int .i64 i,.int .i64 j]++cap)).run P w= .ok (.value (.tuple #[])) w'/\GJ w w' (Am l).B/\(Am (si (si l i y) j x)).I w'
theorem SK {a:Act} {o:Oper} {t:Nat} {args:Array Operand} {tys:Array TypeId} {cap:Array Value} (ho:o.op= .call {callee:= .value (.tmp t),args:=args,argTypes:=tys}) (hv:a.eval (.tmp t)= .func (.func g) #[] cap):
  (execOp a.eval o).run P w=(callFunc g (args.map a.eval++cap)).run P w:=by
 simp [execOp,ho,resolve,hv,Deferred.ofValue,invoke]
theorem sM {f:Fn} {w0:Base} {a:Act} {blk:Root->Nat} (h:CM w0 FA UA N w a E blk FS US) {t:Nat} {ta cap:Array Value} (hs:E.slots t= .one (.fn f ta cap)):a.eval (.tmp t)= .func f ta cap:=by
 have:=h.slot t;rw [hs]at this;simp only [Ep,CS,Cz]at this;exact this.1.1
theorem zU {l:List γ} {x y:γ} {j:Int} {cap:Array Value} (c:Jf P Am lt g cap) (hx:gi l i=some x) (hy:gi l j=some y) (d:Nat) {t:Nat} {tys:Array TypeId} (hk:GX P N ops rest (E.put (some d) (.one (.bool (lt x y)))) Q) (hA:E.amb=Am l:=by rfl) (ho:oo.op= .call {callee:= .value (.tmp t),args:= #[o1,o2],argTypes:=tys}:=by rfl) (hs:E.slots t= .one (.fn (.func g) #[] cap):=by rfl) (h1:E.cell1 P 0 o1=some (.int .i64 i):=by rfl) (h2:E.cell1 P 0 o2=some (.int .i64 j):=by rfl) (hd:oo.dst=some d:=by rfl) (hN:Nat.blt d N=true:=by rfl) (hg:BE P ops E oo=some true:=by rfl):GX P N ops (oo::rest) E Q:=by
 have hN':d<N:=by simpa [Bn]using hN
 intro w0 FA UA w a blk FS US hr hF hU;simp only [wpList,Co hr hg,BX];refine .inl ?_;have h:w0.B=(Am l).B:=hr.ambB.trans (by rw [hA])
 have m:∀b∈(Am l).B,b<w.heap.size:=λb hb=>by
  rw [<-h]at hb;exact Bb (hr.ambF b hb).1 hr.size
 have hI:(Am l).I w:=by rw [<-hA];exact hr.ambI
 have f:=c.2 l i j x y hx hy w hI m;unfold Oper.wp;have e1:=Dm hr h1;have e2:=Dm hr h2;have k:(execOp a.eval oo).run P w= .ok (.enter g (#[.int .i64 i,.int .i64 j]++cap)) w:=by
  rw [SK ho (sM hr hs)];rw [c.1];simp [e1,e2]
 rw [k];simp only [Oper.upon];refine Calls.mono f ?_;rintro e w' ⟨rfl,n,hI'⟩
 obtain⟨FS',US',q1,q2,q3⟩:=PF (A':=E.amb) (s:= .one (.bool (lt x y))) (v:= .bool (lt x y)) hr hF hU hN' (by rw [h];exact n) rfl (by
  rw [hA]
  exact hI') ⟨⟨rfl,rfl,rfl⟩,rfl⟩ (λ_ hb=>hb)
 rw [hd];exact hk _ _ _ _ _ _ _ _ q1 q2 q3
theorem zR {l:List γ} {x y:γ} {j:Int} {cap:Array Value} (c:L7 P Am sf cap) (hB:∀l l',(Am l).B=(Am l').B/\(Am l).pin=none) (hx:gi l i=some x) (hy:gi l j=some y) (d:Nat) {t:Nat} {tys:Array TypeId} (hk:GX P N ops rest (({E with amb:=Am (si (si l i y) j x)}:St).put (some d) (.tup [])) Q) (hA:E.amb=Am l:=by rfl) (ho:oo.op= .call {callee:= .value (.tmp t),args:= #[o1,o2],argTypes:=tys}:=by rfl) (hs:E.slots t= .one (.fn (.func sf) #[] cap):=by rfl) (h1:E.cell1 P 0 o1=some (.int .i64 i):=by rfl) (h2:E.cell1 P 0 o2=some (.int .i64 j):=by rfl) (hd:oo.dst=some d:=by rfl) (hN:Nat.blt d N=true:=by rfl) (hg:BE P ops E oo=some true:=by rfl):GX P N ops (oo::rest) E Q:=by
 have hN':d<N:=by simpa [Bn]using hN
 intro w0 FA UA w a blk FS US hr hF hU;simp only [wpList,Co hr hg,BX];refine .inl ?_;have f:w0.B=(Am l).B:=hr.ambB.trans (by rw [hA])
 have h:∀b∈(Am l).B,b<w.heap.size:=λb hb=>by
  rw [<-f]at hb;exact Bb (hr.ambF b hb).1 hr.size
 have hI:(Am l).I w:=by rw [<-hA];exact hr.ambI
 obtain⟨w',e,k,hI'⟩:=c l i j x y hx hy w hI h;unfold Oper.wp;have e1:=Dm hr h1;have e2:=Dm hr h2;have g:(execOp a.eval oo).run P w= .ok (.value (.tuple #[])) w':=by
  rw [SK ho (sM hr hs)];simpa [e1,e2]using e
 rw [g];rw [Oper.upon_value];obtain⟨FS',US',q1,q2,q3⟩:=PF (s:= .tup []) (v:= .tuple #[]) hr hF hU hN' (by rw [f];exact k) (by rw [hA];exact(hB _ _).1) hI' ⟨[],rfl,rfl,rfl,rfl⟩ (λb hb=>by rw [(hB _ []).2]at hb;cases hb);rw [hd];exact hk _ _ _ _ _ _ _ _ q1 q2 q3
def pE (l:List γ) (i j:Int):Option (γ×γ):=(gi l i).bind λx=>(gi l j).bind λy=>some (x,y)
theorem wQ {rr:β} {l:List γ} {j:Int} {k:γ×γ->Option β} {cap:Array Value} (a:Jf P Am lt g cap) (h:(pE l i j).bind k=some rr) (d:Nat) {t:Nat} {tys:Array TypeId} (hk:∀v,k v=some rr->GX P N ops rest (E.put (some d) (.one (.bool (lt v.1 v.2)))) Q) (hA:E.amb=Am l:=by rfl) (ho:oo.op= .call {callee:= .value (.tmp t),args:= #[o1,o2],argTypes:=tys}:=by rfl) (hs:E.slots t= .one (.fn (.func g) #[] cap):=by rfl) (h1:E.cell1 P 0 o1=some (.int .i64 i):=by rfl) (h2:E.cell1 P 0 o2=some (.int .i64 j):=by rfl) (hd:oo.dst=some d:=by rfl) (hN:Nat.blt d N=true:=by rfl) (hg:BE P ops E oo=some true:=by rfl):GX P N ops (oo::rest) E Q:=by
 obtain⟨v,hv,h⟩:=Ar.1 h;obtain⟨x,hx,hv⟩:=Ar.1 hv;obtain⟨y,hy,hv⟩:=Ar.1 hv
 injection hv with hv
 subst hv;exact zU a hx hy d (hk _ h) hA ho hs h1 h2 hd hN hg
def gZ (l:List γ) (i j:Int):Option (List γ):=(gi l i).bind λx=>(gi l j).bind λy=>some (si (si l i y) j x)
theorem wO {rr:β} {l:List γ} {j:Int} {k:List γ->Option β} {cap:Array Value} (a:L7 P Am sf cap) (hB:∀l l',(Am l).B=(Am l').B/\(Am l).pin=none) (h:((gZ l i j).bind k)=some rr) (d:Nat) {t:Nat} {tys:Array TypeId} (hk:∀l',k l'=some rr->GX P N ops rest (({E with amb:=Am l'}:St).put (some d) (.tup [])) Q) (hA:E.amb=Am l:=by rfl) (ho:oo.op= .call {callee:= .value (.tmp t),args:= #[o1,o2],argTypes:=tys}:=by rfl) (hs:E.slots t= .one (.fn (.func sf) #[] cap):=by rfl) (h1:E.cell1 P 0 o1=some (.int .i64 i):=by rfl) (h2:E.cell1 P 0 o2=some (.int .i64 j):=by rfl) (hd:oo.dst=some d:=by rfl) (hN:Nat.blt d N=true:=by rfl) (hg:BE P ops E oo=some true:=by rfl):GX P N ops (oo::rest) E Q:=by
 obtain⟨l',hl',h⟩:=Ar.1 h;obtain⟨x,hx,hl'⟩:=Ar.1 hl';obtain⟨y,hy,hl'⟩:=Ar.1 hl'
 injection hl' with hl'
 subst hl';exact zR a hB hx hy d (hk _ h) hA ho hs h1 h2 hd hN hg
def AAx (ls:List (Nat×SV)) (bs:List (Root×List TV)) (A:P2):St:={yZ ls bs with amb:=A}
def TV.flat:TV->Bool
 | .int .. | .bool _| .str _| .fn .. =>true
 |_=>false
def j8:AV->Bool
 | .sv (.one t)=>t.flat
 | .sv (.agg cs)=>cs.all TV.flat
 |_=>false
theorem eJ {t:TV} (h:Cz w t v F U) (ht:t.flat=true):F=[]/\U=[]:=by
 cases t<;>first|(cases ht;done)|(simp only [Cz]at h;exact h.2)
theorem Kv:∀{ts:List TV} {vs:List Value} {F U:List Nat},B4 w ts vs F U->ts.all TV.flat=true->F=[]/\U=[]
 |[],vs,F,U,h,_=>by simp only [B4]at h;exact h.2
 |t::ts,vs,F,U,h,ht=>by
  simp only [E8,Al]at ht;simp only [B4]at h;obtain⟨v,a,F1,F2,U1,U2,rfl,rfl,rfl,h1,h2⟩:=h;obtain⟨rfl,rfl⟩:=eJ h1 ht.1;obtain⟨rfl,rfl⟩:=Kv h2 ht.2;exact⟨rfl,rfl⟩
theorem X4:∀{l:List AV},l.all j8=true->∀(w:World) (vs:List Value) (F U:List Nat),JX w l vs F U->F=[]/\U=[]
 |[],_,w,vs,F,U,h=>h.2
 |s::l,hl,w,vs,F,U,h=>by
  simp only [E8,Al]at hl;obtain⟨v,a,F1,F2,U1,U2,rfl,rfl,rfl,h1,h2⟩:=h;obtain⟨rfl,rfl⟩:=X4 hl.2 w a F2 U2 h2;have:F1=[]/\U1=[]:=by
   match s,hl.1,h1 with
   | .sv (.one t),ht,h1=>exact eJ h1.1 ht
   | .sv (.agg cs),ht,h1=>obtain⟨_,_,h1⟩:=h1;exact Kv h1 ht
  obtain⟨rfl,rfl⟩:=this;exact⟨rfl,rfl⟩
def TV.val:TV->Value
 | .int k n=> .int k n
 | .bool b=> .bool b
 | .str s=> .string s
 | .fn f ta c=> .func f ta c
 |_=> .bool false
theorem uW {t:TV} (h:Cz w t v F U) (ht:t.flat=true):v=t.val:=by
 cases t<;>first|(cases ht;done)|(simp only [Cz]at h;exact h.1)
theorem SM:∀{ts:List TV} {vs:List Value} {F U:List Nat},B4 w ts vs F U->ts.all TV.flat=true->vs=ts.map TV.val
 |[],vs,F,U,h,_=>by simp only [B4]at h;exact h.1
 |t::ts,vs,F,U,h,ht=>by
  simp only [E8,Al]at ht;simp only [B4]at h;obtain⟨v,a,F1,F2,U1,U2,rfl,_,_,h1,h2⟩:=h;rw [uW h1 ht.1,SM h2 ht.2];rfl
theorem uG {t:TV} (ht:t.flat=true):Cz w t t.val [] []:=by
 cases t<;>first|(cases ht;done)|(simp [Cz,TV.val])
theorem Sx:∀{ts:List TV},ts.all TV.flat=true->B4 w ts (ts.map TV.val) [] []
 |[],_=>by simp [B4]
 |t::ts,ht=>by
  simp only [E8,Al]at ht;simp only [B4,B8];exact⟨_,_,[],[],[],[],rfl,rfl,rfl,uG ht.1,Sx ht.2⟩
theorem V0 {t:TV}:t.val.oneCell'=true:=by cases t<;>rfl
theorem IQ (e:TypeId) (fz:Nat×Nat) (g:Nat):∀(vs:List Value) (o:Nat) (a:Array Value) (w:World),w.heap[g]?=some (.cells a e fz)->o+vs.length<=a.size->(w.setCells g o vs).heap[g]?=some (.cells (setRow a.toList o vs).toArray e fz)
 |[],o,a,w,h,_=>by
  simp only [World.setCells];rw [h];congr 2;apply Rx;simp [setRow]
 |v::vs,o,a,w,h,hl=>by
  simp only [Az]at hl;simp only [World.setCells];have h1:(w.setCell ⟨g,o,none⟩ v).heap[g]?=some (.cells (a.setIfInBounds o v) e fz):=by
   simp only [World.setCell,Array.getElem?_modify,BX,h,B5];rfl
  rw [IQ e fz g vs (o+1) (a.setIfInBounds o v) _ h1 (by simp;omega)];congr 2;apply Rx;simp only [Array.toList_setIfInBounds];apply C7;intro k;have l1:(a.toList.take o).length=o:=by simp;omega
  have l2:((a.toList.set o v).take (o+1)).length=o+1:=by simp;omega
  simp only [setRow,Ao]
  rcases MI k o with hk|hk|hk
  ·rw [AO (by omega),AO (by omega),Cb,Cb,Au (by omega),Au hk,List.getElem?_set_ne (by omega)]
  ·subst hk;rw [AO (by omega),AS (by omega),Cb,Au (by omega),List.getElem?_set_self (by simp;omega),l1];simp
  have eL:(List.take (o+1) (a.toList.set o v)++(vs++List.drop (o+1+vs.length) (a.toList.set o v)))[k]?=(vs++List.drop (o+1+vs.length) (a.toList.set o v))[k-(o+1)]? :=by
   rw [AS (by omega),l2]
  have eR:(List.take o a.toList++(v::vs++List.drop (o+(v::vs).length) a.toList))[k]?=(vs++List.drop (o+(v::vs).length) a.toList)[k-(o+1)]? :=by
   rw [AS (by omega),l1,show k-o=(k-(o+1))+1 by omega,BF,List.getElem?_cons_succ]
  rw [eL,eR];by_cases hv:k-(o+1)<vs.length
  ·rw [AO hv,AO hv]
  rw [AS (by omega),AS (by omega),BO,BO,List.getElem?_set_ne (by omega),Az];congr 1;omega
structure mZ (n b g cap:Nat) (e T:TypeId) (sz:Nat) (enc:γ->List TV) (w:World) (l:List γ):Prop where
 ne:b≠g
 len:l.length=n
 box:w.heap[b]?=some (.cells #[.slice (some ⟨g,0,none⟩) l.length cap] T (0,0))
 row:∃cur,w.heap[g]?=some (.cells cur e (0,0))/\cur.size=cap*sz/\cur.toList.take (l.length*sz)=(AR enc l).map TV.val
 le:l.length<=cap/\cap<=maxLen
def Nu (n b g cap:Nat) (e T:TypeId) (sz:Nat) (enc:γ->List TV) (l:List γ):P2 where
 B:=[b,g]
 I:=λw=>mZ n b g cap e T sz enc w l
 st:=λw w' h hk=>⟨h.ne,h.len,by rw [hk b (by simp)];exact h.box,by rw [hk g (by simp)];exact h.row,h.le⟩
 rd:=λad=>if ad.spot.isSome=true then none else if ad.block=b then(if ad.off=0 then some (.slice (some ⟨g,0,none⟩) n cap)else none)else if ad.block=g then(if ad.off<l.length*sz then((AR enc l).map TV.val)[ad.off]? else none)else none
 rdI:=λw ad v h hr=>by
  obtain⟨bl,off,spot⟩:=ad
  cases spot with
  |some s=>simp at hr
  |none=>
   simp only [GM,BP,Ga]at hr;split at hr
   ·rename_i hb;subst hb;split at hr
    ·rename_i ho;subst ho
     injection hr with hr
     subst hr;simp [World.cell?,h.box,h.len]
    cases hr
   split at hr
   ·rename_i hg;subst hg;split at hr
    ·rename_i ho;obtain⟨a,h1,h2,h3⟩:=h.row;rw [<-h3,Cb,Au ho]at hr;simpa [World.cell?,h1]using hr
    cases hr
   cases hr
theorem Pb (f:γ->List TV) (x:γ) (l:List γ):AR f (x::l)=f x++AR f l:=by simp [AR]
theorem FX (g:Nat):∀(vs:List Value) (o:Nat) (w:World),(w.setCells g o vs).heap.size=w.heap.size
 |[],_,_=>rfl
 |v::vs,o,w=>by
  simp only [World.setCells];rw [FX g vs,World.size_setCell]
theorem IE (g:Nat):∀(vs:List Value) (o:Nat) (w:World),(w.setCells g o vs).tape=w.tape
 |[],_,_=>rfl
 |v::vs,o,w=>by
  simp only [World.setCells];rw [IE g vs,World.tape_setCell]
theorem OI (f:α->β) (A B:List α) (j:Nat):(setRow A j B).map f=setRow (A.map f) j (B.map f):=by
 simp [setRow,List.map_take,List.map_drop]
theorem ZS {enc:γ->List TV} (a:∀x,(enc x).length=sz) (x z:γ):setRow (enc x) 0 (enc z)=enc z:=by
 simp only [setRow,GO,A5,H6];rw [CR (by rw [a,a];exact A3 _),A0]
theorem QD {l:List γ} {x z:γ} {enc:γ->List TV} (a:∀x,(enc x).length=sz) (h:gi l i=some x):setRow (AR enc l) (i.toNat*sz) (enc z)=AR enc (si l i z):=
 TJ a h (k:=0) (by rw [a];simp) (ZS a x z)
theorem If (h:gi l i=some x):0<=i/\l[i.toNat]?=some x:=by
 unfold gi at h;split at h
 ·exact⟨by assumption,h⟩
 cases h
theorem g7 {ie:TypeInfo} {b g cap:Nat} {e T:TypeId} {enc:γ->List TV} (f:∀x,(enc x).length=sz) (n:Nat) (gS:Bool) (hx:∀args W,(callFunc sf args).run P W=((Extern.ReflectliteSwapper.swap gS args).run P W).andThen λv w'=> .ok (.value v) w') (h8:P.info? e=some ie) (h:ie.size=sz) (s:∀w,(isAgg e).run P w= .ok true w):
  L7 P (Nu n b g cap e T sz enc) sf #[.slice (some ⟨g,0,none⟩) n cap,typeHandle P e]:=by
 intro l i j x y hi hj w hI hB;obtain⟨u,hn,h0,⟨d,hg,h3,h4⟩,h5⟩:=hI;obtain⟨i0,i1⟩:=If hi;obtain⟨j0,j1⟩:=If hj;obtain⟨a,rfl⟩:=CG i0;obtain⟨c,rfl⟩:=CG j0;simp only [Ba]at i1 j1;have la:=(Ag.1 i1).1;have lc:=(Ag.1 j1).1;have hX:((enc x).map TV.val).length=sz:=by rw [Be];exact f x
 have hY:((enc y).map TV.val).length=sz:=by rw [Be];exact f y
 have a6:(AR enc l).length=l.length*sz:=EK f l;have p:l.length*sz<=d.size:=by rw [h3];exact BC _ h5.1
 have h9:(a+1)*sz<=l.length*sz:=BC _ la;have a0:(c+1)*sz<=l.length*sz:=BC _ lc;rw [D7]at h9 a0;have cell:∀(m:Nat) (z:γ),l[m]?=some z->∀k v,((enc z).map TV.val)[k]?=some v->w.cell? ⟨g,0+m*ie.size+k,none⟩=some v:=by
  intro m z hm k v hk;have h6:=(Ag.1 hk).1;rw [Be,f]at h6;have lm:=(Ag.1 hm).1;have a1:(m+1)*sz<=l.length*sz:=BC _ lm;rw [D7]at a1;rw [h,H6];have e1:(AR enc l)[m*sz+k]?=(enc z)[k]? :=by
   have:=J6 f l m;have h2:(AR enc l)[m*sz+k]?=((AR enc l).drop (m*sz))[k]? :=by rw [BO]
   rw [h2,this,Bj lm];have e3:AR enc (l[m]::l.drop (m+1))=enc l[m]++AR enc (l.drop (m+1)):=Pb _ _ _;have e4:l[m]=z:=by rw [Ab lm]at hm;injection hm
   rw [e3,e4,AO (by rw [f];exact h6)]
  have e2:d.toList[m*sz+k]?=some v:=by
   have:(d.toList.take (l.length*sz))[m*sz+k]?=d.toList[m*sz+k]? :=by rw [Cb,Au (by omega)]
   rw [<-this,h4,AN,e1,<-AN,hk]
  simp only [World.cell?,hg,Aa];simpa using e2
 have frz:∀(m k:Nat),w.frozen? ⟨g,0+m*ie.size+k,none⟩=false:=by
  intro m k;simp [World.frozen?,hg]
 have q:=Go.Lib.run_swap_cells (P:=P) gS e ie h8 s g 0 n cap a c (by omega) (by omega) ((enc x).map TV.val) ((enc y).map TV.val) (by rw [hX,h]) (by rw [hY,h]) (λv hv=>by obtain⟨t,_,rfl⟩:=AJ.1 hv;exact V0) (λv hv=>by obtain⟨t,_,rfl⟩:=AJ.1 hv;exact V0) w (cell a x i1) (cell c y j1) (λk _=>frz a k) (λk _=>frz c k);simp only [H6,h]at q;have h1:=IQ e (0,0) g ((enc y).map TV.val) (a*sz) d w hg (by rw [hY];omega);have a2:(setRow d.toList (a*sz) ((enc y).map TV.val)).toArray.size=d.size:=by
  rw [MJ,DQ (by rw [hY];simp;omega)];simp
 have h2:=IQ e (0,0) g ((enc x).map TV.val) (c*sz) _ _ h1 (by rw [a2,hX];omega);have kB:∀k,k<w.heap.size->k≠g->((w.setCells g (a*sz) ((enc y).map TV.val)).setCells g (c*sz) ((enc x).map TV.val)).heap[k]?=w.heap[k]? :=by
  intro k hk h7;have s1:(w.setCells g (a*sz) ((enc y).map TV.val)).heap.size=w.heap.size:=FX g _ _ _;rw [World.heap_setCells_other _ g _ _ (by rw [s1];exact hk) h7,World.heap_setCells_other _ g _ _ hk h7]
 refine⟨(w.setCells g (a*sz) ((enc y).map TV.val)).setCells g (c*sz) ((enc x).map TV.val),?_,⟨?_,?_,?_,?_,?_⟩,?_⟩
 ·rw [hx];have ea:(#[Value.int .i64 (a:Int),Value.int .i64 (c:Int)]++ #[Value.slice (some ⟨g,0,none⟩) n cap,typeHandle P e])= #[.int .i64 (a:Int),.int .i64 (c:Int),.slice (some ⟨g,0,none⟩) n cap,typeHandle P e]:=rfl;rw [ea,q];rfl
 ·rw [World.os_setCells,World.os_setCells]
 ·rw [IE,IE]
 ·rw [World.output_setCells,World.output_setCells]
 ·rw [FX,FX];exact A3 _
 ·intro k hk a3;exact kB k hk (λe=>a3 (by rw [e];simp [Nu]))
 have o:(si (si l (a:Int) y) (c:Int) x).length=l.length:=by simp [si]
 have lcur:d.toList.length=d.size:=by simp
 have r:(setRow d.toList (a*sz) ((enc y).map TV.val)).length=d.size:=by rw [DQ (by rw [hY,lcur];omega),lcur]
 have a4:(setRow (setRow d.toList (a*sz) ((enc y).map TV.val)) (c*sz) ((enc x).map TV.val)).length=d.size:=by rw [DQ (by rw [hX,r];omega),r]
 show mZ n b g cap e T sz enc _ (si (si l (a:Int) y) (c:Int) x);refine⟨u,o.trans hn,?_,⟨_,h2,?_,?_⟩,by rw [o];exact h5⟩
 ·rw [kB b (hB b (by simp [Nu])) u,o];exact h0
 ·rw [MJ];exact a4.trans h3
 rw [o];show((setRow (setRow d.toList (a*sz) ((enc y).map TV.val)) (c*sz) ((enc x).map TV.val))).take (l.length*sz)=_;rw [KV (by rw [hX];omega) (by rw [r];exact p),KV (by rw [hY];omega) (by rw [lcur];exact p),h4,<-OI,<-OI];have e1:setRow (AR enc l) (a*sz) (enc y)=AR enc (si l (a:Int) y):=by
  have:=QD f (z:=y) hi
  rwa [Ba]at this
 obtain⟨z0,a5⟩:∃z0,gi (si l (a:Int) y) (c:Int)=some z0:=by
  have lc2:c<(si l (a:Int) y).length:=by simp only [si,H0];exact lc
  refine⟨(si l (a:Int) y)[c],?_⟩;unfold gi;rw [Au (by omega),Ba];exact Ab lc2
 have e2:=QD f (z:=x) a5;rw [Ba]at e2;rw [e1,e2]
theorem cS {w0:Base} {a:Act} {blk:Root->Nat} (h:CM w0 FA UA N w a E blk FS US) {t:Nat} {ad:Addr} (hs:E.slots t= .one (.adr ad)):a.eval (.tmp t)= .pointer (some ad):=by
 have:=h.slot t;rw [hs]at this;simp only [Ep,CS,Cz]at this;exact this.1.1
theorem wA {w0:Base} {a:Act} {blk:Root->Nat} (h:CM w0 FA UA N w a E blk FS US) {t:Nat} {ad:Addr} {n c:Nat} (hs:E.slots t= .one (.hdr ad n c)):a.eval (.tmp t)= .slice (some ad) n c:=by
 have:=h.slot t;rw [hs]at this;simp only [Ep,CS,Cz]at this;exact this.1.1
theorem GL.any {o:Oper} (d:Nat) (t:TV) (hk:GL P N ops rest (E.put (some d) (.one t)) K) (b:∀(w0:Base) (FA UA:List Nat) (w:World) (a:Act) (blk:Root->Nat) (FS US:Root->List Nat),CM w0 FA UA N w a E blk FS US->∃v,(execOp a.eval o).run P w= .ok (.value v) w/\Cz w t v [] []/\v.cells= #[v]) (hd:o.dst=some d:=by rfl) (hN:Nat.blt d N=true:=by rfl) (hg:BE P ops E o=some true:=by rfl):GL P N ops (o::rest) E K:=by
 have hN':d<N:=by simpa [Bn]using hN
 intro w0 FA UA w a blk FS US k1 k2 k3;obtain⟨v,h1,h2,h3⟩:=b w0 FA UA w a blk FS US k1;simp only [wpStill,Co k1 hg,BX,Oper.still,h1,Oper.stillUpon_value];rw [hd];refine hk _ _ _ _ _ _ _ _ (k1.put (F:=[]) (U:=[]) hN' (by simp only [Ep];exact⟨FT h2,λ_=>h3⟩) XB.none) ?_ ?_
 ·rw [Bu (by simp),k2]
 rw [Bu (by simp),k3]
theorem Nz {o:Oper} {ty:TypeId} {x:Nat} (d:Nat) (t:TV) (v:Value) {ad:Addr} (hk:GL P N ops rest (E.put (some d) (.one t)) K) (hs:E.slots x= .one (.adr ad)) (b:E.amb.rd ad=some v) (hv:∀w,Cz w t v [] []) (hc:v.cells= #[v]) (ha:Ys P ty=false) (hu:(P.underlying ty).isSome=true) (ho:o.op= .load ty (.tmp x):=by rfl) (hd:o.dst=some d:=by rfl) (hN:Nat.blt d N=true:=by rfl) (hg:BE P ops E o=some true:=by rfl):GL P N ops (o::rest) E K:=
 GL.any d t hk (λw0 FA UA w a blk FS US h=>by
  have h1:=cS h hs;have h2:=E.amb.rdI w ad v h.ambI b;have c:P.underlying ty≠none:=by intro e;rw [e]at hu;cases hu
  refine⟨v,?_,hv w,hc⟩
  simp [execOp,ho,h1,Instr.loadAt,Instr.sureAddr,loadVar,TO c,ha,h2]) hd hN hg
theorem Q4 {o:Oper} {x f:Nat} (d:Nat) {ad:Addr} (hk:GL P N ops rest (E.put (some d) (.one (.adr (ad.add fd.offset)))) K) (hs:E.slots x= .one (.adr ad)) (c:P.underlying st=some (.struct fs)) (hf:fs[f]?=some fd) (b:P.cellsOf fd.type≠0) (ho:o.op= .fieldAddr st (.tmp x) f:=by rfl) (hd:o.dst=some d:=by rfl) (hN:Nat.blt d N=true:=by rfl) (hg:BE P ops E o=some true:=by rfl):GL P N ops (o::rest) E K:=
 GL.any d (.adr (ad.add fd.offset)) hk (λw0 FA UA w a blk FS US h=>by
  have h1:=cS h hs;obtain⟨i,hi,_⟩:=FZ b;refine⟨.pointer (some (ad.add fd.offset)),?_,by simp [Cz],rfl⟩
  simp [execOp,ho,h1,Instr.fieldAt,run_underlying c,hf,Instr.sureAddr,fieldPlace,run_sizeOf w hi,b]) hd hN hg
theorem cT {o:Oper} {x:Nat} {i:Operand} {k:IntKind} (d:Nat) {ad:Addr} {n c:Nat} {t e:TypeId} {m:Int} (hk:GL P N ops rest (E.put (some d) (.one (.adr (ad.add (m.toNat*P.cellsOf e))))) K) (hs:E.slots x= .one (.hdr ad n c)) (ht:P.underlying t=some (.slice e)) (hi:E.cell1 P 0 i=some (.int k m)) (h0:0<=m) (hm:m<n) (f:P.cellsOf e≠0) (ho:o.op= .indexAddr t (.tmp x) i:=by rfl) (hd:o.dst=some d:=by rfl) (hN:Nat.blt d N=true:=by rfl) (hg:BE P ops E o=some true:=by rfl):GL P N ops (o::rest) E K:=
 GL.any d (.adr (ad.add (m.toNat*P.cellsOf e))) hk (λw0 FA UA w a blk FS US h=>by
  have h1:=wA h hs;have h2:=Dm h hi;obtain⟨inf,b,_⟩:=FZ f;refine⟨.pointer (some (ad.add (m.toNat*P.cellsOf e))),?_,by simp [Cz],rfl⟩
  simp [execOp,ho,h1,h2,Instr.indexAt,run_underlying ht,asIntOf,h0,hm,run_sizeOf w b]) hd hN hg
def T6 (P:Program) (f:FuncId) (A:P2) (as:List AV) (t:TV):Prop:=
 ∀(w:World) (vs:List Value),JX w as vs [] []->(∀b∈A.B,b<w.heap.size)->A.I w->Calls P f vs.toArray w λe w'=>e= .returned (T6.val t)/\GJ w w' A.B/\A.I w'
where
 val:TV->Value
 | .int k n=> .int k n
 | .bool b=> .bool b
 | .str s=> .string s
 | .fn f ta c=> .func f ta c
 |_=> .bool false
theorem qI {t:TV} (h:Cz w t v F U) (ht:t.flat=true):v=T6.val t:=by
 cases t<;>first|(cases ht;done)|(simp only [Cz]at h;exact h.1)
theorem fJ {f:FuncId} {c:Code} {t:TV} (hf:P.funcs[f]?=some fn) (hb:fn.body=some c) (ht:t.flat=true) (h:Wp P fn.ntmps c (DA as A) λe E=>(e= .normal\/e= .ret)/\E.amb=A/\∃E',DO P E fn.results.toList=some ([.one t],E')) (hp:A.pin=none:=by rfl):T6 P f A as t:=by
 intro w vs ha hB hA;obtain⟨blk,FS,US,g,hF,hU⟩:=Q5 (N:=fn.ntmps) ha C0 (by simp) (by simp) (A:=A) hA (λb hb=>⟨hB b hb,by simp,by simp⟩) (hpin:=λb h=>by rw [hp]at h;cases h);refine calls_of_wp hf hb (wp_mono (h _ _ _ _ _ _ _ _ g hF hU) ?_);rintro e a w' ⟨E,blk',FS',US',⟨he,i,E',h1⟩,h2,h3,h4⟩;obtain⟨us,FS2,US2,F,U,k1,k2,k3,k4,k5⟩:=Li h2 h1;have k6:=Qc k2;have hv:=qI k6.1 ht;have hI:A.I w':=by rw [<-i];exact h2.ambI
 have d:a.defers=[]/\∃v,(results fn a.tmps).run P w'= .ok v w'/\Ending.returned v= .returned (T6.val t)/\GJ w w' A.B/\A.I w':=
  ⟨h2.nodef,_,MZ k1,by rw [hv],⟨h2.os,h2.tape,h2.output,h2.size,λb h5 h6=>h2.keep b h5 (by simp) h6⟩,hI⟩
 rcases he with rfl|rfl
 ·exact d
 exact d
theorem Zm {ad : Addr} (hf : P.funcs[g]? = some fn) (hn : (fn.name == "runtime.NumGoroutine") = false) (hb : fn.body.isNone = false) (h : ∀ (l : List γ) (i j : Int) (x y : γ), gi l i = some x → gi l j = some y → (∃ w, (Am l).I w) → T6 P g (Am l) [.sv (.one (.int .i64 i)), .sv (.one (.int .i64 j)), .sv (.one (.adr ad))] (.bool (lt x y))) : Jf P Am lt g #[.pointer (some ad)] := by
 refine⟨λargs w=>?_,λl i j x y hx hy w hI hB=>?_⟩
 ·have a:fn.body≠none:=by intro e;simp [e]at hb
  have b : fn.name ≠ "runtime.NumGoroutine" := by intro e; rw [e] at hn; simp at hn
  simp [callFunc,hf,b,a]
 exact h l i j x y hx hy ⟨w,hI⟩ w [.int .i64 i,.int .i64 j,.pointer (some ad)]
  ⟨_,_,[],[],[],[],rfl,rfl,rfl,⟨by simp [Cz],rfl⟩,⟨_,_,[],[],[],[],rfl,rfl,rfl,⟨by simp [Cz],rfl⟩,⟨_,_,[],[],[],[],rfl,rfl,rfl,⟨by simp [Cz],rfl⟩,⟨rfl,rfl,rfl⟩⟩⟩⟩ hB hI
def VW (P:Program) (f:FuncId) (t e sz:Nat) (enc:γ->List TV) (g:FuncId) (l l':List γ):Prop:=
 ∀(w:World) (b:Nat) (v:Value) (T:TypeId),w.heap[b]?=some (.cells #[v] T (0,0))->w.ownsRow 0 e sz v l.length ((AR enc l).map TV.val)->b∉Cg v->
  Calls P f #[.iface t v,.func (.func g) #[] #[.pointer (some ⟨b,0,none⟩)]] w λr w'=>r= .returned (.tuple #[])/\GJ w w' (b::Cg v)/\w'.heap[b]?=some (.cells #[v] T (0,0))/\w'.ownsRow 0 e sz v l'.length ((AR enc l').map TV.val)
section
variable {w0:Base} {a:Act}
theorem CM.turn (h:CM w0 FA UA N w a E blk FS US) (hF:FS .hand=[]) (hU:US .hand=[]) {r:Root} (hm:r.mem=true) {cells cells':List TV} (hc:E.boxes r=some cells) (l:cells'.length=cells.length) (hb:GJ w w' (FS r)) (g:∃c T F,w'.heap[blk r]?=some (.cells c T (0,0))/\B4 w' cells' c.toList F (US r)/\FS r=blk r::F):
  ∃FS' US',CM w0 FA UA N w' a ((E.setRoot r cells').bump r) blk FS' US'/\FS' .hand=[]/\US' .hand=[]:=by
 have i:r≠ .hand:=by rintro rfl;cases hm
 have f:∀j,((E.setRoot r cells').bump r).place r [] j=cells'[j]? :=by
  intro j
  cases r with
  |slot n=>cases hm
  |hand=>cases hm
  |box n=>simp [St.place,St.bump,St.setRoot,St.root,Cn,BZ]
  |ext n=>simp [St.place,St.bump,St.setRoot,St.root,Cn,BZ]
 have d:∀j,E.place r [] j=cells[j]? :=by
  intro j
  cases r with
  |slot n=>cases hm
  |hand=>cases hm
  |box n=>simp [St.place,St.root,hc,BZ]
  |ext n=>simp [St.place,St.root,hc,BZ]
 let E1:St:=(E.setRoot r cells').bump r
 have ev:∀s,s≠r->E1.ver s=E.ver s:=by
  intro s hs;cases r<;>simp [E1,St.bump,St.setRoot,Cn,hs]
 have evr:E1.ver r=E.ver r+1:=by cases r<;>simp [E1,St.bump,St.setRoot,Cn]
 have eg:∀s,E1.gen s=E.gen s:=by intro s;cases r<;>rfl
 have er:∀s,s≠r->E1.root s=E.root s:=by
  intro s hs
  cases r with
  |slot n=>cases hm
  |hand=>cases hm
  |box n=>cases s<;>simp [E1,St.bump,St.setRoot,St.root,Cn,hs]
  |ext n=>cases s<;>simp [E1,St.bump,St.setRoot,St.root,Cn,hs]
 have es:∀n,E1.slots n=E.slots n:=by
  intro n
  cases r with
  |slot n=>cases hm
  |hand=>cases hm
  |box n=>rfl
  |ext n=>rfl
 have eb:∀s,E1.boxes s=if s=r then some cells' else E.boxes s:=by
  intro s
  cases r with
  |slot n=>cases hm
  |hand=>cases hm
  |box n=>rfl
  |ext n=>rfl
 have k:∀s,Cr w w' a a E E1 blk blk s:=by
  intro s;by_cases hs:s=r
  ·subst hs;refine⟨.inl (by rw [evr];omega),.inr ⟨eg s,λj ad hv hp=>?_⟩⟩;refine⟨(by cases s<;>first|exact hv|(cases hm)),?_⟩;rw [d]at hp;rw [show E1.place s [] j=cells'[j]? from f j];have hj:j<cells.length:=by
    rcases Dc j cells.length with q|q
    ·exact q
    rw [D3 q]at hp;cases hp
   rw [Ab (by omega)];rfl
  by_cases hh:s= .hand
  ·subst hh;exact FC (ev _ hs) (eg _) (by simp [St.root,h.nohand])
  exact DS h (ev s hs) (eg s) (er s hs) (λ_ _=>rfl) (λ_=>rfl)
   (λb hx=>hb.keep b (h.inF s b hx).2 (h.dis s r hs b hx)) (λb hx=>hb.keep b (h.inU s b hx).2 (λe=>h.disU r s b e hx))
 have k7:=h.two (w':=w') (a':=a) (E':=E1) (blk':=blk) (r1:=r) (r2:= .hand) (L1:=FS r) (L2:=[]) (V1:=US r) (V2:=[]) i
  (by simpa using h.nodup r)
  (λb hx=>⟨.inl (by simpa using hx),Bb (h.inF r b (by simpa using hx)).2 hb.size⟩)
  (λb hx=> .inl ⟨r,by simpa using hx⟩)
  hb.size hb.os hb.tape hb.output (λb hx q _=>hb.keep b hx q) k (λn _ _=>⟨es n,rfl⟩) (λs _ hs _=>⟨by rw [eb,Ax hs],rfl⟩)
  (by
   obtain⟨c,T,F,g1,g2,g3⟩:=g;have:G6 w' a E1 blk r (FS r) (US r):=by
    have e1:=eb r;rw [Au rfl]at e1
    cases r with
    |slot n=>cases hm
    |hand=>cases hm
    |box n=>exact .inr ⟨cells',c,T,F,e1,g1,g2,g3⟩
    |ext n=>exact .inr ⟨cells',c,T,F,e1,g1,g2,g3⟩
   exact this)
  trivial (by rw [eb,Ax (EL i)];exact h.nohand) h.len h.nodef (hfz:=by
   intro n hn;have e:((E.setRoot r cells').bump r).fz=E.fz:=by rw [Pj,HJ]
   exact h.frz n (e▸hn)) (hamb:=by show((E.setRoot r cells').bump r).amb=E.amb;rw [JW,Eb])
 exact⟨_,_,k7,BT _ _ _,BT _ _ _⟩
end
theorem Tg {w0:Base} {a:Act} (h:CM w0 FA UA N w a E blk FS US) (hF:FS .hand=[]) (hU:US .hand=[]) (hd:d<N) (v:Value):∃FS' US',CM w0 FA UA N w (a.put (some d) v) (E.put (some d) (.one .junk)) blk FS' US'/\FS' .hand=[]/\US' .hand=[]:=
 h.land (w':=w) (F:=[]) (U:=[]) hd (by simp [Ep,CS,TV.isJunk]) C0 (by simp) (by simp) (A3 _) rfl rfl rfl (λ_ _ _=>rfl)
theorem FB {enc:γ->List TV} (a:∀x,(enc x).all TV.flat=true):∀l:List γ,(AR enc l).all TV.flat=true
 |[]=>rfl
 |x::l=>by
  have:AR enc (x::l)=enc x++AR enc l:=by simp [AR]
  rw [this,List.all_append,a,FB a l];rfl
theorem Jd {o:Oper} (h:o.guard=none):BE P ops E o=some true:=by unfold BE;rw [h]
theorem GX.srt {l l':List γ} {o1 o2 o3:Oper} {d1 d2 d3 x p ver:Nat} {enc:γ->List TV} {sz e t:Nat} {f b:FuncId} {r:Root} {tys:Array TypeId} (hs:VW P f t e sz enc b l l') (hk:GX P N ops rest (((((E.put (some d1) (.one .junk)).put (some d2) (.one .junk)).setRoot r [.sl true e sz (AR enc l')]).bump r).put (some d3) (.tup [])) Q) (i:∀x,(enc x).length=sz) (c:∀x,(enc x).all TV.flat=true) (hx:E.slots x= .one (.view r ver [] 0):=by rfl) (j:E.ver r=ver:=by rfl) (hp:E.ptr? (.tmp p)=some (r,[],0):=by rfl) (hc:E.boxes r=some [.sl true e sz (AR enc l)]:=by rfl) (hm:r.mem=true:=by rfl) (h1:o1.op= .makeInterface t (.tmp x):=by rfl) (h2:o2.op= .makeFunc (.func b) #[] #[.tmp p]:=by rfl) (h3:o3.op= .call {callee:= .value (.func f),args:= #[.tmp d1,.tmp d2],argTypes:=tys}:=by rfl) (k1:o1.dst=some d1:=by rfl) (k2:o2.dst=some d2:=by rfl) (k3:o3.dst=some d3:=by rfl) (g1:o1.guard=none:=by rfl) (g2:o2.guard=none:=by rfl) (g3:o3.guard=none:=by rfl) (u:Nat.blt d1 N=true:=by rfl) (y:Nat.blt d2 N=true:=by rfl) (z:Nat.blt d3 N=true:=by rfl) (h0:Nat.beq d1 d2=false:=by rfl) (k:Nat.beq p d1=false:=by rfl) (h4:Nat.blt 0 sz=true:=by rfl) (ht:P.underlying t=some (.slice e):=by rfl) (hf:Yp P f):GX P N ops (o1::o2::o3::rest) E Q:=by
 have hN1':d1<N:=by simpa [Bn]using u
 have hN2':d2<N:=by simpa [Bn]using y
 have hN3':d3<N:=by simpa [Bn]using z
 have hne':d1≠d2:=by intro e;subst e;simp at h0
 have hne2':p≠d1:=by intro e;subst e;simp at k
 have hsz':0<sz:=by simpa [Bn]using h4
 intro w0 FA UA w a blk FS US hr hF hU;have m:∃v T F,w.heap[blk r]?=some (.cells #[v] T (0,0))/\Cz w (.sl true e sz (AR enc l)) v F (US r)/\FS r=blk r::F:=by
  rcases hr.box r hm with⟨q1,_⟩|⟨cs,o,T,F,q1,q2,q3,q4⟩
  ·rw [hc]at q1;cases q1
  rw [hc]at q1
  injection q1 with q1
  subst q1;simp only [B4]at q3;obtain⟨v,h5,F1,F2,U1,U2,e1,rfl,e3,q5,rfl,rfl,rfl⟩:=q3;have:o= #[v]:=by apply Rx;simpa using e1
  subst this;rw [A0]at q4;rw [e3,A0];exact⟨v,T,F1,q2,q5,q4⟩
 obtain⟨v,T,F,b1,b2,b3⟩:=m;simp only [Cz]at b2;obtain⟨n,vs,F',b4,b5,rfl⟩:=b2;have h6:=SM b5 (FB c l);obtain⟨rfl,a4⟩:=Kv b5 (FB c l);subst h6;have h7:n=l.length:=by
  have q:=b4.1;rw [Be,EK i l]at q;exact(Nat.eq_of_mul_eq_mul_right hsz' q).symm
 subst h7;rw [A0]at b3;have h8:blk r∉Cg v:=by
  have:=hr.nodup r;rw [b3]at this;exact(Dv.1 this).1
 have evx:a.eval (.tmp x)=v:=by
  have q:=hr.slot x;rw [hx]at q;simp only [Ep,CS]at q;obtain⟨⟨_,_,_,q4⟩,_⟩:=q;obtain⟨q5,_⟩:=q4 j
  cases r with
  |slot n=>cases hm
  |hand=>cases hm
  |box n=>simpa [pv,BV,Addr.add,World.cell?,b1]using q5.symm
  |ext n=>simpa [pv,BV,Addr.add,World.cell?,b1]using q5.symm
 have evp:a.eval (.tmp p)= .pointer (some ⟨blk r,0,none⟩):=by
  obtain⟨_,ad,q1,q2⟩:=JP hr hp;rw [q2]
  cases r with
  |slot n=>cases hm
  |hand=>cases hm
  |box n=>simp [pa,Addr.add]at q1;rw [<-q1]
  |ext n=>simp [pa,Addr.add]at q1;rw [<-q1]
 obtain⟨FS1,US1,r1,r2,r3⟩:=Tg hr hF hU hN1' (.iface t v);have e1:(execOp a.eval o1).run P w= .ok (.value (.iface t v)) w:=by
  simp [execOp,h1,Instr.makeInterface,run_underlying ht,evx]
 simp only [wpList,Co hr (Jd (P:=P) (ops:=ops) g1),BX];refine .inl ?_
 try unfold Oper.wp
 rw [e1,Oper.upon_value,k1];have evp1:(a.put (some d1) (.iface t v)).eval (.tmp p)= .pointer (some ⟨blk r,0,none⟩):=by rw [Dr hne2',evp]
 obtain⟨FS2,US2,s1,s2,s3⟩:=Tg r1 r2 r3 hN2' (.func (.func b) #[] #[.pointer (some ⟨blk r,0,none⟩)]);have e2:(execOp (a.put (some d1) (.iface t v)).eval o2).run P w= .ok (.value (.func (.func b) #[] #[.pointer (some ⟨blk r,0,none⟩)])) w:=by
  simp [execOp,h2,Instr.makeFunc,evp1]
 simp only [wpList,Co r1 (Jd (P:=P) (ops:=ops) g2),BX];refine .inl ?_
 try unfold Oper.wp
 rw [e2,Oper.upon_value,k2];simp only [wpList,Co s1 (Jd (P:=P) (ops:=ops) g3),BX];refine .inl ?_;have h9:d1<a.tmps.size:=Bb hN1' hr.len;have a0:d2<(a.put (some d1) (.iface t v)).tmps.size:=Bb hN2' r1.len
 try unfold Oper.wp
 rw [HT h3 hf];have ea: #[Operand.tmp d1,.tmp d2].map ((a.put (some d1) (.iface t v)).put (some d2) (.func (.func b) #[] #[.pointer (some ⟨blk r,0,none⟩)])).eval= #[.iface t v,.func (.func b) #[] #[.pointer (some ⟨blk r,0,none⟩)]]:=by
  simp [FP a0,Dr hne',FP h9]
 rw [ea];simp only [Oper.upon];refine Calls.mono (hs w (blk r) v T b1 b4 h8) ?_;rintro ee w' ⟨rfl,a1,a2,a3⟩;have g:((E.put (some d1) (.one .junk)).put (some d2) (.one .junk)).boxes r=some [.sl true e sz (AR enc l)]:=hc;have h:∃F2,FS2 r=blk r::F2/\F2=Cg v/\US2 r=[]:=by
  rcases s1.box r hm with⟨q1,_⟩|⟨cs,o,T2,F2,q1,q2,q3,q4⟩
  ·rw [g]at q1;cases q1
  rw [g]at q1
  injection q1 with q1
  subst q1;rw [b1]at q2
  injection q2 with q2
  injection q2 with q2
  subst q2;simp only [B4]at q3;obtain⟨v2,h5,F3,F4,U1,U2,e1,rfl,e3,q5,rfl,rfl,rfl⟩:=q3;simp at e1;subst e1;simp only [Cz]at q5;obtain⟨n,vs,F',c4,c5,rfl⟩:=q5;obtain⟨rfl,rfl⟩:=Kv c5 (FB c l);rw [A0]at e3;exact⟨_,q4,by simp,e3⟩
 obtain⟨F2,f1,rfl,f3⟩:=h;obtain⟨FS3,US3,t1,t2,t3⟩:=s1.turn s2 s3 hm g (cells':=[.sl true e sz (AR enc l')]) rfl (w':=w') (by rw [f1];exact a1)
  ⟨#[v],T,Cg v,a2,by
   rw [f3];simp only [B4];refine⟨v,[],Cg v,[],[],[],rfl,by simp,rfl,?_,rfl,rfl,rfl⟩;simp only [Cz]
   exact⟨l'.length,_,[],a3,Sx (FB c l'),by simp⟩,f1⟩
 obtain⟨FS4,US4,u1,u2,u3⟩:=t1.land (w':=w') (d:=d3) (s:= .tup []) (v:= .tuple #[]) (F:=[]) (U:=[]) hN3' (by simp [Ep,Nr]) C0 (by simp) (by simp) (A3 _) rfl rfl rfl (λ_ _ _=>rfl);rw [k3];exact hk _ _ _ _ _ _ _ _ u1 u2 u3
def vO (b:Nat) (v:Value) (T:TypeId) (e sz n:Nat) (xs:List Value):P2 where
 B:=b::Cg v
 I:=λw=>w.heap[b]?=some (.cells #[v] T (0,0))/\w.ownsRow 0 e sz v n xs
 st:=λw w' h hk=>⟨by rw [hk b (by simp)];exact h.1,h.2.1,by
  rcases h.2.2 with q|⟨g,cap,a,rfl,q1,q2,q3⟩
  ·exact .inl q
  exact .inr ⟨g,cap,a,rfl,q1,by rw [hk g (by simp [Cg,Value.ownBlock])];exact q2,q3⟩⟩
theorem qL {l:List γ} {x:γ} {n b g cap:Nat} {e T:TypeId} {enc:γ->List TV} (a:∀x,(enc x).length=sz) {t:TV} {ad:Addr} (hi:gi l i=some x) (hk:(enc x)[k]?=some t) (hb:b≠g) (d:ad=⟨g,i.toNat*sz+k,none⟩):(Nu n b g cap e T sz enc l).rd ad=some t.val:=by
 subst d;obtain⟨i0,i1⟩:=If hi;have lm:=(Ag.1 i1).1;have c:=(Ag.1 hk).1;rw [a]at c;have f:(i.toNat+1)*sz<=l.length*sz:=BC _ lm;rw [D7]at f;have e1:(AR enc l)[i.toNat*sz+k]?=(enc x)[k]? :=by
  have h2:(AR enc l)[i.toNat*sz+k]?=((AR enc l).drop (i.toNat*sz))[k]? :=by rw [BO]
  rw [h2,J6 a l i.toNat,Bj lm,Pb];have e4:l[i.toNat]=x:=by rw [Ab lm]at i1;injection i1
  rw [e4,AO (by rw [a];exact c)]
 simp only [Nu,GM,BP,Ga];rw [Ax (λe=>hb e.symm),BX,Au (by omega),AN,e1,hk];rfl
theorem qM {l:List γ} {n b g cap:Nat} {e T:TypeId} {enc:γ->List TV}:(Nu n b g cap e T sz enc l).rd ⟨b,0,none⟩=some (.slice (some ⟨g,0,none⟩) n cap):=by
 simp [Nu]
theorem ZE {g m:Nat}:((⟨g,0,none⟩:Addr).add m)=⟨g,m,none⟩:=by
 unfold Addr.add;split
 ·rename_i h;subst h;rfl
 simp
theorem mQ (h:gi l i=some x):0<=i/\i<l.length:=by
 obtain⟨i0,i1⟩:=If h;have lm:=(Ag.1 i1).1;exact⟨i0,by omega⟩
def pD (t t':TV):Prop:=t=t'\/∃e sz a cells',t= .sl true e sz a/\BH a=cells'/\t'= .sl false e sz cells'
def tZ:List TV->List TV->Prop
 |[],ts'=>ts'=[]
 |t::ts,ts'=>∃x xs,ts'=x::xs/\pD t x/\tZ ts xs
mutual
def X6:SV->SV->Prop
 | .one t,s'=>∃t',s'= .one t'/\pD t t'
 | .agg cs,s'=>∃cs',s'= .agg cs'/\tZ cs cs'
 | .tup ss,s'=>∃ss',s'= .tup ss'/\RD ss ss'
def RD:List SV->List SV->Prop
 |[],ss'=>ss'=[]
 |s::ss,ss'=>∃x xs,ss'=x::xs/\X6 s x/\RD ss xs
end
theorem xU {t:TV}:pD t t:= .inl rfl
theorem xO:∀{ts:List TV},tZ ts ts
 |[]=>rfl
 |t::ts=>⟨t,ts,rfl,xU,xO⟩
theorem tZ.c {t x:TV} {ts xs:List TV} (h:pD t x) (k:tZ ts xs):tZ (t::ts) (x::xs):=⟨x,xs,rfl,h,k⟩
theorem pD.s {e sz:Nat} {a cells':List TV} (h:BH a=cells'):pD (.sl true e sz a) (.sl false e sz cells'):= .inr ⟨e,sz,a,cells',rfl,h,rfl⟩
mutual
theorem zL:∀{s:SV},X6 s s
 | .one t=>⟨t,rfl,xU⟩
 | .agg cs=>⟨cs,rfl,xO⟩
 | .tup ss=>⟨ss,rfl,mY⟩
theorem mY:∀{ss:List SV},RD ss ss
 |[]=>rfl
 |s::ss=>⟨s,ss,rfl,zL,mY⟩
end
theorem X6.a {cs cs':List TV} (h:tZ cs cs'):X6 (.agg cs) (.agg cs'):=⟨cs',rfl,h⟩
theorem X6.o {t t':TV} (h:pD t t'):X6 (.one t) (.one t'):=⟨t',rfl,h⟩
theorem ABv {ss':List SV} (h:RD ss ss'):X6 (.tup ss) (.tup ss'):=⟨ss',rfl,h⟩
theorem RD.c {xs:List SV} {s x:SV} (h:X6 s x) (k:RD ss xs):RD (s::ss) (x::xs):=⟨x,xs,rfl,h,k⟩
def IB (F U F' U':List Nat):Prop:=F'.Sublist F/\∀b∈U',b∈U\/(b∈F/\b∉F')
theorem QU {F1 F2 U1 U2 F1' F2' U1' U2':List Nat} (hd:(F1++F2).Nodup) (h:IB F1 U1 F1' U1') (k:IB F2 U2 F2' U2'):IB (F1++F2) (U1++U2) (F1'++F2') (U1'++U2'):=by
 obtain⟨_,_,hd⟩:=Bo.1 hd;refine⟨h.1.append k.1,λb hb=>?_⟩
 rcases Ai.1 hb with hb|hb
 ·rcases h.2 b hb with q|⟨q1,q2⟩
  ·exact .inl (by simp [q])
  refine .inr ⟨by simp [q1],λhc=>?_⟩
  rcases Ai.1 hc with hc|hc
  ·exact q2 hc
  exact hd b q1 b (k.1.subset hc) rfl
 rcases k.2 b hb with q|⟨q1,q2⟩
 ·exact .inl (by simp [q])
 refine .inr ⟨by simp [q1],λhc=>?_⟩
 rcases Ai.1 hc with hc|hc
 ·exact hd b (h.1.subset hc) b q1 rfl
 exact q2 hc
theorem IB.refl:IB F U F U:=⟨List.Sublist.refl _,λb hb=> .inl hb⟩
theorem yP {t t':TV} (h:Cz w t v F U) (k:pD t t'):∃F' U',Cz w t' v F' U'/\IB F U F' U':=by
 rcases k with rfl|⟨e,sz,a,cells',rfl,rfl,rfl⟩
 ·exact⟨F,U,h,IB.refl⟩
 obtain⟨U',h1,h2⟩:=QM h;exact⟨[],U',h1,List.nil_sublist _,λb hb=>(h2 b hb).elim (λq=> .inr ⟨q,by simp⟩) .inl⟩
end Go.TI
