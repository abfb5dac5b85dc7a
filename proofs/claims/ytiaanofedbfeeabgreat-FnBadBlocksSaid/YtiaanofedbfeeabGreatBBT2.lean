/- What walks of Go code need. No condition. -/
import Derived.Test.YtiaanofedbfeeabGreatBBT1
import Derived.Orders
import Derived.Still
import Derived.StillTail
import Derived.OrdersHeld
import Derived.Deep.Slices
import Derived.ChangeOld
import Derived.DataReads
import Derived.Lib.ReflectliteSwap
import Derived.Deep.Upon
import Derived.KernelRfl
set_option linter.unusedSimpArgs false
set_option linter.unusedVariables false
namespace Go.TI
open Go Go.RowKit
def ADf (ls:List (Nat×SV)) (bs:List (Root×List TV)):St where
 slots:=λn=>(ls.lookup n).getD<|.one .junk
 boxes:=λr=>bs.lookup r
 ver:=λ_=>0
 gen:=λ_=>0
def uC (ls:List Nat) (bs:List Root):Root->Bool
 | .slot n=>ls.contains n
 |r=>bs.contains r
def VE (E:St) (ls:List Nat) (bs:List Root):TV->TV
 | .view r v q j=>if E.ver r=v/\uC ls bs r=true then .view r 0 q j else .junk
 | .ptr r v q j=>if E.stamp r q=v/\uC ls bs r=true then .ptr r 0 q j else .junk
 |t=>t
def nSV (E:St) (ls:List Nat) (bs:List Root):SV->SV
 | .one t=> .one (VE E ls bs t)
 | .agg cs=> .agg (cs.map (VE E ls bs))
 | .tup _=> .one .junk
def MY (E:St) (ls:List Nat) (bs:List Root):St:={ADf (ls.map λn=>(n,nSV E ls bs<|E.slots n)) (bs.map λr=>(r,(E.boxes r).getD []))with amb:=E.amb,fz:=E.fz}
theorem VH {f:Nat->SV}:∀{ls:List Nat} {n:Nat},((ls.map λn=>(n,f n)).lookup n)=if ls.contains n=true then some (f n)else none
 |[],n=>rfl
 |m::ls,n=>by
  simp only[BJ,List.lookup_cons,List.contains_cons];by_cases h:n=m
  ·subst h;simp
  have:(n==m)=false:=by simpa using h
  rw[this,VH];simp
theorem IX {f:Root->List TV}:∀{bs:List Root} {r:Root},((bs.map λr=>(r,f r)).lookup r)=if bs.contains r=true then some (f r)else none
 |[],r=>rfl
 |s::bs,r=>by
  simp only[BJ,List.lookup_cons,List.contains_cons];by_cases h:r=s
  ·subst h;simp
  have:(r==s)=false:=by simpa using h
  rw[this,IX];simp
variable {E E':St} {P:Program} {N i sz fuel d k j by_:Nat} {ops:Array Oper} {Q:Exit->St->Prop} {α γ β S:Type} {w w':World} {K:St->Prop} {dn FA UA F U:List Nat} {rest:List Oper} {listed:Array Bool} {FS US:Root->List Nat} {v:Value} {oo:Oper} {blk:Root->Nat} {n:Int} {as:List AV} {fn:Func} {md:Region.Mode} {o1 o2:Operand} {y:Code} {lo:Option Operand} {A' A:R2} {sf:FuncId} {fs:Array Field} {fd:Field} {zs cs':List TV} {T:Nat->Bool} {k2 k1:IntKind} {G:Prop} {ss:List SV} {f:α->List TV} {l:List α} {x:α} {tx:Option β} {ty:Option β} {z:α} {Am:List γ->R2} {lt:γ->γ->Bool}
theorem zX {ls:List Nat} {bs:List Root} {o:Bool} {e sz:Nat} {a:List TV}:VE E ls bs (.sl o e sz a)= .sl o e sz a:=rfl
theorem AAB {ls:List Nat} {bs:List Root} {cs a:List TV} {c:Nat} {q:List Nat} (h:BN cs (c::q)=some a):BN (cs.map (VE E ls bs)) (c::q)=some a:=by
 simp only[BN,AP]at h⊢;split at h
 ·rename_i o e sz b hc;simp only[hc,Bx,zX];exact h
 cases h
theorem vR {ls:List Nat} {bs:List Root} {r:Root} (hk:uC ls bs r=true) (hb:∀r∈bs,r.mem=true/\(E.boxes r).isSome=true) (c:E.boxes .hand=none):
  (∀n,r≠ .slot n)->(MY E ls bs).root r=E.root r:=by
 intro hn;have a:∀r,bs.contains r=true->(bs.map λr=>(r,(E.boxes r).getD [])).lookup r=E.boxes r:=by
  intro r hr;rw[IX,Ay hr];obtain⟨cs,b⟩:=Nc.1 (hb r<|by simpa using hr).2;rw[b];rfl
 cases r with
 |slot n=>exact absurd rfl<|hn n
 |box n=>exact a _ hk
 |ext n=>exact a _ hk
 |hand=>exact a _ hk
theorem fF {n:Nat} {ls:List Nat} {bs:List Root}:(MY E ls bs).slots n=if ls.contains n=true then nSV E ls bs (E.slots n)else .one .junk:=by
 simp only[MY,ADf];rw[VH];split<;>rfl
theorem Z8 {ls:List Nat} {bs:List Root} {r:Root} {q:List Nat} (hk:uC ls bs r=true) (hb:∀r∈bs,r.mem=true/\(E.boxes r).isSome=true) (d:E.boxes .hand=none) (hq:q=[]->r.mem=true\/Ll (E.place r q j)=true) (hs:(E.place r q j).isSome=true):(MY E ls bs).place r q j=E.place r q j:=by
 by_cases b:∃n,r= .slot n
 ·obtain⟨n,rfl⟩:=b;have hk':ls.contains n=true:=hk;simp only[St.place,St.root,Aa]at hs hq⊢;rw[fF,Ay hk'];have a:(nSV E ls bs<|E.slots n).cells=(E.slots n).cells.map (VE E ls bs)\/(E.slots n).cells=[]:=by
   cases E.slots n with
   |one t=>exact .inl rfl
   |agg cs=>exact .inl rfl
   |tup ss=>exact .inr rfl
  rcases a with hc|hc
  ·rw[hc]
   cases q with
   |nil=>
    rcases hq rfl with h1|h1
    ·cases h1
    simp only[BN,Aa]at h1⊢;rw[AP]
    cases hx:(E.slots n).cells[j]? with
    |none=>rw[hx]at h1;cases h1
    |some t=>
     rw[hx]at h1;cases t<;>first|rfl|cases h1
   |cons c q=>
    cases hx:BN (E.slots n).cells (c::q)with
    |none=>rw[hx]at hs;cases hs
    |some row=>rw[AAB hx]
  rw[hc]at hs;exfalso
  cases q with
  |nil=>simp[BN]at hs
  |cons c q=>simp[BN]at hs
 simp only[St.place,vR hk hb d λn e=>b ⟨n,e⟩]
theorem aX {a:Act} {ls:List Nat} {bs:List Root} (hb:∀r∈bs,r.mem=true/\(E.boxes r).isSome=true) (d:E.boxes .hand=none) {t:TV} (h:CT w a E blk t v F U):CT w a (MY E ls bs) blk (VE E ls bs t) v F U:=by
 cases t with
 |view r ver q j=>
  obtain⟨rfl,rfl,_,hc⟩:=h;simp only[VE];split
  ·rename_i c;obtain⟨h1,h2⟩:=hc c.1;refine⟨rfl,rfl,Lh _,λ_=>⟨h1,?_⟩⟩;rw[Z8 c.2 hb d (λ_=> .inr h2) (by cases hx:E.place r q j with|none=>rw[hx]at h2;cases h2|some _=>rfl)];exact h2
  exact⟨rfl,rfl⟩
 |ptr r ver q j=>
  obtain⟨rfl,rfl,_,hc⟩:=h;simp only[VE];split
  ·rename_i c;obtain⟨h1,ad,h2,h3⟩:=hc c.1;refine⟨rfl,rfl,Lh _,λ_=>⟨?_,ad,h2,h3⟩⟩;rw[Z8 c.2 hb d (λhq=> .inl (by subst hq;cases r<;>first|rfl|(simp[pa]at h2;done))) h1];exact h1
  exact⟨rfl,rfl⟩
 |junk=>exact h
 |int k n=>exact h
 |bool b=>exact h
 |str s=>exact h
 |fn _ _ _=>exact h
 |adr _=>exact h
 |hdr _ _ _=>exact h
 |sl o e sz cells=>exact h
theorem XI {a:Act} {ls:List Nat} {bs:List Root} (hb:∀r∈bs,r.mem=true/\(E.boxes r).isSome=true) (b:E.boxes .hand=none):∀{ts:List TV} {vs:List Value} {F U:List Nat},CW w a E blk ts vs F U->CW w a (MY E ls bs) blk (ts.map (VE E ls bs)) vs F U
 |[],_,_,_,h=>h
 |t::ts,vs,F,U,h=>by
  obtain⟨v,c,F1,F2,U1,U2,h1,h2,h3,h4,h5⟩:=h;exact⟨v,c,F1,F2,U1,U2,h1,h2,h3,aX hb b h4,XI hb b h5⟩
theorem CO.norm {w0:Base} {a:Act} (h:CO w0 FA UA N w a E blk FS US) (ls:List Nat) (bs:List Root) (hb:∀r∈bs,r.mem=true/\(E.boxes r).isSome=true):
  ∃FS' US',CO w0 FA UA N w a (MY E ls bs) blk FS' US'/\FS' .hand=[]/\US' .hand=[]:=by
 have e:=h.nohand
 let st:Root->Bool:=λr=>match r with
  | .slot n=>ls.contains n&&(match E.slots n with| .tup _=>false|_=>true)
  | .hand=>false
  |r=>bs.contains r
 let FS':Root->List Nat:=λr=>if st r=true then FS r else []
 let US':Root->List Nat:=λr=>if st r=true then US r else []
 have hF:∀r b,b∈FS' r->b∈FS r:=by intro r b hx;simp only[FS']at hx;split at hx;exact hx;cases hx
 have hU:∀r b,b∈US' r->b∈US r:=by intro r b hx;simp only[US']at hx;split at hx;exact hx;cases hx
 refine⟨FS',US',?_,by simp[FS',st],by simp[US',st]⟩;constructor
 ·intro n;rw[fF];have hs:=h.slot n
  cases hc:ls.contains n with
  |false=>
   have:st (.slot n)=false:=by show(ls.contains n&&_)=false;rw[hc];rfl
   simp[EE,CT,TV.isJunk,FS',US',this]
  |true=>
   rw[Ay rfl]
   cases c:E.slots n with
   |one t=>
    have:st (.slot n)=true:=by show(ls.contains n&&_)=true;rw[hc,c];rfl
    rw[c]at hs;simp only[EE]at hs;simp only[nSV,EE,FS',US',this,BQ];refine⟨aX hb e hs.1,λhj=>hs.2 ?_⟩;cases t<;>first|rfl|cases hj
   |agg cs=>
    have:st (.slot n)=true:=by show(ls.contains n&&_)=true;rw[hc,c];rfl
    rw[c]at hs;simp only[EE]at hs;obtain⟨vs,h1,h2⟩:=hs;simp only[nSV,EE,FS',US',this,BQ];exact⟨vs,h1,XI hb e h2⟩
   |tup ss=>
    have:st (.slot n)=false:=by show(ls.contains n&&_)=false;rw[hc,c];rfl
    simp[nSV,EE,CT,TV.isJunk,FS',US',this]
 ·intro r hr
  cases hc:bs.contains r with
  |false=>
   have d:st r=false:=by cases r<;>first|exact hc|cases hr
   refine .inl ⟨?_,by simp[FS',d],by simp[US',d]⟩;show(bs.map λr=>(r,(E.boxes r).getD [])).lookup r=none;rw[IX,Av (by rw[hc];simp)]
  |true=>
   have d:st r=true:=by cases r<;>first|exact hc|cases hr
   have f:(MY E ls bs).boxes r=E.boxes r:=by
    show(bs.map λr=>(r,(E.boxes r).getD [])).lookup r=_;rw[IX,Ay hc];obtain⟨cs,g⟩:=Nc.1 (hb r<|by simpa using hc).2;rw[g];rfl
   rw[f];simp only[FS',US',d,BQ];exact h.box r hr
 ·show(bs.map λr=>(r,(E.boxes r).getD [])).lookup .hand=none;rw[IX,Av];intro hx;have:=(hb .hand<|by simpa using hx).1;cases this
 ·intro r;simp only[FS'];split
  ·exact h.nodup r
  exact C7
 ·exact λr s i b hx hy=>h.dis r s i b (hF r b hx)<|hF s b hy
 ·exact λr s b hx hy=>h.disU r s b (hF r b hx)<|hU s b hy
 ·exact λr b hx=>h.inF r b<|hF r b hx
 ·exact λr b hx=>h.inU r b<|hU r b hx
 ·exact h.disA
 ·exact h.os
 ·exact h.tape
 ·exact h.output
 ·exact h.size
 ·exact h.keep
 ·exact h.len
 ·exact h.nodef
 ·exact h.xblk
 ·exact h.ambB
 ·exact h.ambI
 ·exact h.frz
 ·exact h.ambF
 exact h.pin
theorem Wp.norm {c:Code} (ls:List Nat) (bs:List Root) (E':St) (hb:bs.all (λr=>r.mem&&(E.boxes r).isSome)=true) (hE:MY E ls bs=E') (h:Wp P N c E' Q):Wp P N c E Q:=by
 intro w0 FA UA w a blk FS US hr hF hU
 obtain⟨FS',US',h1,h2,h3⟩:=hr.norm ls bs (λr hm=>by
  have:=Jj.1 hb r hm
  simpa using this)
 rw[hE]at h1;exact h _ _ _ _ _ _ _ _ h1 h2 h3
def AWp (P:Program) (N:Nat) (ops:Array Oper) (b:Nat) (listed:Array Bool) (E:St) (Q:Exit->St->Prop):Prop:=∀(w0:Base) (FA UA:List Nat) (w:World) (a:Act) (blk:Root->Nat) (FS US:Root->List Nat),CO w0 FA UA N w a E blk FS US->FS .hand=[]->US .hand=[]->wpAny P .any ops (oZ w0 FA UA N Q) b listed a w
def AOp (P:Program) (N:Nat) (ops:Array Oper) (i:Nat) (E:St) (K:St->Prop) (Q:Exit->St->Prop):Prop:=∀(w0:Base) (FA UA:List Nat) (w:World) (a:Act) (blk:Root->Nat) (FS US:Root->List Nat),CO w0 FA UA N w a E blk FS US->FS .hand=[]->US .hand=[]->
  wpOp P ops (oZ w0 FA UA N Q) i (λa' w'=>∃E' blk' FS' US',K E'/\CO w0 FA UA N w' a' E' blk' FS' US'/\FS' .hand=[]/\US' .hand=[]) a w
theorem AEp (hr:Region.ready .any ops listed=[]) (h:Q .normal E):AWp P N ops fuel listed E Q:=
 λw0 FA UA w a blk FS US k1 k2 k3=>wpAny_done hr ⟨E,blk,FS,US,h,k1,k2,k3⟩ fuel
theorem AWp.all (rs:List Nat) (hr:Region.ready .any ops listed=rs) (b:rs≠ []) (h:∀i∈rs,AOp P N ops i E (λE'=>AWp P N ops fuel (listed.setIfInBounds i true) E' Q) Q):AWp P N ops (fuel+1) listed E Q:=
 λw0 FA UA w a blk FS US k1 k2 k3=>wpAny_all hr b λi hi=>wpOp_mono (λa' w' ⟨E',blk',FS',US',m1,m2,m3,m4⟩=>m1 _ _ _ _ _ _ _ _ m2 m3 m4)<|h i hi _ _ _ _ _ _ _ _ k1 k2 k3
theorem AWp.one (i:Nat) (hr:Region.ready .any ops listed=[i]) (h:AOp P N ops i E (λE'=>AWp P N ops fuel (listed.setIfInBounds i true) E' Q) Q):AWp P N ops (fuel+1) listed E Q:=
 AWp.all [i] hr (by simp) λj hj=>by
  have:j=i:=by simpa using hj
  subst this;exact h
def FL (P:Program) (N:Nat) (ops:Array Oper) (l:List Oper) (E:St) (K:St->Prop):Prop:=∀(w0:Base) (FA UA:List Nat) (w:World) (a:Act) (blk:Root->Nat) (FS US:Root->List Nat),CO w0 FA UA N w a E blk FS US->FS .hand=[]->US .hand=[]->
  wpStill P ops w (λa'=>∃E' blk' FS' US',K E'/\CO w0 FA UA N w a' E' blk' FS' US'/\FS' .hand=[]/\US' .hand=[]) l a
def JL (P:Program) (E:St) (o:Oper):Option SV:=match o.op with
 | .build t parts=>YD P E t parts.toList
 |_=>Bi P E o
theorem Za {w0:Base} {a:Act} {o:Oper} (h:CO w0 FA UA N w a E blk FS US) {s:SV} (hs:JL P E o=some s):Ft P w a E blk FS US o s:=by
 unfold JL at hs;split at hs
 ·rename_i ho;exact m9 h ho hs
 exact Ut h hs
theorem FL.nil (h:K E):FL P N ops [] E K:=λw0 FA UA w a blk FS US k1 k2 k3=>⟨E,blk,FS,US,h,k1,k2,k3⟩
theorem FL.op {o:Oper} (s:SV) (hg:B7 P ops E o=some true) (hd:o.dst=some d) (hN:d<N) (hs:JL P E o=some s) (h:FL P N ops rest (E.put (some d) s) K):FL P N ops (o::rest) E K:=by
 intro w0 FA UA w a blk FS US k1 k2 k3;obtain⟨v,U,h1,h2,h3⟩:=Za k1 hs;have hr:=h1 w λr _=>⟨λ_ _=>rfl,λ_ _=>rfl⟩;simp only[wpStill,Ck k1 hg,BQ,Oper.still,hr,Oper.stillUpon_value];rw[hd];refine h _ _ _ _ _ _ _ _ (k1.put hN h2<|PO k1 h3 _) ?_ ?_
 ·rw[Bt (by simp),k2]
 rw[Bt (by simp),k3]
theorem AAT {o:Oper} (hd:o.dst=some d) (hN:d<N) (hg:B7 P ops E o=some false) (h:FL P N ops rest (E.put (some d) (.tup [])) K):FL P N ops (o::rest) E K:=by
 intro w0 FA UA w a blk FS US hr hF hU;simp only[wpStill,Ck hr hg];rw[Av (by simp),hd];refine h _ _ _ _ _ _ _ _ (hr.put (F:=[]) (U:=[]) hN (by simp only[EE];exact⟨[],rfl,by simp[Pj]⟩) bP.none) ?_ ?_
 ·rw[Bt (by simp),hF]
 rw[Bt (by simp),hU]
theorem ADP {l:List Oper} (t:Nat) {b:Bool} (_:E.cell1 P 0 (.tmp t)=some (.bool b)) (ht:b=true->FL P N ops l E K) (hf:b=false->FL P N ops l E K):FL P N ops l E K:=by
 cases b
 ·exact hf rfl
 exact ht rfl
theorem Rg {l:List Oper} {id:Nat} (hm:P.follows .mixedOrders=true) (hB:Region.lexB .any l.toArray=true) (h:FL P N l.toArray l E (λE'=>Q .normal E')):Wp P N (.region id l.toArray true) E Q:=by
 intro w0 FA UA w a blk FS US k1 k2 k3;obtain⟨FS',US',m1,m2,m3⟩:=k1.drop (w':={w with drawn:=w.drawn+1}) (Au _) rfl rfl rfl λ_ _ _=>rfl;exact wp_region_still_lit hm hB<|h _ _ _ _ _ _ _ _ m1 m2 m3
section
variable {a:Act}
theorem PZ {Q1 Q2:Act->Prop} (hq:∀a,Q1 a->Q2 a):∀{l:List Oper} {a:Act},wpStill P ops w Q1 l a->wpStill P ops w Q2 l a
 |[],a,h=>hq a h
 |o::l,a,h=>by
  simp only[wpStill]at h⊢;split
  ·rename_i hw;rw[Ay hw]at h;exact Oper.still_mono (λa k=>PZ hq k) h
  rename_i hw;rw[Av hw]at h;exact PZ hq h
end
theorem rZ {l:List Oper} {id:Nat} (n:Nat) (hm:P.follows .mixedOrders=true) (hB:Region.lexTailB .any l.toArray n=true) (h:FL P N l.toArray (l.take n) E (λE'=>Hj P N l.toArray (l.drop n) E' Q)):Wp P N (.region id l.toArray true) E Q:=by
 intro w0 FA UA w a blk FS US k1 k2 k3;obtain⟨FS',US',m1,m2,m3⟩:=k1.drop (w':={w with drawn:=w.drawn+1}) (Au _) rfl rfl rfl λ_ _ _=>rfl;refine wp_region_still_tail n hm hB<|PZ ?_<|h _ _ _ _ _ _ _ _ m1 m2 m3;rintro a' ⟨E',blk',FS2,US2,h1,h2,h3,h4⟩;exact h1 _ _ _ _ _ _ _ _ h2 h3 h4
def AL (f:α->List TV) (l:List α):List TV:=(l.map f).flatten
def gi (l:List α) (i:Int):Option α:=if 0<=i then l[i.toNat]? else none
def si (l:List α) (i:Int) (x:α):List α:=l.set i.toNat x
def ln (l:List α):Int:=(l.length:Nat)
theorem EV (hf:∀x,(f x).length=sz):∀l:List α,(AL f l).length=l.length*sz
 |[]=>by simp[AL]
 |x::l=>by
  have:=EV hf l;simp only[AL,BJ,UQ,Ai,A7,hf]at this⊢;rw[this,DB,Nat.add_comm]
theorem Hg (x:α) (l:List α):AL f (x::l)=f x++AL f l:=rfl
theorem S6 (l m:List α):AL f (l++m)=AL f l++AL f m:=by simp[AL]
theorem Tn {i:Int} (h:gi l i=some x):0<=i/\i.toNat<l.length/\l[i.toNat]?=some x:=by
 unfold gi at h;split at h
 ·exact⟨by assumption,(Ag.1 h).1,h⟩
 cases h
theorem Kt (hf:∀x,(f x).length=sz):∀(l:List α) (n:Nat),(AL f l).drop (n*sz)=AL f (l.drop n)
 |l,0=>by simp
 |[],n+1=>by simp[AL]
 |x::l,n+1=>by
  rw[Hg,List.drop_succ_cons,<-Kt hf l n,DB,Nat.add_comm,<-CI,G5 (hf x)]
theorem AAr {i:Int} (hf:∀x,(f x).length=sz) (h:gi l i=some x):((AL f l).drop (i.toNat*sz)).take sz=f x:=by
 obtain⟨_,h1,h2⟩:=Tn h;rw[Kt hf,AT h1,Hg,Rz<|hf _];rw[Ab h1]at h2
 injection h2 with h2
 rw[h2]
theorem OZ {i:Int} (hf:∀x,(f x).length=sz) (h:gi l i=some x) (hk:k<sz):(AL f l)[i.toNat*sz+k]?=(f x)[k]? :=by
 rw[<-AAr hf h,CH,Ay hk,C4]
theorem kC {i:Int} (hf:∀x,(f x).length=sz) (h:gi l i=some x):(i.toNat+1)*sz<=(AL f l).length:=by
 rw[EV hf];exact BS _ (Tn h).2.1
theorem RI (hf:∀x,(f x).length=sz):∀(l:List α) (n:Nat) (y:List TV) (z:α) {k:Nat} {x:α},l[n]?=some x->k+y.length<=sz->setRow (f x) k y=f z->setRow (AL f l) (n*sz+k) y=AL f (l.set n z)
 |[],n,y,z,k,x,h,_,_=>by simp at h
 |x0::l,0,y,z,k,x,h,hk,he=>by
  simp at h;subst h;rw[Dr,Hg,Hg,<-he];have h1:=hf x0;simp only[setRow,Nat.zero_mul,HU];rw[FO (by omega),List.drop_append_of_le_length<|by omega];simp
 |x0::l,n+1,y,z,k,x,h,hk,he=>by
  have ih:=RI hf l n y z (by simpa using h) hk he;rw[JG,Hg,Hg,<-ih];have h1:=hf x0;simp only[setRow,DB];rw[show n*sz+sz+k=(f x0).length+(n*sz+k) by omega,PY,Xg,List.drop_append,AN (by omega),DY<|by omega];simp
theorem Wx {i:Int} {y:List TV} (hf:∀x,(f x).length=sz) (h:gi l i=some x) (hk:Nat.ble (k+y.length) sz=true) (he:setRow (f x) k y=f z):setRow (AL f l) (i.toNat*sz+k) y=AL f (si l i z):=
 RI hf l _ y z (Tn h).2.2 (by simpa[PU]using hk) he
theorem lO {n:Nat} (hf:∀x,(f x).length=sz) (h:l[n]?=some x) {t:TV} (hk:k<sz) (he:(f x).set k t=f z):(AL f l).set (n*sz+k) t=AL f (l.set n z):=by
 have hl:(n*sz+k)<(AL f l).length:=by
  rw[EV hf];have:=(Ag.1 h).1;have:(n+1)*sz<=l.length*sz:=BS _ this;rw[DB]at this;omega
 have a:∀{c:List TV} {m:Nat},m<c.length->c.set m t=setRow c m [t]:=by
  intro c m hm;rw[List.set_eq_take_append_cons_drop,Ay hm];simp[setRow]
 rw[a hl];refine RI hf l n [t] z h hk ?_;rw[<-a (by rw[hf];exact hk)];exact he
theorem uO {i:Int} (hf:∀x,(f x).length=sz) (h:gi l i=some x) (hk:k<sz) {q:List Nat}:BN (AL f l) ((i.toNat*sz+k)::q)=BN (f x) (k::q):=by
 simp only[BN,OZ hf h hk]
theorem ABA {i:Int} (hf:∀x,(f x).length=sz) (h:gi l i=some x) (hk:k<sz) {q:List Nat}:MX (AL f l) ((i.toNat*sz+k)::q)=MX (f x) (k::q):=by
 simp only[MX,OZ hf h hk]
theorem ABi {i:Int} (hf:∀x,(f x).length=sz) (h:gi l i=some x) (hk:k<sz) {q:List Nat} {g:List TV->List TV} (he:DL (f x) (k::q) g=f z):DL (AL f l) ((i.toNat*sz+k)::q) g=AL f (si l i z):=by
 rw[DL]at he⊢;rw[OZ hf h hk];split
 ·rename_i o e sz' a hc;rw[hc]at he;exact lO hf (Tn h).2.2 hk he
 rename_i hc;split at he
 ·rename_i o e sz' a b;exact absurd b<|hc _ _ _ _
 have:(AL f l).set (i.toNat*sz+k) ((f x)[k]?.getD .junk)=AL f (si l i z):=by
  refine lO hf (Tn h).2.2 hk ?_;rw[<-he];have:k<(f x).length:=by rw[hf];exact hk
  rw[Ab this];simp
 rw[<-this];have h2:=OZ hf h hk;have h3:k<(f x).length:=by rw[hf];exact hk
 rw[Ab h3]at h2⊢;exact(P2 h2).symm
abbrev I (n:Int):SV:= .one (.int .i64 n)
abbrev B (b:Bool):SV:= .one (.bool b)
abbrev Y (s:ByteArray):SV:= .one (.str s)
def Ql (body:S->Option (S⊕α)):Nat->S->Option α
 |0,_=>none
 |n+1,s=>match body s with
  |none=>none
  |some (.inl s')=>Ql body n s'
  |some (.inr a)=>some a
theorem W2 {body:S->Option (S⊕α)} {a:α}:∀{n m:Nat} {s:S},Ql body n s=some a->n<=m->Ql body m s=some a
 |0,_,_,h,_=>by cases h
 |n+1,0,_,_,h=>by omega
 |n+1,m+1,s,h,hm=>by
  simp only[Ql]at h⊢;split at h
  ·cases h
  ·exact W2 h (by omega)
  exact h
open Classical in
noncomputable def Ap (body:S->Option (S⊕α)) (s:S):Option α:=
 if h:∃a n,Ql body n s=some a then some h.choose else none
theorem HM {body:S->Option (S⊕α)} {s:S} {a:α}:Ap body s=some a↔∃n,Ql body n s=some a:=by
 unfold Ap;constructor
 ·intro h;split at h
  ·rename_i he
   injection h with h
   rw[<-h];exact he.choose_spec
  cases h
 rintro⟨n,h⟩;have he:∃a n,Ql body n s=some a:=⟨a,n,h⟩;rw[dif_pos he];obtain⟨m,hm⟩:=he.choose_spec;have h1:=W2 hm<|Nat.le_max_left m n;have h2:=W2 h<|Nat.le_max_right m n;rw[h1]at h2;exact h2
theorem A0 (body:S->Option (S⊕α)) (s:S):Ap body s=match body s with
  |none=>none
  |some (.inl s')=>Ap body s'
  |some (.inr a)=>some a:=by
 have b:∀a,Ap body s=some a↔(match body s with|none=>none|some (.inl s')=>Ap body s'|some (.inr a)=>some a)=some a:=by
  intro a;rw[HM];constructor
  ·rintro⟨n,h⟩
   cases n with
   |zero=>cases h
   |succ n=>
    simp only[Ql]at h;split at h
    ·cases h
    ·rename_i s' hb;exact HM.2 ⟨n,h⟩
    rename_i a' hb;simpa only[hb]using h
  intro h;split at h
  ·cases h
  ·rename_i s' hb;obtain⟨n,hn⟩:=HM.1 h;exact⟨n+1,by simp only[Ql,hb];exact hn⟩
  rename_i a' hb;exact⟨1,by simp only[Ql,hb];exact h⟩
 cases hx:Ap body s with
 |some a=>exact((b a).1 hx).symm
 |none=>
  cases hy:(match body s with|none=>none|some (.inl s')=>Ap body s'|some (.inr a)=>some a:Option α)with
  |none=>rfl
  |some a=>rw[(b a).2 hy]at hx;cases hx
def mvs (E:St) (l:List (Root×List TV)):St:=l.foldl (λE x=>(E.setRoot x.1 x.2).bump x.1) E
def St.rs (E:St) (t:Nat) (b:Bool):St:={E with slots:=Cg E.slots t (B b)}
theorem eV {t:Nat} {b:Bool} (h:E.slots t=B b):E.rs t b=E:=by
 have:Cg E.slots t (B b)=E.slots:=by
  funext n;simp only[Cg];split
  ·rename_i hn;rw[hn,h]
  rfl
 unfold St.rs;rw[this]
theorem Hj.o (d:Nat) (s:SV) (h:Hj P N ops rest (E.put (some d) s) Q) (hs:CA P N false E oo=some (E.put (some d) s):=by rfl) (hg:B7 P ops E oo=some true:=by rfl):Hj P N ops (oo::rest) E Q:=Hj.op false hg hs h
theorem Hj.b (m:List (Root×List TV)) (d:Nat) (xs:List TV) (h:Hj P N ops rest ((mvs E m).newBox d xs) Q) (hs:CA P N false E oo=some ((mvs E m).newBox d xs):=by rfl) (hg:B7 P ops E oo=some true:=by rfl):Hj P N ops (oo::rest) E Q:=Hj.op false hg hs h
theorem AE9 (mv:Bool) (m:List (Root×List TV)) (d:Nat) (s:SV) (h:Hj P N ops rest ((mvs E m).put (some d) s) Q) (hs:CA P N mv E oo=some ((mvs E m).put (some d) s):=by rfl) (hg:B7 P ops E oo=some true:=by rfl):Hj P N ops (oo::rest) E Q:=Hj.op mv hg hs h
theorem ADA {l:List Oper} {r:β} {b:Bool} (h:(bif b then tx else ty)=some r) (t:Nat) (ht:tx=some r->Hj P N ops l (E.rs t true) Q) (hf:ty=some r->Hj P N ops l (E.rs t false) Q) (hc:E.slots t=B b:=by rfl):Hj P N ops l E Q:=by
 cases b
 ·rw[eV hc]at hf;exact hf h
 rw[eV hc]at ht;exact ht h
theorem Wp.c {r:β} {x:Code} {c:Operand} {b:Bool} (h:(bif b then tx else ty)=some r) (ht:tx=some r->Wp P N x E Q) (hf:ty=some r->Wp P N y E Q) (hc:E.cell1 P 0 c=some (.bool b):=by rfl):Wp P N (.cond c x y) E Q:=by
 refine Wp.cond hc (λhb=>?_) λhb=>?_
 ·subst hb;exact ht h
 subst hb;exact hf h
theorem AEh {x:Code} {c:Operand} (ht:Wp P N x E Q) (hc:E.cell1 P 0 c=some (.bool true):=by rfl):Wp P N (.cond c x y) E Q:=Wp.cond hc (λ_=>ht) λh=>by cases h
theorem AEi {x:Code} {c:Operand} (hf:Wp P N y E Q) (hc:E.cell1 P 0 c=some (.bool false):=by rfl):Wp P N (.cond c x y) E Q:=Wp.cond hc (λh=>by cases h) λ_=>hf
def pk (o:Oper):Bool:=match o.op with
 | .nilCheck _| .pick .. | .binOp .. | .unOp .. | .convert .. | .fieldAddr .. | .indexAddr .. | .load .. | .index .. | .slice .. =>true
 | .call c=>match c.callee with
  | .builtin .len| .builtin .min| .builtin .max=>true
  |_=>false
 |_=>false
theorem wM {o:Oper} {s:SV} {src dst:TypeId} {x:Operand} (ho:o.op= .convert src dst x) (hp:Bi P E o=some s):Tq P E d src dst x=none:=by
 unfold Bi at hp;simp only[ho]at hp;unfold Tq;split
 ·rename_i e hd;split
  ·rename_i b hs hb;simp only[hd,hs,hb]at hp;cases hp
  rfl
 rfl
theorem tD {o:Oper} {s:SV} (hp:Bi P E o=some s) (hd:o.dst=some d:=by rfl) (hN:Nat.blt d N=true:=by rfl) (hk:pk o=true:=by rfl):CA P N false E o=some (E.put (some d) s):=by
 have hN':d<N:=by simpa[B8]using hN
 unfold pk at hk;unfold CA;rw[hd];simp only[Ay hN'];split at hk<;>rename_i ho<;>try (cases hk;done)
 all_goals first|(simp only[ho,wM ho hp,hp,Bx];done)|simp only[ho,hp,Bx]
 rename_i c;split at hk<;>rename_i hc<;>try (cases hk;done)
 all_goals simp only[hc,Bx]
theorem tE {o:Oper} {s:SV} (hp:Bi P E o=some s) (hk:pk o=true:=by rfl):JL P E o=some s:=by
 unfold pk at hk;unfold JL;split at hk<;>rename_i ho<;>try (cases hk;done)
 all_goals simp only[ho];exact hp
theorem ADZ {o:Oper} {k:IntKind} (hf:∀x,(f x).length=sz) (r:Root) (q:List Nat) (j:Nat) (hx:gi l n=some x) {t e e':TypeId} {a i:Operand} {b:Bool} (hp:E.place r q j=some (.sl b e' sz (AL f l)):=by rfl) (ho:o.op= .indexAddr t a i:=by rfl) (ht:P.underlying t=some (.slice e):=by rfl) (hi:E.cell1 P 0 i=some (.int k n):=by rfl) (hr:E.ref a=some (r,q,j):=by rfl) (c:P.cellsOf e=sz:=by rfl) (h0:Nat.blt 0 sz=true:=by rfl):Bi P E o=some (.one<|.ptr r (E.ver r) (q++ [j])<|n.toNat*sz+0):=by
 have h0':0<sz:=by simpa[B8]using h0
 simp only[Bi,ho,ht,hi,hr,hp];rw[Ay ⟨c.symm,h0',(Tn hx).1,kC hf hx⟩];rfl
theorem AEM {o:Oper} {fl:Nat} (hf:∀x,(f x).length=sz) (r:Root) (q:List Nat) (k:Nat) (hx:gi l n=some x) {st:TypeId} {a:Operand} (hr:(E.root r).bind (λcs=>BN cs q)=some (AL f l):=by rfl) (ho:o.op= .fieldAddr st a fl:=by rfl) (hs:P.underlying st=some (.struct fs):=by rfl) (hp:E.ptr? a=some (r,q,n.toNat*sz+k):=by rfl) (b:fs[fl]?=some fd:=by rfl) (hc:Nat.beq (P.cellsOf fd.type) 0=false:=by rfl) {m:Nat} (hm:k+fd.offset=m:=by rfl) (hk:Nat.blt (k+fd.offset) sz=true:=by rfl):Bi P E o=some (.one<|.ptr r (E.stamp r q) q<|n.toNat*sz+m):=by
 subst hm;have hc':P.cellsOf fd.type≠0:=by intro h;rw[h]at hc;cases hc
 have hk':k+fd.offset<sz:=by simpa[B8]using hk
 have c:(E.place r q<|n.toNat*sz+k+fd.offset).isSome=true:=by
  obtain⟨cs,h1,h2⟩:=Aj.1 hr;simp only[St.place,h1,Aa,h2,PY,OZ hf hx hk'];rw[Ab (by rw[hf];exact hk')];rfl
 simp only[Bi,ho,hs,hp,b];rw[Av hc',Ay c,PY]
theorem AEL {o:Oper} (hf:∀x,(f x).length=sz) (r:Root) (q:List Nat) (k:Nat) (u:TV) (hx:gi l n=some x) {t:TypeId} {a:Operand} (hr:(E.root r).bind (λcs=>BN cs q)=some (AL f l):=by rfl) (ho:o.op= .load t a:=by rfl) (hp:E.ptr? a=some (r,q,n.toNat*sz+k):=by rfl) (ha:dM P t=false:=by rfl) (h1:P.cellsOf t=1:=by rfl) (hu:(P.underlying t).isSome=true:=by rfl) (hk:Nat.blt k sz=true:=by rfl) (hj:(f x)[k]?=some u:=by rfl):Bi P E o=some (.one<|see E r q (n.toNat*sz+k) u):=by
 have hk':k<sz:=by simpa[B8]using hk
 have b:=kC hf hx;rw[DB]at b;simp only[Bi,ho,hp,hr,ha,h1];rw[Ay (by omega),Av (by simp),Ay ⟨trivial,hu⟩,OZ hf hx hk',hj];rfl
theorem AEK {o:Oper} (hf:∀x,(f x).length=sz) (r:Root) (q:List Nat) (k m:Nat) (hx:gi l n=some x) {t:TypeId} {a:Operand} (hr:(E.root r).bind (λcs=>BN cs q)=some (AL f l):=by rfl) (ho:o.op= .load t a:=by rfl) (hp:E.ptr? a=some (r,q,n.toNat*sz+k):=by rfl) (ha:dM P t=true:=by rfl) (h1:P.cellsOf t=m:=by rfl) (hk:Nat.ble (k+m) sz=true:=by rfl):Bi P E o=some (.agg<|Vp E r q (n.toNat*sz+k)<|((f x).drop k).take m):=by
 have hk':k+m<=sz:=by simpa[PU]using hk
 have b:=kC hf hx;rw[DB]at b;simp only[Bi,ho,hp,hr,ha,h1];rw[Ay (by omega),Ay trivial,<-AAr hf hx,List.drop_take,List.take_take,Nat.min_eq_left (by omega),CI]
theorem ADY {o:Oper} (hf:∀x,(f x).length=sz) (l:List α) {t e e':TypeId} {a:Operand} {b:Bool} {r:Root} {q:List Nat} (ho:o.op= .call {callee:= .builtin .len,args:= #[a],argTypes:= #[t]}:=by rfl) (ht:P.underlying t=some (.slice e):=by rfl) (hr:E.ref a=some (r,q,j):=by rfl) (hp:E.place r q j=some (.sl b e' sz<|AL f l):=by rfl) (h0:Nat.blt 0 sz=true:=by rfl):Bi P E o=some (.one<|.int .i64<|ln l):=by
 have h0':0<sz:=by simpa[B8]using h0
 have:(AL f l).length/sz=l.length:=by rw[EV hf];exact N8 _ h0'
 simp only[Bi,ho,Pf,ht,St.sliceCells,hr,hp];rw[Ay h0',this];rfl
def sx (s:ByteArray) (i:Int):Option Int:=if 0<=i/\i<s.size then some (Bi.bt s i)else none
def sub (s:ByteArray) (l h:Int):Option ByteArray:=if 0<=l/\l<=h/\h<=s.size then some (s.extract l.toNat h.toNat)else none
def Ie (a b:ByteArray):Option ByteArray:=if((a.size+b.size:Nat):Int)>9223372036854775807 then none else some<|a++b
def FM (s:ByteArray):Int:=(s.size:Nat)
def seq (a b:ByteArray):Bool:=a.toList==b.toList
theorem AEJ {o:Oper} {k:IntKind} {s:ByteArray} {n b:Int} (h:sx s n=some b) {t:TypeId} {a i:Operand} (ho:o.op= .index t a i:=by rfl) (ht:P.underlying t=some .string:=by rfl) (ha:E.cell1 P t a=some (.str s):=by rfl) (hi:E.cell1 P 0 i=some (.int k n):=by rfl):
  Bi P E o=some (.one<|.int .u8 b):=by
 unfold sx at h;split at h
 ·rename_i hc
  injection h with h
  simp only[Bi,ho,ht,ha,hi];rw[Ay hc,h]
 cases h
section
variable {o:Oper}
theorem ADW {hi:Option Operand} {k k':IntKind} {s u:ByteArray} {l h:Int} (hx:sub s l h=some u) {t:TypeId} {a:Operand} (ho:o.op= .slice t a lo hi none:=by rfl) (ht:P.underlying t=some .string:=by rfl) (ha:E.cell1 P t a=some (.str s):=by rfl) (hl:(match lo with|some o=>E.cell1 P 0 o|none=>some<|.int .i64 0)=some (.int k l):=by rfl) (hh:(match hi with|some o=>E.cell1 P 0 o|none=>some<|.int .i64 s.size)=some (.int k' h):=by rfl):
  Bi P E o=some (.one<|.str u):=by
 unfold sub at hx;split at hx
 ·rename_i hc
  injection hx with hx
  have fin:(if 0<=l/\l<=h/\h<=(s.size:Int)then some (SV.one<|.str<|s.extract l.toNat h.toNat)else none)=some (.one<|.str u):=by rw[Ay hc,hx]
  cases lo with
  |none=>
   injection hl with hl
   injection hl with _ hl
   subst hl
   cases hi with
   |none=>
    injection hh with hh
    injection hh with _ hh
    subst hh;simpa only[Bi,ho,ht,ha]using fin
   |some y=>
    have hh':E.cell1 P 0 y=some (.int k' h):=hh;simpa only[Bi,ho,ht,ha,hh']using fin
  |some z=>
   have hl':E.cell1 P 0 z=some (.int k l):=hl
   cases hi with
   |none=>
    injection hh with hh
    injection hh with _ hh
    subst hh;simpa only[Bi,ho,ht,ha,hl']using fin
   |some y=>
    have hh':E.cell1 P 0 y=some (.int k' h):=hh;simpa only[Bi,ho,ht,ha,hl',hh']using fin
 cases hx
end
theorem AD1 {o:Oper} {x y:Operand} {a b u:ByteArray} (hx:Ie a b=some u) {t t':TypeId} (ho:o.op= .binOp .add t x y t':=by rfl) (ha:E.cell1 P t x=some (.str a):=by rfl) (hb:E.cell1 P t y=some (.str b):=by rfl):
  Bi P E o=some (.one<|.str u):=by
 unfold Ie at hx;split at hx
 ·cases hx
 rename_i hc
 injection hx with hx
 simp only[Bi,ho,ha,hb,WY,BQ,XL];rw[Av hc,hx];rfl
def J5 (cs:List TV):Bool:=cs.all λt=>match t with
 | .int .. | .bool _| .str _| .sl false .. =>true
 |_=>false
theorem Zf {E:St} {r:Root} {q:List Nat}:∀{cs:List TV} (c:Nat),J5 cs=true->Vp E r q c cs=cs
 |[],c,h=>rfl
 |t::ts,c,h=>by
  simp only[J5,FI,Ak]at h;have ih:=Zf (E:=E) (r:=r) (q:=q) (c+1)<|show J5 ts=true from h.2;simp only[Vp,ih]
  cases t with
  |sl o e sz cells=>cases o<;>first|rfl|(have:=h.1;simp at this)
  |_=>rfl
theorem Ro {E:St}:∀{cs:List TV},J5 cs=true->Fy E cs=some (cs,E)
 |[],h=>rfl
 |t::ts,h=>by
  simp only[J5,FI,Ak]at h;have ih:=Ro (E:=E)<|show J5 ts=true from h.2;have h1:=h.1;have hr:∀E1 E2 t,(∀r v q j,t≠ .view r v q j)->List.map (rst E1 E2 t) ts=ts:=by
   intro E1 E2 t ht;have:rst E1 E2 t=id:=by
    funext u;cases t<;>first|rfl|exact absurd rfl<|ht _ _ _ _
   rw[this,UO]
  rw[RA];cases t<;>simp only[DM]<;>first|(rw[hr _ _ _ (by intros;simp)];simp only[ih])|(simp at h1;done)
theorem Uw (hf:∀x,J5 (f x)=true):∀l:List α,J5 (AL f l)=true
 |[]=>rfl
 |x::l=>by
  have:=Uw hf l;rw[Hg];unfold J5 at*;rw[List.all_append,hf,this];rfl
def ap (by_:Nat) (l m:List α):Option (List α):=if(l.length+m.length)*by_<=140737488355328 then some (l++m)else none
def mk (by_:Nat) (z:α) (n:Int):Option (List α):=if 0<=n/\(by_:Int)*n<=281474976710656/\n<=9223372036854775807 then some (List.replicate n.toNat z)else none
theorem ACg {l m u:List α} (h:ap by_ l m=some u):u=l++m/\(l.length+m.length)*by_<=140737488355328:=by
 unfold ap at h;split at h
 ·injection h with h;exact⟨h.symm,by assumption⟩
 cases h
theorem RV (h:f z=zs):∀n,(List.replicate n zs).flatten=AL f (List.replicate n z)
 |0=>rfl
 |n+1=>by rw[GH,UQ,RV h n,GH,Hg,h]
theorem AED {o:Oper} {u:List α} {kl kc:IntKind} (z:α) (h:mk by_ z n=some u) {t e:TypeId} {l c:Operand} (ho:o.op= .makeSlice t l c:=by rfl) (hd:o.dst=some d:=by rfl) (hN:Nat.blt d N=true:=by rfl) (ht:P.underlying t=some (.slice e):=by rfl) (hl:E.cell1 P 0 l=some (.int kl n):=by rfl) (hc:E.cell1 P 0 c=some (.int kc n):=by rfl) (hz:Ma P e=some zs:=by rfl) (hfz:f z=zs:=by rfl) (hb:P.bytesOf e=by_:=by rfl) (b:P.cellsOf e=sz:=by rfl):
  CA P N false E o=some (E.put (some d)<|.one<|.sl true e sz<|AL f u):=by
 have hN':d<N:=by simpa[B8]using hN
 unfold mk at h;split at h
 ·rename_i a
  injection h with h
  subst h;unfold CA;rw[hd];simp only[Ay hN',ho,YA,ht,hl,hc,hz];rw[Ay ⟨trivial,a.1,by rw[hb];exact a.2.1,a.2.2⟩,RV hfz,b]
 cases h
section
variable {o:Oper}
structure At (cs:List TV) (q:List Nat) (row:List TV) (g:List TV->List TV) (cs':List TV):Prop where
 c:BN cs q=some row
 o:MX cs q=true
 u:DL cs q g=cs'
end
theorem At.one {row':List TV} {cs a:List TV} {c:Nat} {e s:Nat} {g:List TV->List TV} (h:g a=row') (hc:cs[c]?=some (.sl true e s a):=by rfl) (hs:cs.set c (.sl true e s row')=cs':=by rfl):At cs [c] a g cs':=
 ⟨by simp[BN,hc],by simp[MX,hc],by simp[DL,hc,h,hs]⟩
theorem AEo (hf:∀x,(f x).length=sz) {cs a:List TV} {c k:Nat} {q:List Nat} {e s:Nat} {g:List TV->List TV} (hx:gi l n=some x) (h:At (f x) (k::q) a g (f z)) (hk:Nat.blt k sz=true:=by rfl) (hc:cs[c]?=some (.sl true e s<|AL f l):=by rfl) (hs:cs.set c (.sl true e s<|AL f<|si l n z)=cs':=by rfl):At cs (c::(n.toNat*sz+k)::q) a g cs':=by
 have hk':k<sz:=by simpa[B8]using hk
 refine⟨?_,?_,?_⟩
 ·rw[<-h.c,<-uO hf hx hk'];simp only[BN,hc]
 ·rw[<-h.o,<-ABA hf hx hk'];simp only[MX,hc,Dn]
 rw[<-hs,<-ABi hf hx hk' h.u];simp only[DL,hc]
theorem ADo (hf:∀x,(f x).length=sz) (hx:gi l n=some x) {k m:Nat} (hk:Nat.ble (k+m) sz=true):n.toNat*sz+k+m<=(AL f l).length:=by
 have:=kC hf hx;rw[DB]at this;have h1:k+m<=sz:=by simpa[PU]using hk
 omega
def SV.comps:SV->List SV
 | .tup ss=>ss
 |_=>[]
def St.ex (E:St) (n ix:Nat):St:={E with slots:=Cg E.slots n (.tup<|(E.slots n).comps.set ix<|.one .junk)}
theorem AFa (n ix d:Nat) (s:SV) (h:Hj P N ops rest ((E.ex n ix).put (some d) s) Q) (hs:CA P N false E oo=some ((E.ex n ix).put (some d) s):=by rfl) (hg:B7 P ops E oo=some true:=by rfl):Hj P N ops (oo::rest) E Q:=Hj.op false hg hs h
theorem FL.o (d:Nat) (s:SV) (h:FL P N ops rest (E.put (some d) s) K) (hs:JL P E oo=some s:=by rfl) (hg:B7 P ops E oo=some true:=by rfl) (hd:oo.dst=some d:=by rfl) (hN:Nat.blt d N=true:=by rfl):FL P N ops (oo::rest) E K:=
 FL.op s hg hd (by simpa[B8]using hN) hs h
theorem ADt {l:List Oper} {r:β} {b:Bool} (h:(bif b then tx else ty)=some r) (t:Nat) (ht:tx=some r->FL P N ops l (E.rs t true) K) (hf:ty=some r->FL P N ops l (E.rs t false) K) (hc:E.slots t=B b:=by rfl):FL P N ops l E K:=by
 cases b
 ·rw[eV hc]at hf;exact hf h
 rw[eV hc]at ht;exact ht h
theorem DV {f g:α->List TV} (h:∀x,BD (f x)=g x):∀l:List α,BD (AL f l)=AL g l
 |[]=>rfl
 |x::l=>by
  have c:∀a b:List TV,BD (a++b)=BD a++BD b:=by
   intro a b
   induction a with
   |nil=>rfl
   |cons t ts ih=>simp only[B5,BD,ih]
  rw[Hg,Hg,c,h,DV h l]
theorem Mh (h:∀x,AB (f x)=false):∀l:List α,AB (AL f l)=false
 |[]=>rfl
 |x::l=>by
  have c:∀a b:List TV,AB (a++b)=(AB a||AB b):=by
   intro a b
   induction a with
   |nil=>rfl
   |cons t ts ih=>simp only[B5,AB,ih,Bool.or_assoc]
  rw[Hg,c,h,Mh h l];rfl
def ad (a b:Int):Int:=IntKind.i64.wrap<|a+b
def sb (a b:Int):Int:=IntKind.i64.wrap<|a-b
def ml (a b:Int):Int:=IntKind.i64.wrap<|a*b
def qu (a b:Int):Int:=IntKind.i64.wrap<|a.tdiv b
def xr (a b:Int):Int:=IntKind.u32.wrap (BitVec.ofInt 32 a^^^BitVec.ofInt 32 b).toNat
def an (a b:Int):Int:=IntKind.u32.wrap (BitVec.ofInt 32 a&&&BitVec.ofInt 32 b).toNat
def bs (l:List UInt8):ByteArray:=⟨l.toArray⟩
section
variable (P:Program) (md:Region.Mode) (ops:Array Oper) (Q:Exit->Act->World->Prop) (T:Nat->Bool)
def YJ:Nat->Array Bool->Act->World->Prop
 |0,listed,a,w=>Region.ready md ops listed=[]/\Q .normal a w
 |fuel+1,listed,a,w=>(Region.ready md ops listed=[]->Q .normal a w)/\
  ∀i∈Region.ready md ops listed,wpOp P ops Q i (λa' w'=>(T i=false->EC w w')/\YJ fuel (listed.setIfInBounds i true) a' w') a w
end
theorem YI {Q:Exit->Act->World->Prop}:∀(b:Nat) (listed:Array Bool) (a:Act) (w:World),YJ P md ops Q T b listed a w->wpAny P md ops Q b listed a w
 |0,_,_,_,h=>h
 |b+1,_,_,_,h=>⟨h.1,λi hi=>wpOp_mono (λa' w' h'=>YI b _ a' w' h'.2) (h.2 i hi)⟩
section
variable (md:Region.Mode) (ops:Array Oper)
def YM (i:Nat):Nat->Nat->Bool
 |0,_=>false
 |n+1,j=>match ops[j]? with
  |some o=>o.after.any λe=>Region.binds md e&&(e.on==i||YM i n e.on)
  |none=>false
end
def bQ (md:Region.Mode) (ops:Array Oper) (listed:Array Bool):Prop:=∀k o,ops[k]?=some o->listed.getD k false=true->∀e∈o.after,Region.binds md e=true->listed.getD e.on false=true
theorem UV (hc:bQ md ops listed):∀{n j:Nat} {o:Oper},ops[j]?=some o->(∀e∈o.after,Region.binds md e=true->listed.getD e.on false=true)->YM md ops i n j=true->listed.getD i false=true
 |0,j,o,_,_,h=>by cases h
 |n+1,j,o,ho,ha,h=>by
  simp only[YM,ho]at h;obtain⟨e,he,hb⟩:=Array.any_eq_true'.1 h;simp only[Ak,Cq,Cd]at hb;have h1:=ha e he hb.1
  rcases hb.2 with h2|h2
  ·rw[<-h2];exact h1
  cases hk:ops[e.on]? with
  |none=>
   cases n with
   |zero=>cases h2
   |succ n=>simp[YM,hk]at h2
  |some ok=>exact UV hc hk (hc e.on ok hk h1) h2
theorem LR (hc:bQ md ops listed) (hr:j∈Region.ready md ops listed):bQ md ops (listed.setIfInBounds j true):=by
 intro k o hk hl e he hb
 have a:∀m,listed.getD m false=true->(listed.setIfInBounds j true).getD m false=true:=λm hm=>getD_set_true hm
 by_cases b:k=j
 ·subst b;obtain⟨_,o',ho',c⟩:=mem_ready.1 hr
  grind
 rw[getD_set_ne false<|Fk b]at hl;exact a _<|hc k o hk hl e he hb
theorem Nh {Q:Exit->Act->World->Prop} {oi:Oper} {n:Nat} (hi:ops[i]?=some oi) (m:∀(j:Nat) (o:Oper) cs b,ops[j]?=some o->o.op≠ .select cs b) (hQ:∀c a w,Q (.panic c) (a.put oi.dst v) w->Q (.panic c) a w) (h7:T i=false) (hT:∀j,T j=true->YM md ops i n j=true):
  ∀(d:Nat) (listed:Array Bool) (a:Act) (w:World),bQ md ops listed->
   (∀j oj,ops[j]?=some oj->j≠i->listed.getD j true=false->(∀e∈oj.after,Region.binds md e=true->e.on≠i)->oi.apart ops oj=true)->
   i∈Region.ready md ops listed->YieldsIf P ops (EC w) oi v a->
   YJ P md ops Q T d (listed.setIfInBounds i true) (a.put oi.dst v) w->YJ P md ops Q T (d+1) listed a w:=by
 intro d
 induction d with
 |zero=>
  intro listed a w _ _ hr hy H;refine⟨λh=>(by grind),λj hj=>?_⟩;by_cases f:j=i
  ·subst f;exact hy.wpOp hi EC.refl ⟨λ_=>EC.refl,H⟩
  have:=ready_mono hj f;rw[H.1]at this;cases this
 |succ d ih=>
  intro listed a w s g hr hy H;refine⟨λh=>(by grind),λj hj=>?_⟩;by_cases f:j=i
  ·subst f;exact hy.wpOp hi EC.refl ⟨λ_=>EC.refl,H⟩
  have h1:=H.2 j<|ready_mono hj f;obtain⟨p,oj,l,q⟩:=mem_ready.1 hj;have t:listed.getD i false=false:=by
   have h0:=(mem_ready.1 hr).1
   rcases DX i listed.size with h'|h'
   ·simpa[h']using h0
   grind
  have r:T j=false:=by
   cases r:T j with
   |false=>rfl
   |true=>
    have:=UV s l q<|hT j r
    grind
  have u:∀e∈oj.after,Region.binds md e=true->e.on≠i:=λe he hb z=>by
   have h1:=q e he hb;rw[z,t]at h1;cases h1
  have h2:=wpOp_putIf l (g j oj l f p u) (λcs b=>m i oi cs b hi) (λcs b=>m j oj cs b l) hQ hy h1;have hfree':∀k ok,ops[k]?=some ok->k≠i->(listed.setIfInBounds j true).getD k true=false->
    (∀e∈ok.after,Region.binds md e=true->e.on≠i)->oi.apart ops ok=true:=λk ok hk h4 x h5=>by
   refine g k ok hk h4 ?_ h5;by_cases y:j=k
   ·subst y;exact p
   rw[getD_set_ne true y]at x;exact x
  refine wpOp_mono (λa' w' h3=>⟨h3.2.1,ih (listed.setIfInBounds j true) a' w' (LR s hj) hfree' (ready_mono hr<|Fk f) ?_ ?_⟩) h2
  ·exact h3.1.imp (λ⟨p1,p2⟩=>⟨p1,λw2 h6=>p2 w2<|(h3.2.1 r).trans h6⟩) id
  rw[Array.setIfInBounds_comm _ _ f];exact h3.2.2
def XW (P:Program) (N:Nat) (ops:Array Oper) (ts:List Nat) (b:Nat) (listed:Array Bool) (E:St) (Q:Exit->St->Prop):Prop:=(∀c E,Q (.panic c) E->False)->bQ .any ops listed->∀(w0:Base) (FA UA:List Nat) (w:World) (a:Act) (blk:Root->Nat) (FS US:Root->List Nat),CO w0 FA UA N w a E blk FS US->FS .hand=[]->US .hand=[]->YJ P .any ops (oZ w0 FA UA N Q) (λi=>ts.contains i) b listed a w
def gL (P:Program) (N:Nat) (ops:Array Oper) (ts:List Nat) (i:Nat) (E:St) (K:St->Prop) (Q:Exit->St->Prop):Prop:=∀(w0:Base) (FA UA:List Nat) (w:World) (a:Act) (blk:Root->Nat) (FS US:Root->List Nat),CO w0 FA UA N w a E blk FS US->FS .hand=[]->US .hand=[]->
  wpOp P ops (oZ w0 FA UA N Q) i (λa' w'=>(ts.contains i=false->EC w w')/\∃E' blk' FS' US',K E'/\CO w0 FA UA N w' a' E' blk' FS' US'/\FS' .hand=[]/\US' .hand=[]) a w
theorem gL.op {ts:List Nat} (i:Nat) {o:Oper} (mv:Bool) (h:K E') (hs:CA P N mv E o=some E') (ho:ops[i]?=some o) (hg:B7 P ops E o=some true) (hk:(kp o||ts.contains i)=true):gL P N ops ts i E K Q:=by
 intro w0 FA UA w a blk FS US hr hF hU;unfold wpOp;simp only[ho,Ck hr hg,BQ];refine .inl<|(RF hr hF hU hs).wp λw' v blk' FS' US' k1 k2 k3 k4=>⟨λht=>k4 (by grind),_,_,_,_,h,k1,k2,k3⟩
theorem gL.call {ts:List Nat} {f:FuncId} {n:Nat} (i:Nat) {o:Oper} {args:Array Operand} {tys:Array TypeId} (hi:ops[i]?=some o) (ho:o.op= .call {callee:= .value (.func f),args:=args,argTypes:=tys}) (hf:dJ P f) (hg:B7 P ops E o=some true) (hN:∀d,o.dst=some d->d<N) (l:List (Bool×TypeId×Operand)) (hl:l.map (λx=>x.2.2)=args.toList) (e:(l.all (λx=>!x.1)||ts.contains i)=true) {b:SV} (c:AA P f as b (List.replicate n .gone)) (he:YB P E o.dst l as b E') (h:K E'):gL P N ops ts i E K Q:=by
 intro w0 FA UA w a blk FS US hr hF hU;unfold wpOp;simp only[hi,Ck hr hg,BQ];exact .inl<|gB hr hF hU ho hf hN hl c he λw' v blk' FS' US' k1 k2 k3 k4=>⟨λht=>k4 (by grind),_,_,_,_,h,k1,k2,k3⟩
theorem AA2 {ts:List Nat} (h:Q .normal E) (hr:Region.ready .any ops listed=[]:=by decide+kernel):XW P N ops ts fuel listed E Q:=
 λ_ _ w0 FA UA w a blk FS US k1 k2 k3=>by
  have hq:oZ w0 FA UA N Q .normal a w:=⟨E,blk,FS,US,h,k1,k2,k3⟩
  cases fuel with
  |zero=>exact⟨hr,hq⟩
  |succ n=>exact⟨λ_=>hq,by rw[hr];simp⟩
section
variable {ts:List Nat}
theorem XW.all (rs:List Nat) (h:∀i∈rs,gL P N ops ts i E (λE'=>XW P N ops ts fuel (listed.setIfInBounds i true) E' Q) Q) (hr:Region.ready .any ops listed=rs) (b:rs≠ []):XW P N ops ts (fuel+1) listed E Q:=
 λhQ hc w0 FA UA w a blk FS US k1 k2 k3=>⟨λh0=>absurd (hr▸h0) b,λi hi=>by
  have hi':i∈rs:=hr▸hi
  exact wpOp_mono (λa' w' ⟨m0,E',blk',FS',US',m1,m2,m3,m4⟩=>⟨m0,m1 hQ (LR hc hi) _ _ _ _ _ _ _ _ m2 m3 m4⟩)<|h i hi' _ _ _ _ _ _ _ _ k1 k2 k3⟩
end
def Tp (ops:Array Oper) (ts:List Nat) (n i:Nat) (listed:Array Bool):Bool:=Region.noSelect ops&&Region.free .any ops listed i&&(Region.ready .any ops listed).contains i&&!ts.contains i&&ts.all λj=>YM .any ops i n j
theorem VU {ts:List Nat} {n:Nat} (h:Tp ops ts n i listed=true):Region.noSelect ops=true/\Region.free .any ops listed i=true/\i∈Region.ready .any ops listed/\ts.contains i=false/\∀j,ts.contains j=true->YM .any ops i n j=true:=by
 simp only[Tp,Ak,CG,Jj]at h
 grind
theorem XW.take {ts:List Nat} (n i:Nat) {o:Oper} (d:Nat) (s:SV) (h:XW P N ops ts fuel (listed.setIfInBounds i true) (E.put (some d) s) Q) (hs:JL P E o=some s) (ho:ops[i]?=some o) (f:Tp ops ts n i listed=true) (hg:B7 P ops E o=some true) (hd:o.dst=some d) (hN:Nat.blt d N=true):XW P N ops ts (fuel+1) listed E Q:=by
 intro hQ hc w0 FA UA w a blk FS US k1 k2 k3;obtain⟨e1,e2,e3,e4,e5⟩:=VU f;obtain⟨v,U,h1,h2,h3⟩:=Za k1 hs;refine Nh (v:=v) (n:=n) ho (Region.noSelect_spec e1) (λc a w hx=>?_) e4 e5 fuel listed a w hc (Region.free_spec ho e2) e3 (.inl ⟨Ck k1 hg,λw2 e=>?_⟩) ?_
 ·obtain⟨E',blk',FS',US',m1,_⟩:=hx
  grind
 ·exact h1 w2 λr hr=>⟨λb hb=>e.2 b (k1.inF r b hb).2,λb hb=>e.2 b (k1.inU r b hb).2⟩
 rw[hd];refine h hQ (LR hc e3) _ _ _ _ _ _ _ _ (k1.put (by simpa[B8]using hN) h2<|PO k1 h3 _) ?_ ?_
 ·rw[Bt (by simp),k2]
 rw[Bt (by simp),k3]
theorem kV {ts:List Nat} (n i:Nat) {o:Oper} (d:Nat) (h:XW P N ops ts fuel (listed.setIfInBounds i true) (E.put (some d) (.tup [])) Q) (ho:ops[i]?=some o) (b:Tp ops ts n i listed=true) (hg:B7 P ops E o=some false) (hd:o.dst=some d) (hN:Nat.blt d N=true):XW P N ops ts (fuel+1) listed E Q:=by
 intro hQ hc w0 FA UA w a blk FS US k1 k2 k3;obtain⟨e1,e2,e3,e4,e5⟩:=VU b;refine Nh (v:=undef) (n:=n) ho (Region.noSelect_spec e1) (λc a w hx=>?_) e4 e5 fuel listed a w hc (Region.free_spec ho e2) e3 (.inr ⟨Ck k1 hg,rfl⟩) ?_
 ·obtain⟨E',blk',FS',US',m1,_⟩:=hx
  grind
 rw[hd];refine h hQ (LR hc e3) _ _ _ _ _ _ _ _ (k1.put (F:=[]) (U:=[]) (by simpa[B8]using hN) (by simp only[EE];exact⟨[],rfl,by simp[Pj]⟩) bP.none) ?_ ?_
 ·rw[Bt (by simp),k2]
 rw[Bt (by simp),k3]
theorem r6 {id:Nat} (n:Nat) (ts:List Nat) (hm:P.follows .mixedOrders=true) (hQ:∀c E,Q (.panic c) E->False) (h:XW P N ops ts n (Array.replicate n false) E Q) (hn:ops.size=n:=by rfl):Wp P N (.region id ops true) E Q:=by
 subst hn;intro w0 FA UA w a blk FS US k1 k2 k3;refine wp_region_any hm<|YI (T:=λi=>ts.contains i) _ _ _ _ ?_;obtain⟨FS',US',m1,m2,m3⟩:=k1.drop (w':={w with drawn:=w.drawn+1}) (Au _) rfl rfl rfl λ_ _ _=>rfl;refine h hQ (λk o hk hl=>?_) _ _ _ _ _ _ _ _ m1 m2 m3;exfalso;rw[ED]at hl
 grind
theorem XW.o {ts:List Nat} (n i d:Nat) (s:SV) {o:Oper} (h:XW P N ops ts fuel (listed.setIfInBounds i true) (E.put (some d) s) Q) (ho:ops[i]?=some o:=by rfl) (hs:JL P E o=some s:=by rfl) (a:Tp ops ts n i listed=true:=by decide+kernel) (hg:B7 P ops E o=some true:=by rfl) (hd:o.dst=some d:=by rfl) (hN:Nat.blt d N=true:=by rfl):XW P N ops ts (fuel+1) listed E Q:=XW.take n i d s h hs ho a hg hd hN
theorem ADE {ts:List Nat} {r:β} {b:Bool} (h:(bif b then tx else ty)=some r) (t:Nat) (ht:tx=some r->XW P N ops ts fuel listed (E.rs t true) Q) (hf:ty=some r->XW P N ops ts fuel listed (E.rs t false) Q) (hc:E.slots t=B b:=by rfl):XW P N ops ts fuel listed E Q:=by
 cases b
 ·rw[eV hc]at hf;exact hf h
 rw[eV hc]at ht;exact ht h
theorem gL.o {ts:List Nat} (i d:Nat) (s:SV) {o:Oper} (h:K (E.put (some d) s)) (ho:ops[i]?=some o:=by rfl) (hs:CA P N false E o=some (E.put (some d) s):=by rfl) (hg:B7 P ops E o=some true:=by rfl) (hk:(kp o||ts.contains i)=true:=by rfl):gL P N ops ts i E K Q:=gL.op i false h hs ho hg hk
theorem gL.b {ts:List Nat} (i:Nat) (m:List (Root×List TV)) (d:Nat) (xs:List TV) {o:Oper} (h:K ((mvs E m).newBox d xs)) (ho:ops[i]?=some o:=by rfl) (hs:CA P N false E o=some ((mvs E m).newBox d xs):=by rfl) (hg:B7 P ops E o=some true:=by rfl) (hk:(kp o||ts.contains i)=true:=by rfl):gL P N ops ts i E K Q:=gL.op i false h hs ho hg hk
theorem AFb {ts:List Nat} (i:Nat) (mv:Bool) (m:List (Root×List TV)) (d:Nat) (s:SV) {o:Oper} (h:K ((mvs E m).put (some d) s)) (ho:ops[i]?=some o:=by rfl) (hs:CA P N mv E o=some ((mvs E m).put (some d) s):=by rfl) (hg:B7 P ops E o=some true:=by rfl) (hk:(kp o||ts.contains i)=true:=by rfl):gL P N ops ts i E K Q:=gL.op i mv h hs ho hg hk
theorem AFc {ts:List Nat} (i n ix d:Nat) (s:SV) {o:Oper} (h:K ((E.ex n ix).put (some d) s)) (ho:ops[i]?=some o:=by rfl) (hs:CA P N false E o=some ((E.ex n ix).put (some d) s):=by rfl) (hg:B7 P ops E o=some true:=by rfl) (hk:(kp o||ts.contains i)=true:=by rfl):gL P N ops ts i E K Q:=gL.op i false h hs ho hg hk
def oI (n:Int):Prop:= -9223372036854775808<=n/\n<=9223372036854775807
def oK (k:IntKind) (n:Int):Prop:=k.min<=n/\n<=k.max
def ol (o:α->Prop) (l:List α):Prop:=l.length<=9223372036854775807/\∀x∈l,o x
def gJ (P:Program) (t:TypeId) (c:α->List TV) (o:α->Prop):Prop:=∀{H:Type} (enc:TypeId×Value->H) (w:World) (d:Nat) (e:Nat) (cs:List Value) (x:DataW H×List MemPlace),DataW.trod enc P w d (λ_=>true) true e t cs=some x->
  ∃a U,o a/\Bv w (c a) cs [] U/\∀b∈U,b<w.heap.size
theorem ON {t:TV} (h:C1 w t v F U):Bv w [t] [v] F U:=by
 simp only[Bv];exact⟨v,[],F,[],U,[],rfl,by simp,by simp,h,rfl,rfl,rfl⟩
theorem vL {k:IntKind} {t:TypeId} (ht:P.underlying t=some (.int k)):gJ P t (λn:Int=>[.int k n]) (λn=>k.min<=n/\n<=k.max):=by
 intro H enc w b a cs x h
 cases a with
 |zero=>simp[DataW.trod]at h
 |succ a=>
  simp only[DataW.trod,ht]at h;split at h<;>rename_i h1<;>try (first|(injection h1 with h1;cases h1;done)|(cases h1;done))
  all_goals first|(cases h;done)|skip
  rename_i k' n;split at h
  ·rename_i hk;simp only[An,TypeDesc.int.injEq]at h1;subst h1;obtain⟨rfl,hw⟩:=hk;simp only[Lit.wf,Ak,A5]at hw;exact⟨n,[],hw,ON (by simp[C1]),by simp⟩
  cases h
theorem m7 {t e:TypeId} {c:α->List TV} {o:α->Prop} (ht:P.underlying t=some (.slice e)) (q:P.cellsOf e=sz) (h0:0<sz) (hc:∀a,(c a).length=sz) (h:gJ P e c o):
  gJ P t (λl:List α=>[.sl false e sz (AL c l)]) (λl=>l.length<=9223372036854775807/\∀a∈l,o a):=by
 intro H enc w d h7 cs x hx
 rcases Go.Deep.open_slice ht hx with⟨rfl,_⟩|⟨a,len,cap,m,n,D,Pl,rfl,hb,f,r,hm,_,g⟩
 ·refine⟨[],[],⟨by simp,by simp⟩,ON ?_,by simp⟩;simp only[C1];exact⟨none,0,0,[],[],[],rfl,Au _,by simp,λi u hi=>by simp at hi,by simp[AL,Bv],by simp,by simp,by simp⟩
 simp only[BQ]at hm;have s:∀k,k<=len->∃(l:List α) (vs:List Value) (U:List Nat),l.length=k/\(∀a∈l,o a)/\vs.length=k*sz/\Bv w (AL c l) vs [] U/\(∀i u,vs[i]?=some u->w.cell? (a.add i)=some u)/\∀b∈U,b<w.heap.size:=by
  intro k
  induction k with
  |zero=>intro _;exact⟨[],[],[],rfl,by simp,by simp,by simp[AL,Bv],by simp,by simp⟩
  |succ k ih=>
   intro hk;obtain⟨l,vs,U,h1,h2,h3,h4,h5,h6⟩:=ih (by omega);obtain⟨cs',k1,k2⟩:=g k (by omega);obtain⟨y,V,g1,g2,g3⟩:=h enc w d n cs' _ k2;obtain⟨_,k3,k4⟩:=World.cells?_some k1;rw[q]at k1 k3 k4;refine⟨l++ [y],vs++cs',U++V,by simp[h1],?_,?_,?_,?_,?_⟩
   ·intro a ha
    rcases Al.1 ha with ha|ha
    ·exact h2 a ha
    rw[AE.1 ha];exact g1
   ·rw[Ai,h3,k3,DB]
   ·rw[S6];have:=I2 h4 (show Bv w (AL c [y]) cs' [] V by simpa[AL]using g2);simpa using this
   ·intro i u hi;by_cases v:i<vs.length
    ·rw[Bm v]at hi;exact h5 i u hi
    rw[Bq<|by omega]at hi;have j:i-vs.length<sz:=by
     have:=(Ag.1 hi).1;omega
    have:=k4 (i-vs.length) j;rw[hi,TI.add_add]at this;rw[<-this];congr 2;omega
   intro b hb
   rcases Al.1 hb with hb|hb
   ·exact h6 b hb
   exact g3 b hb
 obtain⟨l,vs,U,h1,h2,h3,h4,h5,h6⟩:=s len<|Au _;have h8:len<=9223372036854775807:=by simp only[maxLen]at r;omega
 by_cases z:len=0
 ·subst z;have:vs=[]:=AH (by omega);subst this;refine⟨l,U,⟨by omega,h2⟩,ON ?_,h6⟩;simp only[C1];exact⟨some a,0,cap,[],U,[],rfl,f,by simp,λi u hi=>by simp at hi,h4,by simp,by simp,by simp⟩
 have p:a.block<w.heap.size:=by
  obtain⟨cs',k1,_⟩:=g 0 (by omega);have:=World.cells?_block k1<|by omega
  rwa [Hh]at this
 refine⟨l,a.block::U,⟨by omega,h2⟩,ON ?_,?_⟩
 ·simp only[C1];exact⟨some a,len,cap,vs,U,[a.block],rfl,f,h3,λi u hi=>⟨a,len,cap,rfl,h5 i u hi⟩,h4,by simp,.inl (by simp[BO,Value.ownBlock]),by simp⟩
 intro b hb
 rcases CC.1 hb with rfl|hb
 ·exact p
 exact h6 b hb
theorem ACf {u:α->TV} {H:Type} {d:DataW H} {ps:List MemPlace} {t:TypeId} {o:α->Prop} {enc:TypeId×Value->H} (h:gJ P t (λa=>[u a]) o) (hv:v.cells= #[v]) (k:DataW.Trod enc P w 0 (λ_=>true) true t v d ps):
  ∃a U,o a/\XZ w (.one (u a)) v [] U/\∀b∈U,b<w.heap.size:=by
 obtain⟨n,hn⟩:=k;obtain⟨a,U,h1,h2,h3⟩:=h enc w 0 n _ _ hn;rw[hv]at h2;simp only[Bv]at h2;obtain⟨v',c,F1,F2,U1,U2,e,hF,hU,h4,rfl,rfl,rfl⟩:=h2
 injection e with e _
 subst e;obtain⟨rfl,_⟩:=JH.1 hF.symm;refine⟨a,U1,h1,?_,by simpa[hU]using h3⟩;simp only[XZ];exact⟨h4,hv⟩
theorem zN {r:Reach} {a:Nat} {t:TypeId} (h:Value.okWide P w r a t v) (h1:∀fs,P.underlying t≠some (.struct fs)) (h2:∀n e,P.underlying t≠some (.array n e)):v.cells= #[v]:=by
 unfold Value.okWide at h;split at h
 ·rename_i fs b;exact absurd b<|h1 fs
 ·rename_i n e c;exact absurd c<|h2 n e
 unfold Cell.okWide at h;cases v<;>first|rfl|skip
 all_goals
  split at h<;>rename_i hv<;>first|(cases hv;done)|skip
  unfold Cell.ok at h;split at h<;>first|(exact h.elim)|skip
 all_goals rename_i d;cases d
def St.without (E:St) (r:Root):St:={E with boxes:=Cg E.boxes r none,ver:=Cg E.ver r<|E.ver r+1,gen:=Cg E.gen r (E.gen r+1)}
theorem gN {r s:Root} (h:s≠r):(E.without r).root s=E.root s:=by
 cases s<;>simp[St.without,St.root,Cg,h]
theorem CO.without {w0:Base} {a:Act} (h:CO w0 FA UA N w a E blk FS US) (hF:FS .hand=[]) (hU:US .hand=[]) {r:Root} (hm:r.mem=true):
  CO w0 FA UA N w a (E.without r) blk (Cg (Cg FS r []) .hand (FS r)) (Cg (Cg US r []) .hand (US r)):=by
 have c:r≠ .hand:=by rintro rfl;cases hm
 have d:∀s,Cr w w a a E (E.without r) blk blk s:=by
  intro s;by_cases hs:s=r
  ·subst hs;exact⟨.inl (by simp[St.without,Cg]),.inl<|by simp[St.without,Cg]⟩
  by_cases hh:s= .hand
  ·subst hh;exact Gl (by simp[St.without,Cg,hs]) (by simp[St.without,Cg,hs])<|by simp[St.root,h.nohand]
  exact Ej h (by simp[St.without,Cg,hs]) (by simp[St.without,Cg,hs]) (gN hs) (λ_ _=>rfl) (λ_=>rfl) (λ_ _=>rfl) λ_ _=>rfl
 refine h.two (r1:=r) (r2:= .hand) (L1:=[]) (L2:=FS r) (V1:=[]) (V2:=US r) c (by simpa using h.nodup r) (λb hb=>⟨.inl (by simpa using hb),(h.inF r b<|by simpa using hb).2⟩)
  (λb hb=> .inl ⟨r,by simpa using hb⟩) (Au _) rfl rfl rfl (λ_ _ _ _=>rfl) d (λn _ _=>⟨rfl,rfl⟩) (λs _ hs _=>⟨by simp[St.without,Cg,hs],rfl⟩) ?_ trivial ?_ h.len h.nodef
 ·cases r with
  |slot n=>cases hm
  |hand=>cases hm
  |box n=>exact .inl ⟨by simp[St.without,Cg],rfl,rfl⟩
  |ext n=>exact .inl ⟨by simp[St.without,Cg],rfl,rfl⟩
 simp[St.without,Cg,Fk c,h.nohand]
theorem ZE {a:Act}:∀{l:List (Bool×TypeId×Operand)},z7 w a l (List.replicate l.length none) [] []
 |[]=>⟨rfl,rfl⟩
 |_::l=>ZE (l:=l)
section
variable {w0:Base} {a:Act}
theorem oM {f:FuncId} {x:Operand} {l:List (Bool×TypeId×Operand)} {n:Nat} {K:Act->World->Prop} {Q:Exit->Act->World->Prop} (h:CO w0 FA UA N w a E blk FS US) (hF:FS .hand=[]) (hU:US .hand=[]) {o:Oper} {args:Array Operand} {tys:Array TypeId} (ho:o.op= .call {callee:= .value (.func f),args:=args,argTypes:=tys}) (hf:dJ P f) (hN:∀d,o.dst=some d->d<N) (hl:x::l.map (λx=>x.2.2)=args.toList) {r:Root} (hm:r.mem=true) (hx:E.ptr? x=some (r,[],0)) {cells cells':List TV} (hc:E.boxes r=some cells) (b7:cells'.length=cells.length) {res:SV} {c:Bool} (b1:Jm P (E.without r) l (List.replicate l.length none)=some (as,c)) (a0:c=true\/AZ res=false/\AB cells'=false) (hg:AA P f (.ext cells::as) res (.ext cells'::List.replicate n .gone)) (hK:∀w' v blk' FS' US',CO w0 FA UA N w' (a.put o.dst v) (((E.setRoot r cells').bump r).put o.dst res) blk' FS' US'->FS' .hand=[]->US' .hand=[]->K (a.put o.dst v) w'):o.wp P a w K Q:=by
 have a1:r≠ .hand:=by rintro rfl;cases hm
 have k2:=h.without hF hU hm;obtain⟨U',k5,k6⟩:=Lt k2 ZE b1;have a2:∃i T F,w.heap[blk r]?=some (.cells i T (0,0))/\Bv w cells i.toList F (US r)/\FS r=blk r::F:=by
  rcases h.box r hm with⟨h1,_⟩|⟨cs,i,T,F,h1,h2,h3,h4⟩
  ·grind
  grind
 obtain⟨i,T,F,b2,b3,b4⟩:=a2;obtain⟨a3,ad,y,a4⟩:=KE h hx;have b5:ad=⟨blk r,0,none⟩:=by
  cases r with
  |slot n=>cases hm
  |hand=>cases hm
  |box n=>simp[pa,Addr.add]at y;exact y.symm
  |ext n=>simp[pa,Addr.add]at y;exact y.symm
 subst b5;have a5:cells≠ []:=by
  rintro rfl
  cases r with
  |slot n=>cases hm
  |hand=>cases hm
  |box n=>simp[St.place,St.root,hc,BN]at a3
  |ext n=>simp[St.place,St.root,hc,BN]at a3
 have a6:a.eval x::l.map (λx=>a.eval x.2.2)=(args.map a.eval).toList:=by
  rw[PW,<-hl,BJ,FH];rfl
 have k:Ld w (.ext cells::as) (args.map a.eval).toList (FS r++ []) (US r++U'):=by
  rw[<-a6];exact⟨_,_,FS r,[],US r,U',rfl,rfl,rfl,⟨blk r,i,T,F,a4,b2,b3,b4,a5⟩,k5⟩
 rw[A4]at k;have b8:∀s b,b∈Cg (Cg US r []) .hand (US r) s->∃s',b∈US s':=by
  intro s b hb;by_cases hs:s= .hand
  ·subst hs;rw[BK]at hb;exact⟨r,hb⟩
  rw[Bt hs]at hb;by_cases m:s=r
  ·subst m;rw[BK]at hb;cases hb
  rw[Bt m]at hb;exact⟨s,hb⟩
 have c0:∀s b,s≠ .hand->b∈Cg (Cg FS r []) .hand (FS r) s->s≠r/\b∈FS s:=by
  intro s b hs hb;rw[Bt hs]at hb;by_cases m:s=r
  ·subst m;rw[BK]at hb;cases hb
  rw[Bt m]at hb;grind
 have k6':∀b∈U',(∃s,b∈US s)\/(c=false/\∃s,s≠r/\b∈FS s):=by grind
 have h0:∀b∈FS r,b∉US r++U':=by
  intro b hb hb'
  rcases Al.1 hb' with hb'|hb'
  ·exact h.disU r r b hb hb'
  rcases k6' b hb' with⟨s,h4⟩|⟨_,s,h5,h4⟩
  ·exact h.disU r s b hb h4
  exact h.dis r s (Fk h5) b hb h4
 have p:=hg w _ (FS r) (US r++U') k (h.nodup r) h0 (by
  intro b hb
  rcases Al.1 hb with hb|hb
  ·exact(h.inF r b hb).2
  rcases Al.1 hb with hb|hb
  ·exact(h.inU r b hb).2
  rcases k6' b hb with⟨s,h4⟩|⟨_,s,h5,h4⟩
  ·exact(h.inU s b h4).2
  exact(h.inF s b h4).2)
 unfold Oper.wp;rw[Iz ho hf];simp only[Oper.upon];rw[Rm]at p;refine Calls.mono p ?_;rintro e w' ⟨v,Fr,Ur,G,V,rfl,g⟩;have t:=g.fin;rw[<-a6]at t;simp only[Ld]at t;obtain⟨v1,vs1,G1,G2,V1,V2,e1,rfl,rfl,⟨b,cur',T',F0,g1,g2,g3,rfl,g5⟩,h9⟩:=t;obtain⟨rfl,rfl⟩:=UG h9
 injection e1 with e1 e2
 rw[<-e1,a4]at g1
 injection g1 with g1
 injection g1 with g1
 injection g1 with g1
 subst g1;have a7:=g.nodup;have a8:=g.dis;have u:=g.inF;have z:=g.inU;simp only[A4]at a7 a8 u z;have hV:∀b∈Ur++V1,(∃s,b∈US s)\/((b∈FS r\/w.heap.size<=b)/\b<w'.heap.size):=by
  intro b hb;obtain⟨h4,h5⟩:=z b hb
  rcases h4 with h4|h4|h4
  ·rcases Al.1 h4 with h4|h4
   ·grind
   rcases k6' b h4 with h6|⟨h6,s,h7,h8⟩
   ·exact .inl h6
   rcases a0 with a0|⟨c1,c2⟩
   ·grind
   have n1:=RB g.res c1;have n2:=KD g3 c2
   grind
  ·grind
  omega
 have b0:∀j,((E.setRoot r cells').bump r).place r [] j=cells'[j]? :=by
  intro j
  cases r with
  |slot n=>cases hm
  |hand=>cases hm
  |box n=>simp[St.place,St.bump,St.setRoot,St.root,Cg,BN]
  |ext n=>simp[St.place,St.bump,St.setRoot,St.root,Cg,BN]
 have a9:∀j,E.place r [] j=cells[j]? :=by
  intro j
  cases r with
  |slot n=>cases hm
  |hand=>cases hm
  |box n=>simp[St.place,St.root,hc,BN]
  |ext n=>simp[St.place,St.root,hc,BN]
 let E1:St:=(E.setRoot r cells').bump r
 have ev:∀s,s≠r->E1.ver s=E.ver s:=by
  intro s hs;cases r<;>simp[E1,St.bump,St.setRoot,Cg,hs]
 have evr:E1.ver r=E.ver r+1:=by cases r<;>simp[E1,St.bump,St.setRoot,Cg]
 have eg:∀s,E1.gen s=E.gen s:=by intro s;cases r<;>rfl
 have er:∀s,s≠r->E1.root s=E.root s:=by
  intro s hs
  cases r with
  |slot n=>cases hm
  |hand=>cases hm
  |box n=>cases s<;>simp[E1,St.bump,St.setRoot,St.root,Cg,hs]
  |ext n=>cases s<;>simp[E1,St.bump,St.setRoot,St.root,Cg,hs]
 have es:∀n,E1.slots n=E.slots n:=by
  intro n
  cases r with
  |slot n=>cases hm
  |hand=>cases hm
  |box n=>rfl
  |ext n=>rfl
 have eb:∀s,E1.boxes s=if s=r then some cells' else E.boxes s:=by
  intro s
  cases r with
  |slot n=>cases hm
  |hand=>cases hm
  |box n=>rfl
  |ext n=>rfl
 have b6:∀s,Cr w w' a a E E1 blk blk s:=by
  intro s;by_cases hs:s=r
  ·subst hs;refine⟨.inl (by rw[evr];omega),.inr ⟨eg s,λj ad hv hp=>?_⟩⟩;refine⟨(by cases s<;>first|exact hv|(cases hm)),?_⟩
   grind
  by_cases hh:s= .hand
  ·subst hh;exact Gl (ev _ hs) (eg _)<|by simp[St.root,h.nohand]
  exact Ej h (ev s hs) (eg s) (er s hs) (λ_ _=>rfl) (λ_=>rfl)
   (λb hb=>g.keep b (h.inF s b hb).2<|h.dis s r hs b hb) (λb hb=>g.keep b (h.inU s b hb).2 λe=>h.disU r s b e hb)
 have k7:=h.two (w':=w') (a':=a) (E':=E1) (blk':=blk) (r1:=r) (r2:= .hand) (L1:=blk r::F0) (L2:=Fr) (V1:=V1) (V2:=Ur) a1
  (by grind)
  (λb hb=>by
   obtain⟨q1,q2⟩:=u b<|by grind
   grind)
  (λb hb=>by
   have hb':b∈Ur++V1:=by grind
   rcases hV b hb' with q|⟨q1,q2⟩
   ·exact .inl q
   grind)
  g.size g.os g.tape g.output (λb hb q _=>g.keep b hb q) b6 (λn _ _=>⟨es n,rfl⟩) (λs _ hs _=>⟨by grind,rfl⟩)
  (by
   have:Hb w' a E1 blk r (blk r::F0) V1:=by
    have:=eb r;rw[Ay rfl]at this
    cases r with
    |slot n=>cases hm
    |hand=>cases hm
    |box n=>exact .inr ⟨cells',cur',T',F0,this,g2,g3,rfl⟩
    |ext n=>exact .inr ⟨cells',cur',T',F0,this,g2,g3,rfl⟩
   exact this)
  trivial (by rw[eb,Av<|Fk a1];exact h.nohand) h.len h.nodef (hfz:=by
   intro n hn;have e:((E.setRoot r cells').bump r).fz=E.fz:=by rw[Rd,Ii]
   exact h.frz n<|e▸hn) (hamb:=by show((E.setRoot r cells').bump r).amb=E.amb;rw[Lb,Ew])
 have kh:(Cg (Cg FS r (blk r::F0)) .hand Fr) .hand=Fr:=BK _ _ _;have kh2:(Cg (Cg US r V1) .hand Ur) .hand=Ur:=BK _ _ _
 cases hd:o.dst with
 |some d=>
  obtain⟨FS',US',q1,q2,q3⟩:=k7.land (w':=w') (d:=d) (s:=res) (v:=v) (F:=Fr) (U:=Ur) (hN d hd) (NO g.res) (BR.1 a7).1
   (λb hb=>⟨.inl (by rw[kh];exact hb),(u b<|AI _ hb).2⟩) (λb hb=> .inl ⟨.hand,by grind⟩) (Au _) rfl rfl rfl (λ_ _ _=>rfl)
  grind
 |none=>
  obtain⟨FS',US',q1,q2,q3⟩:=k7.drop (w':=w') (Au _) rfl rfl rfl λ_ _ _=>rfl;have:=hK w' v blk FS' US' (by rw[hd];exact q1) q2 q3
  grind
end
theorem aE {f:FuncId} (A:Nat->R2) (hA:∀b,(A b).B=[]/\(∀w,(A b).I w)/\∀c,(A b).pin=some c->c=b) {c:Code} {cells cells':List TV} {res:SV} (hf:P.funcs[f]?=some fn) (hb:fn.body=some c) (h:∀b,Wp P fn.ntmps c (DE (.ext cells::as) (A b)) λe E=>(e= .normal\/e= .ret)/\∃ss E',Ea P E fn.results.toList=some (ss,E')/\EL ss=res/\E'.boxes (.ext 0)=some cells') (s:cells'.isEmpty=false):
  AA P f (.ext cells::as) res (.ext cells'::List.replicate as.length .gone):=by
 intro w vs FA UA ha k j l;have ha':=ha;obtain⟨v0,vs0,F1,F2,U1,U2,rfl,rfl,rfl,⟨b0,cur0,T0,F0,rfl,_,_,rfl,_⟩,m⟩:=ha;obtain⟨blk,FS,US,hr,hF,hU⟩:=SA (N:=fn.ntmps) ha' k j l (A:=A b0) ((hA b0).2.1 w) (λb hb=>by grind) (hpin:=λc hc=>((hA b0).2.2 c hc).symm);refine calls_of_wp hf hb<|wp_mono (h b0 _ _ _ _ _ _ _ _ hr hF hU) ?_;rintro e a w' ⟨E,blk',FS',US',⟨he,ss,E',h1,rfl,p⟩,h2,h3,h4⟩;obtain⟨us,FS2,US2,F,U,k1,k2,k3,k4,k5⟩:=MA h2 h1;rw[h3,A6]at k4;rw[h4,A6]at k5;have i:∀(n:Nat) (vs:List Value),vs.length=n->Ld w' (List.replicate n .gone) vs [] []:=by
  intro n
  induction n with
  |zero=>intro vs hv;simp at hv;subst hv;exact⟨rfl,rfl,rfl⟩
  |succ n ih=>
   intro vs hv
   cases vs with
   |nil=>simp at hv
   |cons v vs=>exact⟨v,vs,[],[],[],[],rfl,rfl,rfl,⟨rfl,rfl⟩,ih vs<|by simpa using hv⟩
 have o:vs0.length=as.length:=by
  obtain⟨_,_,_,_,h5,_⟩:=Tu m;exact h5
 have r:blk' (.ext 0)=b0:=by
  rw[k3.xblk];rfl
 obtain⟨d,T,F3,b2,b3,b4⟩:∃d T F3,w'.heap[b0]?=some (.cells d T (0,0))/\Bv w' cells' d.toList F3 (US2<|.ext 0)/\FS2 (.ext 0)=b0::F3:=by
  rcases k3.box (.ext 0) rfl with⟨q,_⟩|⟨cs,d,T,F3,q1,q2,q3,q4⟩
  ·grind
  grind
 have hne':cells'≠ []:=by grind
 have g:a.defers=[]/\∃v,(results fn a.tmps).run P w'= .ok v w'/\∃v' F U G V,Ending.returned v= .returned v'/\AA0 w w' ((b0::F0)++F2) (U1++U2) (EL ss) (.ext cells'::List.replicate as.length .gone) (.pointer (some ⟨b0,0,none⟩)::vs0) v' F U G V:=by
  refine⟨h2.nodef,_,OM k1,_,F,U,FS2<|.ext 0,US2<|.ext 0,rfl,?_⟩
  exact{
   res:=Sd k2
   fin:=⟨_,vs0,FS2<|.ext 0,[],US2<|.ext 0,[],rfl,by simp,by simp,⟨b0,d,T,F3,rfl,b2,b3,b4,hne'⟩,i _ _ o⟩
   nodup:=by
    rw[<-k4,BR];exact⟨k3.nodup _,k3.nodup _,λx hx y hy e=>k3.dis .hand (.ext 0) (by simp) x hx<|e▸hy⟩
   dis:=by
    intro b hb hb';rw[<-k4]at hb;rw[<-k5]at hb'
    rcases Al.1 hb with hb|hb<;>rcases Al.1 hb' with hb'|hb'
    ·exact k3.disU .hand .hand b hb hb'
    ·exact k3.disU .hand (.ext 0) b hb hb'
    ·exact k3.disU (.ext 0) .hand b hb hb'
    exact k3.disU (.ext 0) (.ext 0) b hb hb'
   inF:=by
    intro b hb;rw[<-k4]at hb
    rcases Al.1 hb with hb|hb
    ·exact k3.inF .hand b hb
    exact k3.inF (.ext 0) b hb
   inU:=by
    intro b hb;rw[<-k5]at hb
    rcases Al.1 hb with hb|hb
    ·exact k3.inU .hand b hb
    exact k3.inU (.ext 0) b hb
   os:=k3.os
   tape:=k3.tape
   output:=k3.output
   size:=k3.size
   keep:=λb hb hF=>k3.keep b hb hF (λe=>by grind)}
 rcases he with rfl|rfl
 ·exact g
 exact g
theorem wE {f:FuncId} {c:Code} {a cells':List TV} {b:SV} (hf:P.funcs[f]?=some fn) (hb:fn.body=some c) (h:Wp P fn.ntmps c (DE (.ext a::as)) λe E=>(e= .normal\/e= .ret)/\∃ss E',Ea P E fn.results.toList=some (ss,E')/\EL ss=b/\E'.boxes (.ext 0)=some cells') (d:cells'.isEmpty=false):
 AA P f (.ext a::as) b (.ext cells'::List.replicate as.length .gone):=aE (λ_=>R2.none) (λ_=>⟨rfl,λ_=>trivial,λ_ h=>by cases h⟩) hf hb (λ_=>h) d
def mX (b:Nat):R2:={R2.none with pin:=some b}
theorem ABz (b:Nat):(mX b).B=[]/\(∀w,(mX b).I w)/\∀c,(mX b).pin=some c->c=b:=⟨rfl,λ_=>trivial,λc h=>by injection h with h;exact h.symm⟩
theorem AEI {k:IntKind} {len:Nat} {o:Oper} {m:Nat} (r:Root) (q:List Nat) (j:Nat) (hn:n=(m:Int)) {t e:TypeId} {a i:Operand} (ho:o.op= .indexAddr t a i:=by rfl) (ht:P.underlying t=some (.array len e):=by rfl) (hi:E.cell1 P 0 i=some (.int k n):=by rfl) (hp:E.ptr? a=some (r,q,j):=by rfl) (hc:P.cellsOf e=1:=by rfl) (hl:Nat.blt m len=true:=by rfl) (hs:(E.place r q<|j+m).isSome=true:=by rfl):Bi P E o=some (.one<|.ptr r (E.stamp r q) q<|j+m):=by
 subst hn;have hl':m<len:=by simp_all
 simp only[Bi,ho,ht,hi,hp,hc,Be,dP]
 grind
def Fo (l:List Int):ByteArray:=strOfNums l
theorem Wb {f:Int->List TV} (hf:∀n,f n=[.int .u8 n]):∀l,Pe (AL f l)=some l
 |[]=>rfl
 |n::l=>by
  have:AL f (n::l)=f n++AL f l:=by simp[AL]
  rw[this,hf];simp only[D6,Pe,Wb hf l,Bx]
theorem AEO {f:Int->List TV} {x:Operand} {o:Oper} (hf:∀n,f n=[.int .u8 n]) (l:List Int) {s d e e':TypeId} {a:Bool} {r:Root} {q:List Nat} (ho:o.op= .convert s d x:=by rfl) (hs:P.underlying s=some (.slice e):=by rfl) (hd:P.underlying d=some .string:=by rfl) (he:P.underlying e=some (.int .u8):=by rfl) (hr:E.ref x=some (r,q,j):=by rfl) (hp:E.place r q j=some (.sl a e' 1<|AL f l):=by rfl):Bi P E o=some (.one<|.str<|Fo l):=by
 simp only[Bi,ho,hs,hd,he,hr,hp,BQ,Wb hf,Bx];rfl
def shl (k:IntKind) (a b:Int):Option Int:=if b<0 then none else some<|k.wrap<|a*2^(min b.toNat k.bits)
theorem ADX {k:IntKind} {x y:Operand} {o:Oper} {a b v:Int} (h:shl k a b=some v) {t t2:TypeId} (ho:o.op= .binOp .shl t x y t2:=by rfl) (hx:E.cell1 P t x=some (.int k a):=by rfl) (hy:E.cell1 P t y=some (.int k2 b):=by rfl):Bi P E o=some (.one<|.int k v):=by
 unfold shl at h;split at h
 ·cases h
 rename_i hb
 injection h with h
 subst h;simp only[Bi,ho,hx,hy,WY,BQ,XL,Av hb,Bx]
def dr (l:List α) (lo hi:Int):Option (List α):=if 0<=lo/\lo<=hi/\hi<=l.length then some ((l.drop lo.toNat).take<|hi.toNat-lo.toNat)else none
theorem WR (hf:∀x,(f x).length=sz):∀(l:List α) (n:Nat),(AL f l).take (n*sz)=AL f (l.take n)
 |l,0=>by simp[AL]
 |[],n+1=>by simp[AL]
 |x::l,n+1=>by
  have h1:AL f (x::l)=f x++AL f l:=by simp[AL]
  have h2:AL f (x::l.take n)=f x++AL f (l.take n):=by simp[AL]
  rw[h1,DB,Nat.add_comm,Xg,hf x,Nat.add_sub_cancel_left,WR hf l n,MR,h2,AN (by rw[hf x];omega)]
theorem AEN {v:List α} {x oh:Operand} {o:Oper} (hf:∀x,(f x).length=sz) {a b:Int} (h:dr l a b=some v) {t e e':TypeId} {r:Root} {q:List Nat} (ho:o.op= .slice t x lo (some oh) none:=by rfl) (ht:P.underlying t=some (.slice e):=by rfl) (hr:E.ref x=some (r,q,j):=by rfl) (hp:E.place r q j=some (.sl false e' sz<|AL f l):=by rfl) (hl:(match lo with|some o=>E.cell1 P 0 o|none=>some<|.int .i64 0)=some (.int k1 a):=by rfl) (hh:E.cell1 P 0 oh=some (.int k2 b):=by rfl) (c:P.cellsOf e=sz:=by rfl) (h0:Nat.blt 0 sz=true:=by rfl):Bi P E o=some (.one<|.sl false e' sz<|AL f v):=by
 have h0':0<sz:=by simp_all
 unfold dr at h;split at h
 ·rename_i hc
  injection h with h
  subst h;have hl':∀lo':Option TV,lo'=some (.int k1 a)->(match lo',E.cell1 P 0 oh with|some (.int _ l0),some (.int _ h0)=>if sz=P.cellsOf e/\0<sz/\0<=l0/\l0<=h0/\h0.toNat*sz<=(AL f l).length then some (SV.one<|.sl false e' sz<|((AL f l).drop<|l0.toNat*sz).take<|(h0.toNat-l0.toNat)*sz)else none|_,_=>none)=some (SV.one<|.sl false e' sz<|AL f<|(l.drop a.toNat).take<|b.toNat-a.toNat):=by
   rintro _ rfl;rw[hh];simp only;rw[Ay ⟨c.symm,h0',hc.1,hc.2.1,by rw[EV hf];exact BS _<|by omega⟩,Kt hf,WR hf]
  simp only[Bi,ho,ht,hr,hp];exact hl' _ hl
 cases h
theorem AD0 {v:List α} {x:Operand} {o:Oper} (hf:∀x,(f x).length=sz) {a:Int} (h:dr l a (ln l)=some v) {t e e':TypeId} {r:Root} {q:List Nat} (ho:o.op= .slice t x lo none none:=by rfl) (ht:P.underlying t=some (.slice e):=by rfl) (hr:E.ref x=some (r,q,j):=by rfl) (hp:E.place r q j=some (.sl false e' sz<|AL f l):=by rfl) (hl:(match lo with|some o=>E.cell1 P 0 o|none=>some<|.int .i64 0)=some (.int k1 a):=by rfl) (c:P.cellsOf e=sz:=by rfl) (h0:Nat.blt 0 sz=true:=by rfl):Bi P E o=some (.one<|.sl false e' sz<|AL f v):=by
 have h0':0<sz:=by simp_all
 have b:(AL f l).length/sz=l.length:=by rw[EV hf];simp_all
 unfold dr at h;split at h
 ·rename_i hc
  injection h with h
  subst h;simp only[ln]at hc⊢;have hl':∀lo':Option TV,lo'=some (.int k1 a)->(match lo',some (TV.int .i64 (((AL f l).length/sz:Nat):Int))with|some (.int _ l0),some (.int _ h0)=>if sz=P.cellsOf e/\0<sz/\0<=l0/\l0<=h0/\h0.toNat*sz<=(AL f l).length then some (SV.one<|.sl false e' sz<|((AL f l).drop<|l0.toNat*sz).take<|(h0.toNat-l0.toNat)*sz)else none|_,_=>none)=some (SV.one<|.sl false e' sz<|AL f<|(l.drop a.toNat).take<|((l.length:Nat):Int).toNat-a.toNat):=by
   rintro _ rfl;rw[b];simp only;rw[Ay ⟨c.symm,h0',hc.1,hc.2.1,by rw[EV hf];simp⟩,Kt hf,WR hf]
  simp only[Bi,ho,ht,hr,hp];exact hl' _ hl
 cases h
theorem kK {x y:Option β} {b:Bool} {r:β} (h:(bif b then x else y)=some r) (h1:b=true->x=some r->G) (h2:y=some r->G):G:=by grind
def pW (b:ByteArray):List Int:=b.data.toList.map λc=>(c.toNat:Int)
def aps (l:List Int) (b:ByteArray):Option (List Int):=if l.length+b.size<=140737488355328 then some (l++pW b)else none
theorem Xm {f:Int->List TV} (hf:∀n,f n=[.int .u8 n]) (b:ByteArray):Ws b=AL f (pW b):=by
 unfold Ws pW
 induction b.data.toList with
 |nil=>rfl
 |cons c l ih=>
  have e:∀(x:Int) (m:List Int),AL f (x::m)=f x++AL f m:=λx m=>by simp[AL]
  grind
theorem AEC {o:Oper} {f:Int->List TV} {x:Operand} (hf:∀n,f n=[.int .u8 n]) {b:ByteArray} {src dst e:TypeId} (ho:o.op= .convert src dst x:=by rfl) (hd:o.dst=some d:=by rfl) (hN:Nat.blt d N=true:=by rfl) (hs:P.underlying src=some .string:=by rfl) (a:P.underlying dst=some (.slice e):=by rfl) (hx:E.cell1 P src x=some (.str b):=by rfl) (c:nI P e=true:=by rfl):CA P N false E o=some (E.put (some d)<|.one<|.sl false e 1<|AL f<|pW b):=by
 have hN':d<N:=by simp_all
 unfold CA;rw[hd];simp only[Ay hN',ho,Tq,hs,a,hx];rw[Ay c,Xm hf]
structure GJ (w w':World) (B:List Nat):Prop where
 os:w'.os=w.os
 tape:w'.tape=w.tape
 output:w'.output=w.output
 size:w.heap.size<=w'.heap.size
 keep:∀b,b<w.heap.size->b∉B->w'.heap[b]?=w.heap[b]?
theorem CO.beside {w0:Base} {a:Act} (h:CO w0 FA UA N w a E blk FS US) (hb:GJ w w' w0.B) (hB:A'.B=E.amb.B) (hI:A'.I w') (hP:∀b,A'.pin=some b->E.amb.pin=some b):CO w0 FA UA N w' a {E with amb:=A'} blk FS US:=by
 have hF:∀r,∀b∈FS r,w'.heap[b]?=w.heap[b]? :=λr b hx=>hb.keep b (h.inF r b hx).2 (λe=>by
  obtain⟨h1,h2,h3⟩:=h.ambF b e
  rcases(h.inF r b hx).1 with h4|h4
  ·exact h2 h4
  omega)
 have hU:∀r,∀b∈US r,w'.heap[b]?=w.heap[b]? :=λr b hx=>hb.keep b (h.inU r b hx).2 (λe=>by
  obtain⟨h1,h2,h3⟩:=h.ambF b e
  rcases(h.inU r b hx).1 with h4|h4|h4
  ·exact h3 h4
  ·exact h2 h4
  omega)
 have c:∀s,Cr w w' a a E {E with amb:=A'} blk blk s:=λs=>
  Ej h rfl rfl (by cases s<;>rfl) (λ_ _=>rfl) (λ_=>rfl) (hF s) (hU s)
 have hr:∀r,Hb w' a {E with amb:=A'} blk r (FS r) (US r):=λr=>
  RT c (h.root r) (λn _=>⟨rfl,rfl⟩) (λ_=>⟨rfl,rfl⟩) (hF r) (hU r)
 constructor
 ·exact λn=>hr<|.slot n
 ·intro r hm
  cases r with
  |slot n=>cases hm
  |hand=>cases hm
  |box n=>exact hr<|.box n
  |ext n=>exact hr<|.ext n
 ·exact h.nohand
 ·exact h.nodup
 ·exact h.dis
 ·exact h.disU
 ·exact λr b hx=>⟨(h.inF r b hx).1,AX (h.inF r b hx).2 hb.size⟩
 ·exact λr b hx=>⟨(h.inU r b hx).1,AX (h.inU r b hx).2 hb.size⟩
 ·exact h.disA
 ·exact hb.os.trans h.os
 ·exact hb.tape.trans h.tape
 ·exact hb.output.trans h.output
 ·exact JF h.size hb.size
 ·exact λb h1 h2 h3=>(hb.keep b (AX h1 h.size) h3).trans<|h.keep b h1 h2 h3
 ·exact h.len
 ·exact h.nodef
 ·exact h.xblk
 ·rw[hB];exact h.ambB
 ·exact hI
 ·exact h.frz
 ·exact h.ambF
 exact λb hp=>h.pin b<|hP b hp
def Nd (P:Program) (f:FuncId) (A:R2) (as:List AV) (A':R2):Prop:=∀(w:World) (vs:List Value),Ld w as vs [] []->(∀b∈A.B,b<w.heap.size)->A.I w->Calls P f vs.toArray w λe w'=>e= .returned (.tuple #[])/\GJ w w' A.B/\A'.I w'
theorem wF {f:FuncId} {c:Code} (hf:P.funcs[f]?=some fn) (hb:fn.body=some c) (hr:fn.results= #[]) (hp:A.pin=none) (h:Wp P fn.ntmps c (DE as A) λe E=>(e= .normal\/e= .ret)/\E.amb=A'):Nd P f A as A':=by
 intro w vs ha hB hA;obtain⟨blk,FS,US,g,hF,hU⟩:=SA (N:=fn.ntmps) ha C7 (by simp) (by simp) (A:=A) hA (λb hb=>⟨hB b hb,by simp,by simp⟩) (hpin:=λb h=>by rw[hp]at h;cases h);refine calls_of_wp hf hb<|wp_mono (h _ _ _ _ _ _ _ _ g hF hU) ?_;rintro e a w' ⟨E,blk',FS',US',⟨he,rfl⟩,h2,h3,h4⟩;have i:(results fn a.tmps).run P w'= .ok (.tuple #[]) w':=by
  rw[Zx (P:=P),hr];simp
 have d:a.defers=[]/\∃v,(results fn a.tmps).run P w'= .ok v w'/\Ending.returned v= .returned (.tuple #[])/\GJ w w' A.B/\E.amb.I w':=
  ⟨h2.nodef,_,i,rfl,⟨h2.os,h2.tape,h2.output,h2.size,λb h5 h6=>h2.keep b h5 (by simp) h6⟩,h2.ambI⟩
 rcases he with rfl|rfl
 ·exact d
 exact d
theorem RE {w0:Base} {a:Act} {blk:Root->Nat} (h:CO w0 FA UA N w a E blk FS US) (hF:FS .hand=[]) (hU:US .hand=[]) (hd:d<N) {s:SV} (hb:GJ w w' w0.B) (hB:A'.B=E.amb.B) (hI:A'.I w') (hs:XZ w' s v [] []) (hP:∀b,A'.pin=some b->E.amb.pin=some b):
  ∃FS' US',CO w0 FA UA N w' (a.put (some d) v) (({E with amb:=A'}:St).put (some d) s) blk FS' US'/\FS' .hand=[]/\US' .hand=[]:=by
 have k:=h.beside hb hB hI hP;exact k.land (w':=w') (F:=[]) (U:=[]) hd (NO hs) C7 (by simp) (by simp) (Au _) rfl rfl rfl λ_ _ _=>rfl
theorem ADD {rr : β} {x : Option α} {k : α → Option β} {f : FuncId} {l : List AV} (h : x.bind k = some rr) (d : Nat) (Am : α → R2) {args : Array Operand} {tys : Array TypeId} (ho : oo.op = .call { callee := .value (.func f), args := args, argTypes := tys }) (hA : E.amb = A) (hB : ∀ v, (Am v).B = A.B ∧ (Am v).pin = none) (m : Jm P E ((tys.toList.zip args.toList).map fun (t, x) => (false, t, x)) (List.replicate args.size none) = some (l, true)) (n : ∀ w vs F U, Ld w l vs F U → F = [] ∧ U = []) (o : ∀ v, x = some v → Nd P f A l (Am v)) (hk : ∀ v, x = some v → k v = some rr → Hj P N ops rest (({ E with amb := Am v } : St).put (some d)<|.tup []) Q) (hf : P.funcs[f]? = some fn := by rfl) (hn : (fn.name == "runtime.NumGoroutine") = false := by rfl) (hb : fn.body.isNone = false := by rfl) (hd : oo.dst = some d := by rfl) (hN : Nat.blt d N = true := by rfl) (hz : tys.size = args.size := by rfl) (hg : B7 P ops E oo = some true := by rfl) : Hj P N ops (oo :: rest) E Q := by
 obtain⟨v,hv,h⟩:=Aj.1 h;have hN':d<N:=by simpa[B8]using hN
 intro w0 FA UA w a blk FS US hr hF hU;simp only[wpList,Ck hr hg,BQ];refine .inl ?_;have i:((tys.toList.zip args.toList).map λ(t,x)=>(false,t,x)).length=args.size:=by simp[hz]
 obtain⟨U',k5,k6⟩:=Lt hr (ZE (l:=(tys.toList.zip args.toList).map λ(t,x)=>(false,t,x))) (by rw[i];exact m);have p:((tys.toList.zip args.toList).map λ(t,x)=>(false,t,x)).map (λx=>a.eval x.2.2)=(args.map a.eval).toList:=by
  rw[PW,FH];have:((λx:Bool×TypeId×Operand=>a.eval x.2.2)∘λ(x:TypeId×Operand)=>(false,x.1,x.2))=a.eval∘Prod.snd:=rfl;refine(BG (λg=>List.map g<|tys.toList.zip args.toList) this).trans ?_;rw[<-FH,List.map_snd_zip<|by simp[hz]]
 rw[p]at k5;obtain⟨_,rfl⟩:=n _ _ _ _ k5;have j:w0.B=A.B:=hr.ambB.trans<|by rw[hA]
 have c:=o v hv w _ k5 (λb hb=>by
  rw[<-j]at hb
  exact AX (hr.ambF b hb).1 hr.size) (by rw[<-hA];exact hr.ambI)
 unfold Oper.wp;rw[Iz ho ⟨fn,hf,by grind,hb⟩];simp only[Oper.upon];rw[Rm]at c;refine Calls.mono c ?_;rintro e w' ⟨rfl,q,hI⟩;obtain⟨FS',US',q1,q2,q3⟩:=RE (s:= .tup []) (v:= .tuple #[]) hr hF hU hN' (by rw[j];exact q) (by rw[(hB _).1,hA]) hI ⟨[],rfl,rfl,rfl,rfl⟩ (λb hb=>by grind);rw[hd];exact hk v hv h _ _ _ _ _ _ _ _ q1 q2 q3
def IN (P:Program) (Am:List γ->R2) (lt:γ->γ->Bool) (g:FuncId) (cap:Array Value):Prop:=(∀(args:Array Value) (w:World),(callFunc g args).run P w= .ok (.enter g args) w)/\∀(l:List γ) (i j:Int) (x y:γ),gi l i=some x->gi l j=some y->∀w,(Am l).I w->(∀b∈(Am l).B,b<w.heap.size)->Calls P g (#[.int .i64 i,.int .i64 j]++cap) w λe w'=>e= .returned (.bool<|lt x y)/\GJ w w' (Am l).B/\(Am l).I w'
def Nb (P:Program) (Am:List γ->R2) (sf:FuncId) (cap:Array Value):Prop:=∀(l:List γ) (i j:Int) (x y:γ),gi l i=some x->gi l j=some y->∀w,(Am l).I w->(∀b∈(Am l).B,b<w.heap.size)->∃w',(callFunc sf<|#[.int .i64 i,.int .i64 j]++cap).run P w= .ok (.value<|.tuple #[]) w'/\GJ w w' (Am l).B/\(Am<|si (si l i y) j x).I w'
theorem V0 {a:Act} {o:Oper} {t:Nat} {args:Array Operand} {tys:Array TypeId} {g:FuncId} {cap:Array Value} (ho:o.op= .call {callee:= .value (.tmp t),args:=args,argTypes:=tys}) (hv:a.eval (.tmp t)= .func (.func g) #[] cap):
  (execOp a.eval o).run P w=(callFunc g<|args.map a.eval++cap).run P w:=by
 simp[execOp,ho,resolve,hv,Deferred.ofValue,invoke]
theorem AAx {f:Fn} {w0:Base} {a:Act} {blk:Root->Nat} (h:CO w0 FA UA N w a E blk FS US) {t:Nat} {ta cap:Array Value} (hs:E.slots t= .one (.fn f ta cap)):a.eval (.tmp t)= .func f ta cap:=by
 have:=h.slot t;rw[hs]at this;simp only[EE,CT,C1]at this;exact this.1.1
theorem ADC {l:List γ} {x y:γ} {i j:Int} {g:FuncId} {cap:Array Value} (c:IN P Am lt g cap) (hx:gi l i=some x) (hy:gi l j=some y) (d:Nat) {t:Nat} {tys:Array TypeId} (hk:Hj P N ops rest (E.put (some d) (.one (.bool (lt x y)))) Q) (hA:E.amb=Am l:=by rfl) (ho:oo.op= .call {callee:= .value (.tmp t),args:= #[o1,o2],argTypes:=tys}:=by rfl) (hs:E.slots t= .one (.fn (.func g) #[] cap):=by rfl) (h1:E.cell1 P 0 o1=some (.int .i64 i):=by rfl) (h2:E.cell1 P 0 o2=some (.int .i64 j):=by rfl) (hd:oo.dst=some d:=by rfl) (hN:Nat.blt d N=true:=by rfl) (hg:B7 P ops E oo=some true:=by rfl):Hj P N ops (oo::rest) E Q:=by
 have hN':d<N:=by simpa[B8]using hN
 intro w0 FA UA w a blk FS US hr hF hU;simp only[wpList,Ck hr hg,BQ];refine .inl ?_;have h:w0.B=(Am l).B:=hr.ambB.trans<|by rw[hA]
 have m:∀b∈(Am l).B,b<w.heap.size:=λb hb=>by
  rw[<-h]at hb;exact AX (hr.ambF b hb).1 hr.size
 have hI:(Am l).I w:=by rw[<-hA];exact hr.ambI
 have f:=c.2 l i j x y hx hy w hI m;unfold Oper.wp;have e1:=Dp hr h1;have e2:=Dp hr h2;have k:(execOp a.eval oo).run P w= .ok (.enter g<|#[.int .i64 i,.int .i64 j]++cap) w:=by
  rw[V0 ho<|AAx hr hs];rw[c.1];simp[e1,e2]
 rw[k];simp only[Oper.upon];refine Calls.mono f ?_;rintro e w' ⟨rfl,n,hI'⟩
 obtain⟨FS',US',q1,q2,q3⟩:=RE (A':=E.amb) (s:= .one (.bool<|lt x y)) (v:= .bool (lt x y)) hr hF hU hN' (by rw[h];exact n) rfl (by
  rw[hA]
  exact hI') ⟨⟨rfl,rfl,rfl⟩,rfl⟩ λ_ hb=>hb
 rw[hd];exact hk _ _ _ _ _ _ _ _ q1 q2 q3
theorem ADz {l:List γ} {x y:γ} {i j:Int} {cap:Array Value} (c:Nb P Am sf cap) (hB:∀l l',(Am l).B=(Am l').B/\(Am l).pin=none) (hx:gi l i=some x) (hy:gi l j=some y) (d:Nat) {t:Nat} {tys:Array TypeId} (hk:Hj P N ops rest (({E with amb:=Am (si (si l i y) j x)}:St).put (some d)<|.tup []) Q) (hA:E.amb=Am l:=by rfl) (ho:oo.op= .call {callee:= .value (.tmp t),args:= #[o1,o2],argTypes:=tys}:=by rfl) (hs:E.slots t= .one (.fn (.func sf) #[] cap):=by rfl) (h1:E.cell1 P 0 o1=some (.int .i64 i):=by rfl) (h2:E.cell1 P 0 o2=some (.int .i64 j):=by rfl) (hd:oo.dst=some d:=by rfl) (hN:Nat.blt d N=true:=by rfl) (hg:B7 P ops E oo=some true:=by rfl):Hj P N ops (oo::rest) E Q:=by
 have hN':d<N:=by simpa[B8]using hN
 intro w0 FA UA w a blk FS US hr hF hU;simp only[wpList,Ck hr hg,BQ];refine .inl ?_;have e:w0.B=(Am l).B:=hr.ambB.trans<|by rw[hA]
 have g:∀b∈(Am l).B,b<w.heap.size:=λb hb=>by
  rw[<-e]at hb;exact AX (hr.ambF b hb).1 hr.size
 have hI:(Am l).I w:=by rw[<-hA];exact hr.ambI
 obtain⟨w',h,k,hI'⟩:=c l i j x y hx hy w hI g;unfold Oper.wp;have e1:=Dp hr h1;have e2:=Dp hr h2;have f:(execOp a.eval oo).run P w= .ok (.value<|.tuple #[]) w':=by
  rw[V0 ho<|AAx hr hs]
  grind
 rw[f];rw[Oper.upon_value];obtain⟨FS',US',q1,q2,q3⟩:=RE (s:= .tup []) (v:= .tuple #[]) hr hF hU hN' (by rw[e];exact k) (by grind) hI' ⟨[],rfl,rfl,rfl,rfl⟩ (λb hb=>by rw[(hB _ []).2]at hb;cases hb);rw[hd];exact hk _ _ _ _ _ _ _ _ q1 q2 q3
def wZ (l:List γ) (i j:Int):Option (γ×γ):=(gi l i).bind λx=>(gi l j).bind λy=>some (x,y)
theorem ACr {rr:β} {l:List γ} {i j:Int} {k:γ×γ->Option β} {g:FuncId} {cap:Array Value} (a:IN P Am lt g cap) (h:(wZ l i j).bind k=some rr) (d:Nat) {t:Nat} {tys:Array TypeId} (hk:∀v,k v=some rr->Hj P N ops rest (E.put (some d) (.one (.bool (lt v.1 v.2)))) Q) (hA:E.amb=Am l:=by rfl) (ho:oo.op= .call {callee:= .value (.tmp t),args:= #[o1,o2],argTypes:=tys}:=by rfl) (hs:E.slots t= .one (.fn (.func g) #[] cap):=by rfl) (h1:E.cell1 P 0 o1=some (.int .i64 i):=by rfl) (h2:E.cell1 P 0 o2=some (.int .i64 j):=by rfl) (hd:oo.dst=some d:=by rfl) (hN:Nat.blt d N=true:=by rfl) (hg:B7 P ops E oo=some true:=by rfl):Hj P N ops (oo::rest) E Q:=by
 obtain⟨v,hv,h⟩:=Aj.1 h;obtain⟨x,hx,hv⟩:=Aj.1 hv;obtain⟨y,hy,hv⟩:=Aj.1 hv
 injection hv with hv
 subst hv;exact ADC a hx hy d (hk _ h) hA ho hs h1 h2 hd hN hg
def pM (l:List γ) (i j:Int):Option (List γ):=(gi l i).bind λx=>(gi l j).bind λy=>some<|si (si l i y) j x
theorem ACp {rr:β} {l:List γ} {i j:Int} {k:List γ->Option β} {cap:Array Value} (a:Nb P Am sf cap) (hB:∀l l',(Am l).B=(Am l').B/\(Am l).pin=none) (h:((pM l i j).bind k)=some rr) (d:Nat) {t:Nat} {tys:Array TypeId} (hk:∀l',k l'=some rr->Hj P N ops rest (({E with amb:=Am l'}:St).put (some d)<|.tup []) Q) (hA:E.amb=Am l:=by rfl) (ho:oo.op= .call {callee:= .value (.tmp t),args:= #[o1,o2],argTypes:=tys}:=by rfl) (hs:E.slots t= .one (.fn (.func sf) #[] cap):=by rfl) (h1:E.cell1 P 0 o1=some (.int .i64 i):=by rfl) (h2:E.cell1 P 0 o2=some (.int .i64 j):=by rfl) (hd:oo.dst=some d:=by rfl) (hN:Nat.blt d N=true:=by rfl) (hg:B7 P ops E oo=some true:=by rfl):Hj P N ops (oo::rest) E Q:=by
 obtain⟨l',hl',h⟩:=Aj.1 h;obtain⟨x,hx,hl'⟩:=Aj.1 hl';obtain⟨y,hy,hl'⟩:=Aj.1 hl'
 injection hl' with hl'
 subst hl';exact ADz a hB hx hy d (hk _ h) hA ho hs h1 h2 hd hN hg
def AD3 (ls:List (Nat×SV)) (bs:List (Root×List TV)) (A:R2):St:={ADf ls bs with amb:=A}
def TV.flat:TV->Bool
 | .int .. | .bool _| .str _| .fn .. =>true
 |_=>false
def rV:AV->Bool
 | .sv (.one t)=>t.flat
 | .sv (.agg cs)=>cs.all TV.flat
 |_=>false
theorem mV {t:TV} (h:C1 w t v F U) (ht:t.flat=true):F=[]/\U=[]:=by
 cases t<;>first|(cases ht;done)|(simp only[C1]at h;exact h.2)
theorem LD:∀{ts:List TV} {vs:List Value} {F U:List Nat},Bv w ts vs F U->ts.all TV.flat=true->F=[]/\U=[]
 |[],vs,F,U,h,_=>by simp only[Bv]at h;exact h.2
 |t::ts,vs,F,U,h,ht=>by
  simp only[FI,Ak]at ht;simp only[Bv]at h;obtain⟨v,a,F1,F2,U1,U2,rfl,rfl,rfl,h1,h2⟩:=h;obtain⟨rfl,rfl⟩:=mV h1 ht.1;obtain⟨rfl,rfl⟩:=LD h2 ht.2;exact⟨rfl,rfl⟩
theorem bE:∀{l:List AV},l.all rV=true->∀(w:World) (vs:List Value) (F U:List Nat),Ld w l vs F U->F=[]/\U=[]
 |[],_,w,vs,F,U,h=>h.2
 |s::l,hl,w,vs,F,U,h=>by
  simp only[FI,Ak]at hl;obtain⟨v,a,F1,F2,U1,U2,rfl,rfl,rfl,h1,h2⟩:=h;obtain⟨rfl,rfl⟩:=bE hl.2 w a F2 U2 h2;have:F1=[]/\U1=[]:=by
   match s,hl.1,h1 with
   | .sv (.one t),ht,h1=>exact mV h1.1 ht
   | .sv (.agg cs),ht,h1=>obtain⟨_,_,h1⟩:=h1;exact LD h1 ht
  grind
def TV.val:TV->Value
 | .int k n=> .int k n
 | .bool b=> .bool b
 | .str s=> .string s
 | .fn f ta c=> .func f ta c
 |_=> .bool false
theorem ABw {t:TV} (h:C1 w t v F U) (ht:t.flat=true):v=t.val:=by
 cases t<;>first|(cases ht;done)|(simp only[C1]at h;exact h.1)
theorem V4:∀{ts:List TV} {vs:List Value} {F U:List Nat},Bv w ts vs F U->ts.all TV.flat=true->vs=ts.map TV.val
 |[],vs,F,U,h,_=>by simp only[Bv]at h;exact h.1
 |t::ts,vs,F,U,h,ht=>by
  simp only[FI,Ak]at ht;simp only[Bv]at h;obtain⟨v,a,F1,F2,U1,U2,rfl,_,_,h1,h2⟩:=h;rw[ABw h1 ht.1,V4 h2 ht.2];rfl
theorem ABh {t:TV} (ht:t.flat=true):C1 w t t.val [] []:=by
 cases t<;>first|(cases ht;done)|(simp[C1,TV.val])
theorem UX:∀{ts:List TV},ts.all TV.flat=true->Bv w ts (ts.map TV.val) [] []
 |[],_=>by simp[Bv]
 |t::ts,ht=>by
  simp only[FI,Ak]at ht;simp only[Bv,BJ];exact⟨_,_,[],[],[],[],rfl,rfl,rfl,ABh ht.1,UX ht.2⟩
theorem Yn {t:TV}:t.val.oneCell'=true:=by cases t<;>rfl
theorem JD (e:TypeId) (fz:Nat×Nat) (g:Nat):∀(vs:List Value) (o:Nat) (a:Array Value) (w:World),w.heap[g]?=some (.cells a e fz)->o+vs.length<=a.size->(w.setCells g o vs).heap[g]?=some (.cells (setRow a.toList o vs).toArray e fz)
 |[],o,a,w,h,_=>by
  simp only[World.setCells];rw[h];congr 2;apply ACs;simp[setRow]
 |v::vs,o,a,w,h,hl=>by
  simp only[A7]at hl;simp only[World.setCells];have h1:(w.setCell ⟨g,o,none⟩ v).heap[g]?=some (.cells (a.setIfInBounds o v) e fz):=by
   simp only[World.setCell,Array.getElem?_modify,BQ,h,Bx];rfl
  rw[JD e fz g vs (o+1) (a.setIfInBounds o v) _ h1 (by simp;omega)];congr 2;apply ACs;simp only[Array.toList_setIfInBounds];apply CF;intro k;have l1:(a.toList.take o).length=o:=by simp;omega
  have l2:((a.toList.set o v).take<|o+1).length=o+1:=by simp;omega
  simp only[setRow,Ax]
  rcases O5 k o with hk|hk|hk
  ·rw[Bm (by omega),Bm (by omega),CH,CH,Ay (by omega),Ay hk,List.getElem?_set_ne<|by omega]
  ·subst hk;rw[Bm (by omega),Bq (by omega),CH,Ay (by omega),List.getElem?_set_self (by simp;omega),l1];simp
  have eL:(List.take (o+1) (a.toList.set o v)++(vs++List.drop (o+1+vs.length) (a.toList.set o v)))[k]?=(vs++List.drop (o+1+vs.length) (a.toList.set o v))[k-(o+1)]? :=by
   rw[Bq (by omega),l2]
  have eR:(List.take o a.toList++(v::vs++List.drop (o+(v::vs).length) a.toList))[k]?=(vs++List.drop (o+(v::vs).length) a.toList)[k-(o+1)]? :=by
   rw[Bq (by omega),l1,show k-o=(k-(o+1))+1 by omega,B5,List.getElem?_cons_succ]
  rw[eL,eR];by_cases hv:k-(o+1)<vs.length
  ·rw[Bm hv,Bm hv]
  rw[Bq (by omega),Bq (by omega),C4,C4,List.getElem?_set_ne (by omega),A7];congr 1;omega
structure gI (n b g cap:Nat) (e T:TypeId) (sz:Nat) (enc:γ->List TV) (w:World) (l:List γ):Prop where
 ne:b≠g
 len:l.length=n
 box:w.heap[b]?=some (.cells #[.slice (some ⟨g,0,none⟩) l.length cap] T (0,0))
 row:∃cur,w.heap[g]?=some (.cells cur e (0,0))/\cur.size=cap*sz/\cur.toList.take (l.length*sz)=(AL enc l).map TV.val
 le:l.length<=cap/\cap<=maxLen
def LC (n b g cap:Nat) (e T:TypeId) (sz:Nat) (enc:γ->List TV) (l:List γ):R2 where
 B:=[b,g]
 I:=λw=>gI n b g cap e T sz enc w l
 st:=λw w' h hk=>⟨h.ne,h.len,by rw[hk b<|by simp];exact h.box,by rw[hk g<|by simp];exact h.row,h.le⟩
 rd:=λad=>if ad.spot.isSome=true then none else if ad.block=b then(if ad.off=0 then some (.slice (some ⟨g,0,none⟩) n cap)else none)else if ad.block=g then(if ad.off<l.length*sz then((AL enc l).map TV.val)[ad.off]? else none)else none
 rdI:=λw ad v h hr=>by
  obtain⟨bl,off,spot⟩:=ad
  cases spot with
  |some s=>simp at hr
  |none=>
   simp only[F6,BB,Fs]at hr;split at hr
   ·rename_i hb;subst hb;split at hr
    ·rename_i ho;subst ho
     injection hr with hr
     subst hr;simp[World.cell?,h.box,h.len]
    cases hr
   split at hr
   ·rename_i hg;subst hg;split at hr
    ·rename_i ho;obtain⟨a,h1,h2,h3⟩:=h.row;rw[<-h3,CH,Ay ho]at hr;simpa[World.cell?,h1]using hr
    cases hr
   cases hr
theorem QU (f:γ->List TV) (x:γ) (l:List γ):AL f (x::l)=f x++AL f l:=by simp[AL]
theorem G6 (g:Nat):∀(vs:List Value) (o:Nat) (w:World),(w.setCells g o vs).heap.size=w.heap.size
 |[],_,_=>rfl
 |v::vs,o,w=>by
  simp only[World.setCells];rw[G6 g vs,World.size_setCell]
theorem Ju (g:Nat):∀(vs:List Value) (o:Nat) (w:World),(w.setCells g o vs).tape=w.tape
 |[],_,_=>rfl
 |v::vs,o,w=>by
  simp only[World.setCells];rw[Ju g vs,World.tape_setCell]
theorem Qw (f:α->β) (A B:List α) (j:Nat):(setRow A j B).map f=setRow (A.map f) j (B.map f):=by
 simp[setRow,List.map_take,List.map_drop]
theorem gZ {enc:γ->List TV} (a:∀x,(enc x).length=sz) (x z:γ):setRow (enc x) 0 (enc z)=enc z:=by
 simp only[setRow,Jh,A6,HU];rw[DY (by rw[a,a];exact Au _),A4]
theorem SJ {l:List γ} {i:Int} {x z:γ} {enc:γ->List TV} (a:∀x,(enc x).length=sz) (h:gi l i=some x):setRow (AL enc l) (i.toNat*sz) (enc z)=AL enc (si l i z):=
 Wx a h (k:=0) (by rw[a];simp) (gZ a x z)
theorem IH {i:Int} (h:gi l i=some x):0<=i/\l[i.toNat]?=some x:=by
 unfold gi at h;split at h
 ·exact⟨by assumption,h⟩
 cases h
theorem YX {ie:TypeInfo} {b g cap:Nat} {e T:TypeId} {enc:γ->List TV} (f:∀x,(enc x).length=sz) (n:Nat) (gS:Bool) (hx:∀args W,(callFunc sf args).run P W=((Extern.ReflectliteSwapper.swap gS args).run P W).andThen λv w'=> .ok (.value v) w') (h8:P.info? e=some ie) (h:ie.size=sz) (s:∀w,(isAgg e).run P w= .ok true w):
  Nb P (LC n b g cap e T sz enc) sf #[.slice (some ⟨g,0,none⟩) n cap,typeHandle P e]:=by
 intro l i j x y hi hj w hI hB;obtain⟨u,hn,h0,⟨d,hg,h3,h4⟩,h5⟩:=hI;obtain⟨i0,i1⟩:=IH hi;obtain⟨j0,j1⟩:=IH hj;obtain⟨a,rfl⟩:=C0 i0;obtain⟨c,rfl⟩:=C0 j0;simp only[Be]at i1 j1;have la:=(Ag.1 i1).1;have lc:=(Ag.1 j1).1;have hX:((enc x).map TV.val).length=sz:=by rw[Bg];exact f x
 have hY:((enc y).map TV.val).length=sz:=by rw[Bg];exact f y
 have a6:(AL enc l).length=l.length*sz:=EV f l;have p:l.length*sz<=d.size:=by rw[h3];exact BS _ h5.1
 have h9:(a+1)*sz<=l.length*sz:=BS _ la;have a0:(c+1)*sz<=l.length*sz:=BS _ lc;rw[DB]at h9 a0;have cell:∀(m:Nat) (z:γ),l[m]?=some z->∀k v,((enc z).map TV.val)[k]?=some v->w.cell? ⟨g,0+m*ie.size+k,none⟩=some v:=by
  intro m z hm k v hk;have h6:=(Ag.1 hk).1;rw[Bg,f]at h6;have lm:=(Ag.1 hm).1;have a1:(m+1)*sz<=l.length*sz:=BS _ lm;rw[DB]at a1;rw[h,HU];have e1:(AL enc l)[m*sz+k]?=(enc z)[k]? :=by
   have:=Kt f l m;have h2:(AL enc l)[m*sz+k]?=((AL enc l).drop<|m*sz)[k]? :=by rw[C4]
   rw[h2,this,AT lm];have e3:AL enc (l[m]::l.drop (m+1))=enc l[m]++AL enc (l.drop<|m+1):=QU _ _ _;have e4:l[m]=z:=by rw[Ab lm]at hm;injection hm
   rw[e3,e4,Bm (by rw[f];exact h6)]
  have e2:d.toList[m*sz+k]?=some v:=by
   have:(d.toList.take<|l.length*sz)[m*sz+k]?=d.toList[m*sz+k]? :=by rw[CH,Ay<|by omega]
   rw[<-this,h4,AP,e1,<-AP,hk]
  simp only[World.cell?,hg,Aa];simpa using e2
 have frz:∀(m k:Nat),w.frozen? ⟨g,0+m*ie.size+k,none⟩=false:=by
  intro m k;simp[World.frozen?,hg]
 have q:=Go.Lib.run_swap_cells (P:=P) gS e ie h8 s g 0 n cap a c (by omega) (by omega) ((enc x).map TV.val) ((enc y).map TV.val) (by rw[hX,h]) (by rw[hY,h]) (λv hv=>by obtain⟨t,_,rfl⟩:=AG.1 hv;exact Yn) (λv hv=>by obtain⟨t,_,rfl⟩:=AG.1 hv;exact Yn) w (cell a x i1) (cell c y j1) (λk _=>frz a k) λk _=>frz c k;simp only[HU,h]at q;have h1:=JD e (0,0) g ((enc y).map TV.val) (a*sz) d w hg (by rw[hY];omega);have a2:(setRow d.toList (a*sz)<|(enc y).map TV.val).toArray.size=d.size:=by
  rw[O6,Ee (by rw[hY];simp;omega)];simp
 have h2:=JD e (0,0) g ((enc x).map TV.val) (c*sz) _ _ h1 (by rw[a2,hX];omega);have kB:∀k,k<w.heap.size->k≠g->((w.setCells g (a*sz)<|(enc y).map TV.val).setCells g (c*sz)<|(enc x).map TV.val).heap[k]?=w.heap[k]? :=by
  intro k hk h7;have s1:(w.setCells g (a*sz)<|(enc y).map TV.val).heap.size=w.heap.size:=G6 g _ _ _;rw[World.heap_setCells_other _ g _ _ (by rw[s1];exact hk) h7,World.heap_setCells_other _ g _ _ hk h7]
 refine⟨(w.setCells g (a*sz)<|(enc y).map TV.val).setCells g (c*sz)<|(enc x).map TV.val,?_,⟨?_,?_,?_,?_,?_⟩,?_⟩
 ·rw[hx];have ea:(#[Value.int .i64 (a:Int),Value.int .i64 (c:Int)]++ #[Value.slice (some ⟨g,0,none⟩) n cap,typeHandle P e])= #[.int .i64 (a:Int),.int .i64 (c:Int),.slice (some ⟨g,0,none⟩) n cap,typeHandle P e]:=rfl;rw[ea,q];rfl
 ·rw[World.os_setCells,World.os_setCells]
 ·rw[Ju,Ju]
 ·rw[World.output_setCells,World.output_setCells]
 ·rw[G6,G6];exact Au _
 ·intro k hk a3;exact kB k hk λe=>a3 (by rw[e];simp[LC])
 have o:(si (si l (a:Int) y) (c:Int) x).length=l.length:=by simp[si]
 have lcur:d.toList.length=d.size:=by simp
 have r:(setRow d.toList (a*sz)<|(enc y).map TV.val).length=d.size:=by rw[Ee (by rw[hY,lcur];omega),lcur]
 have a4:(setRow (setRow d.toList (a*sz)<|(enc y).map TV.val) (c*sz)<|(enc x).map TV.val).length=d.size:=by rw[Ee (by rw[hX,r];omega),r]
 show gI n b g cap e T sz enc _<|si (si l (a:Int) y) (c:Int) x;refine⟨u,o.trans hn,?_,⟨_,h2,?_,?_⟩,by rw[o];exact h5⟩
 ·rw[kB b (hB b<|by simp[LC]) u,o];exact h0
 ·rw[O6];exact a4.trans h3
 rw[o];show(setRow (setRow d.toList (a*sz)<|(enc y).map TV.val) (c*sz)<|(enc x).map TV.val).take (l.length*sz)=_;rw[Mr (by rw[hX];omega) (by rw[r];exact p),Mr (by rw[hY];omega) (by rw[lcur];exact p),h4,<-Qw,<-Qw];have e1:setRow (AL enc l) (a*sz) (enc y)=AL enc (si l (a:Int) y):=by
  have:=SJ f (z:=y) hi
  rwa [Be]at this
 obtain⟨z0,a5⟩:∃z0,gi (si l (a:Int) y) (c:Int)=some z0:=by
  have lc2:c<(si l (a:Int) y).length:=by simp only[si,G4];exact lc
  refine⟨(si l (a:Int) y)[c],?_⟩;unfold gi;rw[Ay (by omega),Be];exact Ab lc2
 have e2:=SJ f (z:=x) a5;rw[Be]at e2;rw[e1,e2]
theorem kQ {w0:Base} {a:Act} {blk:Root->Nat} (h:CO w0 FA UA N w a E blk FS US) {t:Nat} {ad:Addr} (hs:E.slots t= .one (.adr ad)):a.eval (.tmp t)= .pointer (some ad):=by
 have:=h.slot t;rw[hs]at this;simp only[EE,CT,C1]at this;exact this.1.1
theorem AB2 {w0:Base} {a:Act} {blk:Root->Nat} (h:CO w0 FA UA N w a E blk FS US) {t:Nat} {ad:Addr} {n c:Nat} (hs:E.slots t= .one (.hdr ad n c)):a.eval (.tmp t)= .slice (some ad) n c:=by
 have:=h.slot t;rw[hs]at this;simp only[EE,CT,C1]at this;exact this.1.1
theorem FL.any {o:Oper} (d:Nat) (t:TV) (hk:FL P N ops rest (E.put (some d) (.one t)) K) (b:∀(w0:Base) (FA UA:List Nat) (w:World) (a:Act) (blk:Root->Nat) (FS US:Root->List Nat),CO w0 FA UA N w a E blk FS US->∃v,(execOp a.eval o).run P w= .ok (.value v) w/\C1 w t v [] []/\v.cells= #[v]) (hd:o.dst=some d:=by rfl) (hN:Nat.blt d N=true:=by rfl) (hg:B7 P ops E o=some true:=by rfl):FL P N ops (o::rest) E K:=by
 have hN':d<N:=by simpa[B8]using hN
 intro w0 FA UA w a blk FS US k1 k2 k3;obtain⟨v,h1,h2,h3⟩:=b w0 FA UA w a blk FS US k1;simp only[wpStill,Ck k1 hg,BQ,Oper.still,h1,Oper.stillUpon_value];rw[hd];refine hk _ _ _ _ _ _ _ _ (k1.put (F:=[]) (U:=[]) hN' (by simp only[EE];exact⟨G0 h2,λ_=>h3⟩) bP.none) ?_ ?_
 ·rw[Bt (by simp),k2]
 rw[Bt (by simp),k3]
theorem Le {o:Oper} {ty:TypeId} {x:Nat} (d:Nat) (t:TV) (v:Value) {ad:Addr} (hk:FL P N ops rest (E.put (some d) (.one t)) K) (hs:E.slots x= .one (.adr ad)) (b:E.amb.rd ad=some v) (hv:∀w,C1 w t v [] []) (hc:v.cells= #[v]) (ha:dM P ty=false) (hu:(P.underlying ty).isSome=true) (ho:o.op= .load ty (.tmp x):=by rfl) (hd:o.dst=some d:=by rfl) (hN:Nat.blt d N=true:=by rfl) (hg:B7 P ops E o=some true:=by rfl):FL P N ops (o::rest) E K:=
 FL.any d t hk (λw0 FA UA w a blk FS US h=>by
  have h1:=kQ h hs;have h2:=E.amb.rdI w ad v h.ambI b;have c:P.underlying ty≠none:=by intro e;rw[e]at hu;cases hu
  refine⟨v,?_,hv w,hc⟩
  simp[execOp,ho,h1,Instr.loadAt,Instr.sureAddr,loadVar,W1 c,ha,h2]) hd hN hg
theorem Pt {o:Oper} {x f:Nat} (d:Nat) {ad:Addr} {st:TypeId} (hk:FL P N ops rest (E.put (some d) (.one (.adr (ad.add fd.offset)))) K) (hs:E.slots x= .one (.adr ad)) (c:P.underlying st=some (.struct fs)) (hf:fs[f]?=some fd) (b:P.cellsOf fd.type≠0) (ho:o.op= .fieldAddr st (.tmp x) f:=by rfl) (hd:o.dst=some d:=by rfl) (hN:Nat.blt d N=true:=by rfl) (hg:B7 P ops E o=some true:=by rfl):FL P N ops (o::rest) E K:=
 FL.any d (.adr<|ad.add fd.offset) hk (λw0 FA UA w a blk FS US h=>by
  have h1:=kQ h hs;obtain⟨i,hi,_⟩:=GA b;refine⟨.pointer<|some<|ad.add fd.offset,?_,by simp[C1],rfl⟩
  simp[execOp,ho,h1,Instr.fieldAt,run_underlying c,hf,Instr.sureAddr,fieldPlace,run_sizeOf w hi,b]) hd hN hg
theorem Xc {o:Oper} {x:Nat} {i:Operand} {k:IntKind} (d:Nat) {ad:Addr} {n c:Nat} {t e:TypeId} {m:Int} (hk:FL P N ops rest (E.put (some d) (.one (.adr (ad.add (m.toNat*P.cellsOf e))))) K) (hs:E.slots x= .one (.hdr ad n c)) (ht:P.underlying t=some (.slice e)) (hi:E.cell1 P 0 i=some (.int k m)) (h0:0<=m) (hm:m<n) (f:P.cellsOf e≠0) (ho:o.op= .indexAddr t (.tmp x) i:=by rfl) (hd:o.dst=some d:=by rfl) (hN:Nat.blt d N=true:=by rfl) (hg:B7 P ops E o=some true:=by rfl):FL P N ops (o::rest) E K:=
 FL.any d (.adr<|ad.add<|m.toNat*P.cellsOf e) hk (λw0 FA UA w a blk FS US h=>by
  have h1:=AB2 h hs;have h2:=Dp h hi;obtain⟨inf,b,_⟩:=GA f;refine⟨.pointer<|some<|ad.add<|m.toNat*P.cellsOf e,?_,by simp[C1],rfl⟩
  simp[execOp,ho,h1,h2,Instr.indexAt,run_underlying ht,asIntOf,h0,hm,run_sizeOf w b]) hd hN hg
def Wh (P:Program) (f:FuncId) (A:R2) (as:List AV) (t:TV):Prop:=∀(w:World) (vs:List Value),Ld w as vs [] []->(∀b∈A.B,b<w.heap.size)->A.I w->Calls P f vs.toArray w λe w'=>e= .returned (Wh.val t)/\GJ w w' A.B/\A.I w'
where
 val:TV->Value
 | .int k n=> .int k n
 | .bool b=> .bool b
 | .str s=> .string s
 | .fn f ta c=> .func f ta c
 |_=> .bool false
theorem yZ {t:TV} (h:C1 w t v F U) (ht:t.flat=true):v=Wh.val t:=by
 cases t<;>first|(cases ht;done)|(simp only[C1]at h;exact h.1)
theorem aD {f:FuncId} {c:Code} {t:TV} (hf:P.funcs[f]?=some fn) (hb:fn.body=some c) (ht:t.flat=true) (h:Wp P fn.ntmps c (DE as A) λe E=>(e= .normal\/e= .ret)/\E.amb=A/\∃E',Ea P E fn.results.toList=some ([.one t],E')) (hp:A.pin=none:=by rfl):Wh P f A as t:=by
 intro w vs ha hB hA;obtain⟨blk,FS,US,g,hF,hU⟩:=SA (N:=fn.ntmps) ha C7 (by simp) (by simp) (A:=A) hA (λb hb=>⟨hB b hb,by simp,by simp⟩) (hpin:=λb h=>by rw[hp]at h;cases h);refine calls_of_wp hf hb<|wp_mono (h _ _ _ _ _ _ _ _ g hF hU) ?_;rintro e a w' ⟨E,blk',FS',US',⟨he,i,E',h1⟩,h2,h3,h4⟩;obtain⟨us,FS2,US2,F,U,k1,k2,k3,k4,k5⟩:=MA h2 h1;have k6:=Sd k2;have hv:=yZ k6.1 ht;have hI:A.I w':=by rw[<-i];exact h2.ambI
 have d:a.defers=[]/\∃v,(results fn a.tmps).run P w'= .ok v w'/\Ending.returned v= .returned (Wh.val t)/\GJ w w' A.B/\A.I w':=
  ⟨h2.nodef,_,OM k1,by rw[hv],⟨h2.os,h2.tape,h2.output,h2.size,λb h5 h6=>h2.keep b h5 (by simp) h6⟩,hI⟩
 rcases he with rfl|rfl
 ·exact d
 exact d
theorem WE {g : FuncId} {ad : Addr} (hf : P.funcs[g]? = some fn) (hn : (fn.name == "runtime.NumGoroutine") = false) (hb : fn.body.isNone = false) (h : ∀ (l : List γ) (i j : Int) (x y : γ), gi l i = some x → gi l j = some y → (∃ w, (Am l).I w) → Wh P g (Am l) [.sv (.one (.int .i64 i)), .sv (.one (.int .i64 j)), .sv (.one (.adr ad))] (.bool (lt x y))) : IN P Am lt g #[.pointer (some ad)] := by
 refine⟨λargs w=>?_,λl i j x y hx hy w hI hB=>?_⟩
 ·have a:fn.body≠none:=by intro e;simp[e]at hb
  have b : fn.name ≠ "runtime.NumGoroutine" := by intro e; rw[e] at hn; simp at hn
  simp[callFunc,hf,b,a]
 exact h l i j x y hx hy ⟨w,hI⟩ w [.int .i64 i,.int .i64 j,.pointer<|some ad]
  ⟨_,_,[],[],[],[],rfl,rfl,rfl,⟨by simp[C1],rfl⟩,⟨_,_,[],[],[],[],rfl,rfl,rfl,⟨by simp[C1],rfl⟩,⟨_,_,[],[],[],[],rfl,rfl,rfl,⟨by simp[C1],rfl⟩,⟨rfl,rfl,rfl⟩⟩⟩⟩ hB hI
def Tw (P:Program) (f:FuncId) (t e sz:Nat) (enc:γ->List TV) (g:FuncId) (l l':List γ):Prop:=∀(w:World) (b:Nat) (v:Value) (T:TypeId),w.heap[b]?=some (.cells #[v] T (0,0))->w.ownsRow 0 e sz v l.length ((AL enc l).map TV.val)->b∉BO v->
  Calls P f #[.iface t v,.func (.func g) #[] #[.pointer<|some ⟨b,0,none⟩]] w λr w'=>r= .returned (.tuple #[])/\GJ w w' (b::BO v)/\w'.heap[b]?=some (.cells #[v] T (0,0))/\w'.ownsRow 0 e sz v l'.length ((AL enc l').map TV.val)
section
variable {w0:Base} {a:Act}
theorem CO.turn (h:CO w0 FA UA N w a E blk FS US) (hF:FS .hand=[]) (hU:US .hand=[]) {r:Root} (hm:r.mem=true) {cells cells':List TV} (hc:E.boxes r=some cells) (l:cells'.length=cells.length) (hb:GJ w w' (FS r)) (d:∃c T F,w'.heap[blk r]?=some (.cells c T (0,0))/\Bv w' cells' c.toList F (US r)/\FS r=blk r::F):
  ∃FS' US',CO w0 FA UA N w' a ((E.setRoot r cells').bump r) blk FS' US'/\FS' .hand=[]/\US' .hand=[]:=by
 have f:r≠ .hand:=by rintro rfl;cases hm
 have i:∀j,((E.setRoot r cells').bump r).place r [] j=cells'[j]? :=by
  intro j
  cases r with
  |slot n=>cases hm
  |hand=>cases hm
  |box n=>simp[St.place,St.bump,St.setRoot,St.root,Cg,BN]
  |ext n=>simp[St.place,St.bump,St.setRoot,St.root,Cg,BN]
 have g:∀j,E.place r [] j=cells[j]? :=by
  intro j
  cases r with
  |slot n=>cases hm
  |hand=>cases hm
  |box n=>simp[St.place,St.root,hc,BN]
  |ext n=>simp[St.place,St.root,hc,BN]
 let E1:St:=(E.setRoot r cells').bump r
 have ev:∀s,s≠r->E1.ver s=E.ver s:=by
  intro s hs;cases r<;>simp[E1,St.bump,St.setRoot,Cg,hs]
 have evr:E1.ver r=E.ver r+1:=by cases r<;>simp[E1,St.bump,St.setRoot,Cg]
 have eg:∀s,E1.gen s=E.gen s:=by intro s;cases r<;>rfl
 have er:∀s,s≠r->E1.root s=E.root s:=by
  intro s hs
  cases r with
  |slot n=>cases hm
  |hand=>cases hm
  |box n=>cases s<;>simp[E1,St.bump,St.setRoot,St.root,Cg,hs]
  |ext n=>cases s<;>simp[E1,St.bump,St.setRoot,St.root,Cg,hs]
 have es:∀n,E1.slots n=E.slots n:=by
  intro n
  cases r with
  |slot n=>cases hm
  |hand=>cases hm
  |box n=>rfl
  |ext n=>rfl
 have eb:∀s,E1.boxes s=if s=r then some cells' else E.boxes s:=by
  intro s
  cases r with
  |slot n=>cases hm
  |hand=>cases hm
  |box n=>rfl
  |ext n=>rfl
 have k:∀s,Cr w w' a a E E1 blk blk s:=by
  intro s;by_cases hs:s=r
  ·subst hs;refine⟨.inl (by rw[evr];omega),.inr ⟨eg s,λj ad hv hp=>?_⟩⟩;refine⟨(by cases s<;>first|exact hv|(cases hm)),?_⟩
   grind
  by_cases hh:s= .hand
  ·subst hh;exact Gl (ev _ hs) (eg _)<|by simp[St.root,h.nohand]
  exact Ej h (ev s hs) (eg s) (er s hs) (λ_ _=>rfl) (λ_=>rfl)
   (λb hx=>hb.keep b (h.inF s b hx).2<|h.dis s r hs b hx) (λb hx=>hb.keep b (h.inU s b hx).2 λe=>h.disU r s b e hx)
 have k7:=h.two (w':=w') (a':=a) (E':=E1) (blk':=blk) (r1:=r) (r2:= .hand) (L1:=FS r) (L2:=[]) (V1:=US r) (V2:=[]) f
  (by simpa using h.nodup r)
  (λb hx=>⟨.inl (by simpa using hx),AX (h.inF r b<|by simpa using hx).2 hb.size⟩)
  (λb hx=> .inl ⟨r,by simpa using hx⟩)
  hb.size hb.os hb.tape hb.output (λb hx q _=>hb.keep b hx q) k (λn _ _=>⟨es n,rfl⟩) (λs _ hs _=>⟨by rw[eb,Av hs],rfl⟩)
  (by
   obtain⟨c,T,F,g1,g2,g3⟩:=d;have:Hb w' a E1 blk r (FS r) (US r):=by
    have e1:=eb r;rw[Ay rfl]at e1
    cases r with
    |slot n=>cases hm
    |hand=>cases hm
    |box n=>exact .inr ⟨cells',c,T,F,e1,g1,g2,g3⟩
    |ext n=>exact .inr ⟨cells',c,T,F,e1,g1,g2,g3⟩
   exact this)
  trivial (by rw[eb,Av<|Fk f];exact h.nohand) h.len h.nodef (hfz:=by
   intro n hn;have e:((E.setRoot r cells').bump r).fz=E.fz:=by rw[Rd,Ii]
   exact h.frz n<|e▸hn) (hamb:=by show((E.setRoot r cells').bump r).amb=E.amb;rw[Lb,Ew])
 exact⟨_,_,k7,BK _ _ _,BK _ _ _⟩
end
theorem VJ {w0:Base} {a:Act} (h:CO w0 FA UA N w a E blk FS US) (hF:FS .hand=[]) (hU:US .hand=[]) (hd:d<N) (v:Value):∃FS' US',CO w0 FA UA N w (a.put (some d) v) (E.put (some d) (.one .junk)) blk FS' US'/\FS' .hand=[]/\US' .hand=[]:=
 h.land (w':=w) (F:=[]) (U:=[]) hd (by simp[EE,CT,TV.isJunk]) C7 (by simp) (by simp) (Au _) rfl rfl rfl (λ_ _ _=>rfl)
theorem Gj {enc:γ->List TV} (a:∀x,(enc x).all TV.flat=true):∀l:List γ,(AL enc l).all TV.flat=true
 |[]=>rfl
 |x::l=>by
  have:AL enc (x::l)=enc x++AL enc l:=by simp[AL]
  rw[this,List.all_append,a,Gj a l];rfl
theorem JT {o:Oper} (h:o.guard=none):B7 P ops E o=some true:=by unfold B7;rw[h]
theorem Hj.srt {l l':List γ} {o1 o2 o3:Oper} {d1 d2 d3 x p ver:Nat} {enc:γ->List TV} {sz e t:Nat} {f b:FuncId} {r:Root} {tys:Array TypeId} (hs:Tw P f t e sz enc b l l') (hk:Hj P N ops rest (((((E.put (some d1) (.one .junk)).put (some d2) (.one .junk)).setRoot r [.sl true e sz (AL enc l')]).bump r).put (some d3) (.tup [])) Q) (h:∀x,(enc x).length=sz) (c:∀x,(enc x).all TV.flat=true) (hx:E.slots x= .one (.view r ver [] 0):=by rfl) (i:E.ver r=ver:=by rfl) (hp:E.ptr? (.tmp p)=some (r,[],0):=by rfl) (hc:E.boxes r=some [.sl true e sz<|AL enc l]:=by rfl) (hm:r.mem=true:=by rfl) (h1:o1.op= .makeInterface t (.tmp x):=by rfl) (h2:o2.op= .makeFunc (.func b) #[] #[.tmp p]:=by rfl) (h3:o3.op= .call {callee:= .value (.func f),args:= #[.tmp d1,.tmp d2],argTypes:=tys}:=by rfl) (k1:o1.dst=some d1:=by rfl) (k2:o2.dst=some d2:=by rfl) (k3:o3.dst=some d3:=by rfl) (g1:o1.guard=none:=by rfl) (g2:o2.guard=none:=by rfl) (g3:o3.guard=none:=by rfl) (u:Nat.blt d1 N=true:=by rfl) (y:Nat.blt d2 N=true:=by rfl) (z:Nat.blt d3 N=true:=by rfl) (h0:Nat.beq d1 d2=false:=by rfl) (j:Nat.beq p d1=false:=by rfl) (h4:Nat.blt 0 sz=true:=by rfl) (ht:P.underlying t=some (.slice e):=by rfl) (hf:dJ P f):Hj P N ops (o1::o2::o3::rest) E Q:=by
 have hN1':d1<N:=by simpa[B8]using u
 have hN2':d2<N:=by simpa[B8]using y
 have hN3':d3<N:=by simpa[B8]using z
 have hne':d1≠d2:=by intro e;subst e;simp at h0
 have hne2':p≠d1:=by intro e;subst e;simp at j
 have hsz':0<sz:=by simpa[B8]using h4
 intro w0 FA UA w a blk FS US hr hF hU;have k:∃v T F,w.heap[blk r]?=some (.cells #[v] T (0,0))/\C1 w (.sl true e sz<|AL enc l) v F (US r)/\FS r=blk r::F:=by
  rcases hr.box r hm with⟨q1,_⟩|⟨cs,m,T,F,q1,q2,q3,q4⟩
  ·grind
  rw[hc]at q1
  injection q1 with q1
  subst q1;simp only[Bv]at q3;obtain⟨v,h5,F1,F2,U1,U2,e1,rfl,e3,q5,rfl,rfl,rfl⟩:=q3;have:m= #[v]:=by grind
  grind
 obtain⟨v,T,F,b1,b2,b3⟩:=k;simp only[C1]at b2;obtain⟨n,vs,F',b4,b5,rfl⟩:=b2;have h6:=V4 b5<|Gj c l;obtain⟨rfl,a4⟩:=LD b5<|Gj c l;subst h6;have h7:n=l.length:=by
  have q:=b4.1;rw[Bg,EV h l]at q;exact(Nat.eq_of_mul_eq_mul_right hsz' q).symm
 subst h7;rw[A4]at b3;have h8:blk r∉BO v:=by
  have:=hr.nodup r
  grind
 have evx:a.eval (.tmp x)=v:=by
  have q:=hr.slot x;rw[hx]at q;simp only[EE,CT]at q;obtain⟨⟨_,_,_,q4⟩,_⟩:=q;obtain⟨q5,_⟩:=q4 i
  cases r with
  |slot n=>cases hm
  |hand=>cases hm
  |box n=>simpa[pv,BL,Addr.add,World.cell?,b1]using q5.symm
  |ext n=>simpa[pv,BL,Addr.add,World.cell?,b1]using q5.symm
 have evp:a.eval (.tmp p)= .pointer (some ⟨blk r,0,none⟩):=by
  obtain⟨_,ad,q1,q2⟩:=KE hr hp;rw[q2]
  cases r with
  |slot n=>cases hm
  |hand=>cases hm
  |box n=>simp[pa,Addr.add]at q1;rw[<-q1]
  |ext n=>simp[pa,Addr.add]at q1;rw[<-q1]
 obtain⟨FS1,US1,r1,r2,r3⟩:=VJ hr hF hU hN1'<|.iface t v;have e1:(execOp a.eval o1).run P w= .ok (.value<|.iface t v) w:=by
  simp[execOp,h1,Instr.makeInterface,run_underlying ht,evx]
 simp only[wpList,Ck hr<|JT (P:=P) (ops:=ops) g1,BQ];refine .inl ?_
 try unfold Oper.wp
 rw[e1,Oper.upon_value,k1];have evp1:(a.put (some d1)<|.iface t v).eval (.tmp p)= .pointer (some ⟨blk r,0,none⟩):=by rw[Dx hne2',evp]
 obtain⟨FS2,US2,s1,s2,s3⟩:=VJ r1 r2 r3 hN2'<|.func (.func b) #[] #[.pointer<|some ⟨blk r,0,none⟩];have e2:(execOp (a.put (some d1)<|.iface t v).eval o2).run P w= .ok (.value<|.func (.func b) #[] #[.pointer<|some ⟨blk r,0,none⟩]) w:=by
  simp[execOp,h2,Instr.makeFunc,evp1]
 simp only[wpList,Ck r1<|JT (P:=P) (ops:=ops) g2,BQ];refine .inl ?_
 try unfold Oper.wp
 rw[e2,Oper.upon_value,k2];simp only[wpList,Ck s1<|JT (P:=P) (ops:=ops) g3,BQ];refine .inl ?_;have h9:d1<a.tmps.size:=AX hN1' hr.len;have a0:d2<(a.put (some d1)<|.iface t v).tmps.size:=AX hN2' r1.len
 try unfold Oper.wp
 rw[Iz h3 hf];have ea: #[Operand.tmp d1,.tmp d2].map ((a.put (some d1)<|.iface t v).put (some d2)<|.func (.func b) #[] #[.pointer<|some ⟨blk r,0,none⟩]).eval= #[.iface t v,.func (.func b) #[] #[.pointer<|some ⟨blk r,0,none⟩]]:=by
  simp[Gy a0,Dx hne',Gy h9]
 rw[ea];simp only[Oper.upon];refine Calls.mono (hs w (blk r) v T b1 b4 h8) ?_;rintro ee w' ⟨rfl,a1,a2,a3⟩;have o:((E.put (some d1)<|.one .junk).put (some d2)<|.one .junk).boxes r=some [.sl true e sz<|AL enc l]:=hc;have g:∃F2,FS2 r=blk r::F2/\F2=BO v/\US2 r=[]:=by
  rcases s1.box r hm with⟨q1,_⟩|⟨cs,m,T2,F2,q1,q2,q3,q4⟩
  ·grind
  rw[o]at q1
  injection q1 with q1
  subst q1;rw[b1]at q2
  injection q2 with q2
  injection q2 with q2
  subst q2;simp only[Bv]at q3;obtain⟨v2,h5,F3,F4,U1,U2,e1,rfl,e3,q5,rfl,rfl,rfl⟩:=q3;simp at e1;subst e1;simp only[C1]at q5;obtain⟨n,vs,F',c4,c5,rfl⟩:=q5;obtain⟨rfl,rfl⟩:=LD c5<|Gj c l
  grind
 obtain⟨F2,f1,rfl,f3⟩:=g;obtain⟨FS3,US3,t1,t2,t3⟩:=s1.turn s2 s3 hm o (cells':=[.sl true e sz<|AL enc l']) rfl (w':=w') (by rw[f1];exact a1)
  ⟨#[v],T,BO v,a2,by
   rw[f3];simp only[Bv];refine⟨v,[],BO v,[],[],[],rfl,by simp,rfl,?_,rfl,rfl,rfl⟩;simp only[C1]
   exact⟨l'.length,_,[],a3,UX<|Gj c l',by simp⟩,f1⟩
 obtain⟨FS4,US4,u1,u2,u3⟩:=t1.land (w':=w') (d:=d3) (s:= .tup []) (v:= .tuple #[]) (F:=[]) (U:=[]) hN3' (by simp[EE,Pj]) C7 (by simp) (by simp) (Au _) rfl rfl rfl λ_ _ _=>rfl;rw[k3];exact hk _ _ _ _ _ _ _ _ u1 u2 u3
def uD (b:Nat) (v:Value) (T:TypeId) (e sz n:Nat) (xs:List Value):R2 where
 B:=b::BO v
 I:=λw=>w.heap[b]?=some (.cells #[v] T (0,0))/\w.ownsRow 0 e sz v n xs
 st:=λw w' h hk=>⟨by grind,h.2.1,by
  rcases h.2.2 with q|⟨g,cap,a,rfl,q1,q2,q3⟩
  ·exact .inl q
  exact .inr ⟨g,cap,a,rfl,q1,by rw[hk g<|by simp[BO,Value.ownBlock]];exact q2,q3⟩⟩
theorem iT {l:List γ} {i:Int} {x:γ} {n b g cap:Nat} {e T:TypeId} {enc:γ->List TV} (a:∀x,(enc x).length=sz) {t:TV} {ad:Addr} (hi:gi l i=some x) (hk:(enc x)[k]?=some t) (hb:b≠g) (c:ad=⟨g,i.toNat*sz+k,none⟩):(LC n b g cap e T sz enc l).rd ad=some t.val:=by
 subst c;obtain⟨i0,i1⟩:=IH hi;have lm:=(Ag.1 i1).1;have d:=(Ag.1 hk).1;rw[a]at d;have f:(i.toNat+1)*sz<=l.length*sz:=BS _ lm;rw[DB]at f;have e1:(AL enc l)[i.toNat*sz+k]?=(enc x)[k]? :=by
  have h2:(AL enc l)[i.toNat*sz+k]?=((AL enc l).drop<|i.toNat*sz)[k]? :=by grind
  rw[h2,Kt a l i.toNat,AT lm,QU]
  grind
 simp only[LC,F6,BB,Fs]
 grind
theorem iU {l:List γ} {n b g cap:Nat} {e T:TypeId} {enc:γ->List TV}:(LC n b g cap e T sz enc l).rd ⟨b,0,none⟩=some (.slice (some ⟨g,0,none⟩) n cap):=by
 simp[LC]
theorem XM {g m:Nat}:((⟨g,0,none⟩:Addr).add m)=⟨g,m,none⟩:=by
 unfold Addr.add
 grind
theorem fV {i:Int} (h:gi l i=some x):0<=i/\i<l.length:=by
 obtain⟨i0,i1⟩:=IH h
 grind
def wY (t t':TV):Prop:=t=t'\/∃e sz a cells',t= .sl true e sz a/\BD a=cells'/\t'= .sl false e sz cells'
def les:List TV->List TV->Prop
 |[],ts'=>ts'=[]
 |t::ts,ts'=>∃x xs,ts'=x::xs/\wY t x/\les ts xs
mutual
def bH:SV->SV->Prop
 | .one t,s'=>∃t',s'= .one t'/\wY t t'
 | .agg cs,s'=>∃cs',s'= .agg cs'/\les cs cs'
 | .tup ss,s'=>∃ss',s'= .tup ss'/\TW ss ss'
def TW:List SV->List SV->Prop
 |[],ss'=>ss'=[]
 |s::ss,ss'=>∃x xs,ss'=x::xs/\bH s x/\TW ss xs
end
theorem ACG {t:TV}:wY t t:= .inl rfl
theorem ACF:∀{ts:List TV},les ts ts
 |[]=>rfl
 |t::ts=>⟨t,ts,rfl,ACG,ACF⟩
theorem les.c {t x:TV} {ts xs:List TV} (h:wY t x) (k:les ts xs):les (t::ts) (x::xs):=⟨x,xs,rfl,h,k⟩
theorem wY.s {e sz:Nat} {a cells':List TV} (h:BD a=cells'):wY (.sl true e sz a) (.sl false e sz cells'):= .inr ⟨e,sz,a,cells',rfl,h,rfl⟩
mutual
theorem ADu:∀{s:SV},bH s s
 | .one t=>⟨t,rfl,ACG⟩
 | .agg cs=>⟨cs,rfl,ACF⟩
 | .tup ss=>⟨ss,rfl,uS⟩
theorem uS:∀{ss:List SV},TW ss ss
 |[]=>rfl
 |s::ss=>⟨s,ss,rfl,ADu,uS⟩
end
theorem bH.a {cs cs':List TV} (h:les cs cs'):bH (.agg cs) (.agg cs'):=⟨cs',rfl,h⟩
theorem bH.o {t t':TV} (h:wY t t'):bH (.one t) (.one t'):=⟨t',rfl,h⟩
theorem AEY {ss':List SV} (h:TW ss ss'):bH (.tup ss) (.tup ss'):=⟨ss',rfl,h⟩
theorem TW.c {xs:List SV} {s x:SV} (h:bH s x) (k:TW ss xs):TW (s::ss) (x::xs):=⟨x,xs,rfl,h,k⟩
def Jk (F U F' U':List Nat):Prop:=F'.Sublist F/\∀b∈U',b∈U\/(b∈F/\b∉F')
theorem Ta {F1 F2 U1 U2 F1' F2' U1' U2':List Nat} (hd:(F1++F2).Nodup) (h:Jk F1 U1 F1' U1') (k:Jk F2 U2 F2' U2'):Jk (F1++F2) (U1++U2) (F1'++F2') (U1'++U2'):=by
 obtain⟨_,_,hd⟩:=BR.1 hd;refine⟨h.1.append k.1,λb hb=>?_⟩
 rcases Al.1 hb with hb|hb
 ·rcases h.2 b hb with q|⟨q1,q2⟩
  ·grind
  refine .inr ⟨by simp[q1],λhc=>?_⟩
  rcases Al.1 hc with hc|hc
  ·exact q2 hc
  exact hd b q1 b (k.1.subset hc) rfl
 rcases k.2 b hb with q|⟨q1,q2⟩
 ·grind
 refine .inr ⟨by simp[q1],λhc=>?_⟩
 rcases Al.1 hc with hc|hc
 ·exact hd b (h.1.subset hc) b q1 rfl
 exact q2 hc
theorem Jk.refl:Jk F U F U:=⟨List.Sublist.refl _,λb hb=> .inl hb⟩
theorem AC4 {t t':TV} (h:C1 w t v F U) (k:wY t t'):∃F' U',C1 w t' v F' U'/\Jk F U F' U':=by
 rcases k with rfl|⟨e,sz,a,cells',rfl,rfl,rfl⟩
 ·exact⟨F,U,h,Jk.refl⟩
 obtain⟨U',h1,h2⟩:=SS h;exact⟨[],U',h1,List.nil_sublist _,λb hb=>(h2 b hb).elim (λq=> .inr ⟨q,by simp⟩) .inl⟩
def oA (ops:Array Oper) (i:Nat):Oper:=match ops[i]? with
 |some o=>o
 | none => { dst := none, op := .load 0 (.tmp 0), type := 0, pos := "", after := #[], guard := none }
theorem IV {ops:Array Oper} (h:Nat.blt i ops.size=true):ops[i]?=some (oA ops i):=by
 have:i<ops.size:=by simpa[B8]using h
 unfold oA
 grind
theorem GP {ops:Array Oper} (h:Nat.blt i ops.size=true):ops.toList.drop i=oA ops i::ops.toList.drop (i+1):=by
 have hi:i<ops.toList.length:=by simpa[B8]using h
 have h1:=IV h;rw[<-Array.getElem?_toList,Ab hi]at h1
 injection h1 with h1
 rw[AT hi,h1]
def R4 (P:Program) (ops:Array Oper) (E:St) (i:Nat):Bool:=Nat.blt i ops.size&&(match B7 P ops E (oA ops i)with|some b=>b|none=>false)
theorem HT {ops:Array Oper} (h:R4 P ops E i=true):Nat.blt i ops.size=true/\B7 P ops E (oA ops i)=some true:=by
 simp only[R4,Ak]at h
 grind
def Gz (N:Nat) (o:Oper):Bool:=match o.dst with
 |some d=>Nat.blt d N
 |none=>false
theorem EW {o:Oper} (h:Gz N o=true):∃d,o.dst=some d/\Nat.blt d N=true/\d<N:=by
 unfold Gz at h;split at h
 ·rename_i d hd;exact⟨d,hd,h,by simpa[B8]using h⟩
 cases h
def yF (P:Program) (N:Nat) (ops:Array Oper) (mv:Bool) (E:St) (i:Nat):Option St:=bif Nat.blt i ops.size then
  match B7 P ops E (oA ops i)with
  |some true=>CA P N mv E<|oA ops i
  |some false=>bif Gz N (oA ops i)then some (E.put (oA ops i).dst<|.tup [])else none
  |none=>none else none
def Rw (P:Program) (N:Nat) (ops:Array Oper):Nat->Nat->Nat->St->Option St
 |0,_,_,E=>some E
 |k+1,m,i,E=>match yF P N ops (Nat.beq (m %2) 1) E i with
  |some E'=>Rw P N ops k (m/2) (i+1) E'
  |none=>none
def P9 (P:Program) (N:Nat) (ops:Array Oper) (k m i:Nat) (E:St):St:=(Rw P N ops k m i E).getD E
theorem getD_some {α:Type _} {x:Option α} {a:α} (h:x.isSome=true):x=some (x.getD a):=by
 cases x with
 |none=>cases h
 |some y=>rfl
def RW (P:Program) (N:Nat) (ops:Array Oper) (i:Nat) (E:St) (Q:Exit->St->Prop):Prop:=Hj P N ops (ops.toList.drop i) E Q
def SW (P:Program) (N:Nat) (ops:Array Oper) (m i:Nat) (E:St) (K:St->Prop):Prop:=FL P N ops ((ops.toList.take m).drop i) E K
theorem bd {r:β} {x:Option α} {k:α->Option β} (h:x.bind k=some r) (hk:∀a,x=some a->k a=some r->G):G:=by
 obtain⟨a,ha,h⟩:=Aj.1 h;exact hk a ha h
theorem RW.nil (h:Q .normal E) (hi:Nat.ble ops.size i=true:=by kernel_rfl):RW P N ops i E Q:=by
 have:ops.size<=i:=by simpa[PU]using hi
 unfold RW;rw[DY<|by simpa using this];exact Hj.nil h
theorem BU {mv:Bool} (hs:CA P N mv E (oA ops i)=some E') (h:RW P N ops (i+1) E' Q) (hk:R4 P ops E i=true:=by kernel_rfl):RW P N ops i E Q:=by
 obtain⟨h1,h2⟩:=HT hk;unfold RW;rw[GP h1];exact Hj.op mv h2 hs h
theorem RW.st {mv:Bool} (hs:yF P N ops mv E i=some E') (h:RW P N ops (i+1) E' Q):RW P N ops i E Q:=by
 unfold yF at hs
 cases hi:Nat.blt i ops.size with
 |false=>grind
 |true=>
  rw[hi]at hs;simp only[Ae]at hs;unfold RW;rw[GP hi];split at hs
  ·rename_i hg;exact Hj.op mv hg hs h
  ·rename_i hg
   cases hd:Gz N (oA ops i)with
   |false=>grind
   |true=>
    rw[hd]at hs;simp only[Ae]at hs
    injection hs with hs
    subst hs;obtain⟨d,h1,_,h2⟩:=EW hd;rw[h1]at h;exact AA1 h1 h2 hg h
  cases hs
section
variable {m:Nat}
theorem RW.run:∀{k m i:Nat} {E E':St},Rw P N ops k m i E=some E'->RW P N ops (i+k) E' Q->RW P N ops i E Q
 |0,m,i,E,E',h,hw=>by
  simp only[Rw]at h
  grind
 |k+1,m,i,E,E',h,hw=>by
  simp only[Rw]at h;split at h
  ·rename_i E1 h1;exact RW.st h1 (RW.run h (by grind))
  cases h
end
theorem wR (k m:Nat) (h:RW P N ops (i+k) (P9 P N ops k m i E) Q) (hk:(Rw P N ops k m i E).isSome=true:=by kernel_rfl):RW P N ops i E Q:=RW.run (getD_some hk) h
def zC (P:Program) (N:Nat) (ops:Array Oper) (i:Nat) (E:St):Bool:=R4 P ops E i&&pk (oA ops i)&&Gz N (oA ops i)
theorem qG (h:zC P N ops i E=true):R4 P ops E i=true/\pk (oA ops i)=true/\∃d,(oA ops i).dst=some d/\Nat.blt d N=true/\d<N:=by
 simp only[zC,Ak]at h;exact⟨h.1.1,h.1.2,EW h.2⟩
theorem RW.q {s:SV} (hp:Bi P E (oA ops i)=some s) (h:RW P N ops (i+1) (E.put (oA ops i).dst s) Q) (hk:zC P N ops i E=true:=by kernel_rfl):RW P N ops i E Q:=by
 obtain⟨h1,h2,d,h3,h4,_⟩:=qG hk;rw[h3]at h;exact BU (tD hp h3 h4 h2) h h1
theorem AEj {r:β} {b:Bool} (t:Nat) (h:(bif b then tx else ty)=some r) (ht:tx=some r->RW P N ops i (E.rs t true) Q) (hf:ty=some r->RW P N ops i (E.rs t false) Q) (hc:E.slots t=B b:=by kernel_rfl):RW P N ops i E Q:=ADA h t ht hf hc
section
variable {m:Nat}
theorem QX (h:Nat.blt i ops.size=true) (hm:Nat.blt i m=true):(ops.toList.take m).drop i=oA ops i::(ops.toList.take m).drop (i+1):=by
 have hi:i<ops.size:=by simpa[B8]using h
 have a:i<m:=by simpa[B8]using hm
 have hl:i<(ops.toList.take m).length:=by simp;omega
 have h1:=IV h;rw[AT hl]
 grind
end
section
variable {m:Nat}
theorem SW.nil (h:K E) (hi:(Nat.ble ops.size i||Nat.ble m i)=true:=by kernel_rfl):SW P N ops m i E K:=by
 unfold SW
 rw[DY (by
  rw[Cq]at hi
  rcases hi with hi|hi
  ·have:ops.size<=i:=by simpa[PU]using hi
   simp;omega
  have:m<=i:=by simpa[PU]using hi
  simp;omega)]
 exact FL.nil h
end
def pS (P:Program) (N:Nat) (ops:Array Oper) (m:Nat) (E:St) (i:Nat):Option St:=bif Nat.blt i ops.size&&Nat.blt i m&&Gz N (oA ops i)then
  match B7 P ops E (oA ops i)with
  |some true=>match JL P E (oA ops i)with
   |some s=>some<|E.put (oA ops i).dst s
   |none=>none
  |some false=>some<|E.put (oA ops i).dst<|.tup []
  |none=>none else none
def eH (P:Program) (N:Nat) (ops:Array Oper) (m:Nat):Nat->Nat->St->Option St
 |0,_,E=>some E
 |k+1,i,E=>match pS P N ops m E i with
  |some E'=>eH P N ops m k (i+1) E'
  |none=>none
theorem SW.st {m:Nat} (hs:pS P N ops m E i=some E') (h:SW P N ops m (i+1) E' K):SW P N ops m i E K:=by
 unfold pS at hs
 cases hb:(Nat.blt i ops.size&&Nat.blt i m&&Gz N (oA ops i))with
 |false=>grind
 |true=>
  rw[hb]at hs;simp only[Ae]at hs;simp only[Ak]at hb;obtain⟨d,h1,_,h2⟩:=EW hb.2;unfold SW;rw[QX hb.1.1 hb.1.2];split at hs
  ·rename_i hg;split at hs
   ·rename_i s a
    injection hs with hs
    subst hs;rw[h1]at h;exact FL.op s hg h1 h2 a h
   cases hs
  ·rename_i hg
   injection hs with hs
   subst hs;rw[h1]at h;exact AAT h1 h2 hg h
  cases hs
theorem SW.run {m:Nat}:∀{k i:Nat} {E E':St},eH P N ops m k i E=some E'->SW P N ops m (i+k) E' K->SW P N ops m i E K
 |0,i,E,E',h,hw=>by
  simp only[eH]at h
  grind
 |k+1,i,E,E',h,hw=>by
  simp only[eH]at h;split at h
  ·rename_i E1 h1;exact SW.st h1 (SW.run h (by grind))
  cases h
theorem Dg {m:Nat} (k:Nat) (h:SW P N ops m (i+k) ((eH P N ops m k i E).getD E) K) (hk:(eH P N ops m k i E).isSome=true:=by kernel_rfl):SW P N ops m i E K:=SW.run (getD_some hk) h
theorem SW.q {m:Nat} {s:SV} (hp:Bi P E (oA ops i)=some s) (h:SW P N ops m (i+1) (E.put (oA ops i).dst s) K) (hk:(zC P N ops i E&&Nat.blt i m)=true:=by kernel_rfl):SW P N ops m i E K:=by
 rw[Ak]at hk;obtain⟨h1,h2,d,h3,h4,h5⟩:=qG hk.1;obtain⟨h6,h7⟩:=HT h1;rw[h3]at h;unfold SW;rw[QX h6 hk.2];exact FL.op s h7 h3 h5 (tE hp h2) h
theorem XO {m:Nat} {r:β} {b:Bool} (t:Nat) (h:(bif b then tx else ty)=some r) (ht:tx=some r->SW P N ops m i (E.rs t true) K) (hf:ty=some r->SW P N ops m i (E.rs t false) K) (hc:E.slots t=B b:=by kernel_rfl):SW P N ops m i E K:=ADt h t ht hf hc
def lsd (n:Nat):List Nat->Array Bool
 |[]=>Array.replicate n false
 |i::l=>(lsd n l).setIfInBounds i true
def KW (P:Program) (N:Nat) (ops:Array Oper) (ts:List Nat) (dn:List Nat) (E:St) (Q:Exit->St->Prop):Prop:=XW P N ops ts (ops.size-dn.length) (lsd ops.size dn) E Q
def KB (P:Program) (N:Nat) (ops:Array Oper) (ts:List Nat) (dn:List Nat) (i:Nat) (E:St) (Q:Exit->St->Prop):Prop:=gL P N ops ts i E (λE'=>KW P N ops ts (i::dn) E' Q) Q
theorem AF {ts:List Nat} (h:Q .normal E) (hr:(Region.ready .any ops (lsd ops.size dn)).isEmpty=true:=by kernel_rfl):KW P N ops ts dn E Q:=AA2 h<|by simpa using hr
def rdy (ops:Array Oper) (dn l:List Nat):Bool:=(Region.ready .any ops (lsd ops.size dn)==l)&&Nat.blt dn.length ops.size
theorem VI (h:Nat.blt dn.length ops.size=true):ops.size-dn.length=(ops.size-(i::dn).length)+1:=by
 have:dn.length<ops.size:=by simpa[B8]using h
 grind
theorem KW.all {ts:List Nat} (l:List Nat) (h:∀i∈l,KB P N ops ts dn i E Q) (a:l≠ []) (hr:rdy ops dn l=true):KW P N ops ts dn E Q:=by
 simp only[rdy,Ak,Cd]at hr;unfold KW;rw[VI (i:=0) hr.2];exact XW.all l (λi hi=>h i hi) hr.1 a
theorem AQ {ts:List Nat} (i:Nat) (h:KB P N ops ts dn i E Q) (hr:rdy ops dn [i]=true:=by kernel_rfl):KW P N ops ts dn E Q:=KW.all [i] (λj hj=>by grind) (by simp) hr
theorem Cp {ts:List Nat} (i j:Nat) (h:KB P N ops ts dn i E Q) (h2:KB P N ops ts dn j E Q) (hr:rdy ops dn [i,j]=true:=by kernel_rfl):KW P N ops ts dn E Q:=KW.all [i,j] (λm hm=>by grind) (by simp) hr
theorem XX {ts:List Nat} (i j k:Nat) (h:KB P N ops ts dn i E Q) (h2:KB P N ops ts dn j E Q) (h3:KB P N ops ts dn k E Q) (hr:rdy ops dn [i,j,k]=true:=by kernel_rfl):KW P N ops ts dn E Q:=KW.all [i,j,k] (λm hm=>by grind) (by simp) hr
theorem ACT {ts:List Nat} (i j k l:Nat) (h:KB P N ops ts dn i E Q) (h2:KB P N ops ts dn j E Q) (h3:KB P N ops ts dn k E Q) (h4:KB P N ops ts dn l E Q) (hr:rdy ops dn [i,j,k,l]=true:=by kernel_rfl):KW P N ops ts dn E Q:=KW.all [i,j,k,l] (λm hm=>by grind) (by simp) hr
theorem FJ {ts:List Nat} {mv:Bool} (hs:CA P N mv E (oA ops i)=some E') (h:KW P N ops ts (i::dn) E' Q) (hk:(R4 P ops E i&&(kp (oA ops i)||ts.contains i))=true:=by kernel_rfl):KB P N ops ts dn i E Q:=by
 rw[Ak]at hk;obtain⟨h1,h2⟩:=HT hk.1;exact gL.op i mv h hs (IV h1) h2 hk.2
theorem KB.q {ts:List Nat} {s:SV} (hp:Bi P E (oA ops i)=some s) (h:KW P N ops ts (i::dn) (E.put (oA ops i).dst s) Q) (hk:(zC P N ops i E&&(kp (oA ops i)||ts.contains i))=true:=by kernel_rfl):KB P N ops ts dn i E Q:=by
 rw[Ak]at hk;obtain⟨h1,h2,d,h3,h4,h5⟩:=qG hk.1;rw[h3]at h;exact FJ (tD hp h3 h4 h2) h (by rw[h1,hk.2];rfl)
def pI (ops:Array Oper) (ts dn:List Nat) (i:Nat):Bool:=Nat.blt dn.length ops.size&&Tp ops ts ops.size i (lsd ops.size dn)
theorem ADF {ts:List Nat} {s:SV} (i:Nat) (hp:JL P E (oA ops i)=some s) (h:KW P N ops ts (i::dn) (E.put (oA ops i).dst s) Q) (hk:(R4 P ops E i&&Gz N (oA ops i)&&pI ops ts dn i)=true):KW P N ops ts dn E Q:=by
 simp only[Ak,pI]at hk;obtain⟨⟨h1,h2⟩,h3,h4⟩:=hk;obtain⟨h5,h6⟩:=HT h1;obtain⟨d,h7,h8,_⟩:=EW h2;unfold KW at h⊢;rw[VI (i:=i) h3];rw[h7]at h;exact XW.take ops.size i d s h hp (IV h5) h4 h6 h7 h8
theorem KW.q {ts:List Nat} {s:SV} (i:Nat) (hp:Bi P E (oA ops i)=some s) (h:KW P N ops ts (i::dn) (E.put (oA ops i).dst s) Q) (hk:(zC P N ops i E&&pI ops ts dn i)=true:=by kernel_rfl):KW P N ops ts dn E Q:=by
 rw[Ak]at hk;have h0:=hk.1;simp only[zC,Ak]at h0;exact ADF i (tE hp h0.1.2) h<|by grind
theorem AEm {ts:List Nat} (i:Nat) (h:KW P N ops ts (i::dn) (E.put (oA ops i).dst (.tup [])) Q) (hg:B7 P ops E (oA ops i)=some false) (hk:(Nat.blt i ops.size&&Gz N (oA ops i)&&pI ops ts dn i)=true):KW P N ops ts dn E Q:=by
 simp only[Ak,pI]at hk;obtain⟨⟨h1,h2⟩,h3,h4⟩:=hk;obtain⟨d,h7,h8,_⟩:=EW h2;unfold KW at h⊢;rw[VI (i:=i) h3];rw[h7]at h;exact kV ops.size i d h (IV h1) h4 hg h7 h8
def AAg (P:Program) (N:Nat) (ops:Array Oper) (ts:List Nat) (mv:Bool) (dn:List Nat) (E:St) (i:Nat):Option St:=match B7 P ops E (oA ops i)with
 |some false=>bif Nat.blt i ops.size&&Gz N (oA ops i)&&pI ops ts dn i then some (E.put (oA ops i).dst<|.tup [])else none
 |some true=>bif Nat.blt i ops.size&&Gz N (oA ops i)&&pI ops ts dn i&&!mv then
   (match JL P E (oA ops i)with
   |some s=>some<|E.put (oA ops i).dst s
   |none=>bif rdy ops dn [i]&&(kp (oA ops i)||ts.contains i)then CA P N mv E (oA ops i)else none) else bif Nat.blt i ops.size&&rdy ops dn [i]&&(kp (oA ops i)||ts.contains i)then CA P N mv E (oA ops i)else none
 |none=>none
section
variable {m:Nat}
def vU (P:Program) (N:Nat) (ops:Array Oper) (ts:List Nat):List Nat->Nat->List Nat->St->Option St
 |[],_,_,E=>some E
 |i::l,m,dn,E=>match AAg P N ops ts (Nat.beq (m %2) 1) dn E i with
  |some E'=>vU P N ops ts l (m/2) (i::dn) E'
  |none=>none
end
def iV:List Nat->List Nat->List Nat
 |[],dn=>dn
 |i::l,dn=>iV l (i::dn)
section
variable {ts:List Nat}
theorem KW.st {mv:Bool} (hs:AAg P N ops ts mv dn E i=some E') (h:KW P N ops ts (i::dn) E' Q):KW P N ops ts dn E Q:=by
 unfold AAg at hs;split at hs
 ·rename_i hg
  cases hb:(Nat.blt i ops.size&&Gz N (oA ops i)&&pI ops ts dn i)with
  |false=>grind
  |true=>
   rw[hb]at hs;simp only[Ae]at hs
   injection hs with hs
   subst hs;exact AEm i h hg hb
 ·rename_i hg;have one:(Nat.blt i ops.size&&rdy ops dn [i]&&(kp (oA ops i)||ts.contains i))=true->CA P N mv E (oA ops i)=some E'->KW P N ops ts dn E Q:=by
   intro hb hs;simp only[Ak]at hb;refine AQ i (FJ hs h ?_) hb.1.2;simp only[R4,hb.1.1,hg,hb.2,Ku]
  cases hb:(Nat.blt i ops.size&&Gz N (oA ops i)&&pI ops ts dn i&&!mv)with
  |false=>grind
  |true=>
   rw[hb]at hs;simp only[Ae]at hs;simp only[Ak]at hb;split at hs
   ·rename_i s a
    injection hs with hs
    subst hs;refine ADF i a h ?_;simp only[R4,hb.1.1.1,hb.1.1.2,hb.1.2,hg,Ku]
   grind
 cases hs
end
section
variable {m:Nat} {ts:List Nat}
theorem KW.run:∀{l:List Nat} {m:Nat} {dn:List Nat} {E E':St},vU P N ops ts l m dn E=some E'->KW P N ops ts (iV l dn) E' Q->KW P N ops ts dn E Q
 |[],m,dn,E,E',h,hw=>by
  simp only[vU]at h
  injection h with h
  subst h;exact hw
 |i::l,m,dn,E,E',h,hw=>by
  simp only[vU]at h;split at h
  ·rename_i E1 h1;exact KW.st h1 (KW.run h hw)
  cases h
end
theorem AK {ts:List Nat} (l:List Nat) (m:Nat) (h:KW P N ops ts (iV l dn) ((vU P N ops ts l m dn E).getD E) Q) (hk:(vU P N ops ts l m dn E).isSome=true:=by kernel_rfl):KW P N ops ts dn E Q:=KW.run (getD_some hk) h
theorem O2 {r:β} {ts:List Nat} {b:Bool} (t:Nat) (h:(bif b then tx else ty)=some r) (ht:tx=some r->KW P N ops ts dn (E.rs t true) Q) (hf:ty=some r->KW P N ops ts dn (E.rs t false) Q) (hc:E.slots t=B b:=by kernel_rfl):KW P N ops ts dn E Q:=ADE h t ht hf hc
theorem ACR {id:Nat} (h:RW P N ops 0 E Q):Wp P N (.region id ops false) E Q:=by
 have:=Wp.region (id:=id) (l:=ops.toList) (P:=P) (N:=N) (E:=E) (Q:=Q) (by simpa[RW]using h);simpa using this
theorem Lm {id:Nat} (hm:P.follows .mixedOrders=true) (h:SW P N ops ops.size 0 E (λE'=>Q .normal E')) (hB:Region.lexB .any ops=true:=by kernel_rfl):Wp P N (.region id ops true) E Q:=by
 have:=Rg (id:=id) (l:=ops.toList) (P:=P) (N:=N) (E:=E) (Q:=Q) hm (by simpa using hB) (by
  have h2:=h;unfold SW at h2;rw[AN<|by simp]at h2
  simpa using h2)
 simpa using this
theorem Ph {id:Nat} (n:Nat) (hm:P.follows .mixedOrders=true) (h:SW P N ops n 0 E (λE'=>RW P N ops n E' Q)) (hB:Region.lexTailB .any ops n=true:=by kernel_rfl):Wp P N (.region id ops true) E Q:=by
 have:=rZ (id:=id) (l:=ops.toList) (P:=P) (N:=N) (E:=E) (Q:=Q) n hm (by simpa using hB) (by simpa[SW,RW]using h);simpa using this
theorem CU {id:Nat} (ts:List Nat) (hm:P.follows .mixedOrders=true) (hQ:∀c E,Q (.panic c) E->False) (h:KW P N ops ts [] E Q):Wp P N (.region id ops true) E Q:=
 r6 ops.size ts hm hQ (by simpa[KW,lsd]using h) rfl
end Go.TI
