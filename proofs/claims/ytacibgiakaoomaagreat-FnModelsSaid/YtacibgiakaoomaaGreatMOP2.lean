/- What an ask makes of a drawn model. No condition; no program is in sight. -/
import Derived.Test.YtacibgiakaoomaaGreatMOP1
set_option linter.unusedVariables false
set_option linter.unusedSimpArgs false
namespace Go.TI
open Go
theorem bF (i:Int):∀(k:Int) (l:List Leaf),(Rf i k l).length<=l.length
 |_,[]=>A5 _
 |k,x::l=>by
  rw[Rf,A3,AM];have:=bF i (k+1) l
  grind [pg]
theorem bG:∀(i:Int) (l:List Block),(H0 i l).length<=nl l
 |_,[]=>A5 _
 |i,b::l=>by
  rw[H0,A3];have:=bG (i+1) l
  grind [bF,nl]
variable {r r' b a:List Ak} {d e d':A0} {n k j m:Nat} {c:AT} {M:List Ap} {g f:Flash} {s:Store} {T:List ByteArray} {y:Ak} {nx nx':Int} {l P l':Vs} {p:Page} {code:List Int} {x:CU} {ps:List Page} {K:Ks} {α:Type}
theorem pB (hf:Be f) (h:SR (H0 0 f.Blocks) r):r.length<=40:=by
 have h1:=bG 0 f.Blocks;have h2:=hf.few;have h3:=h.2.len;omega
theorem JN:∀{ss:List Bl} {ps:List Page} {i:Nat} {y:Ak},(B6 ss ps)[i]?=some y->ps[i]?=some y.Page
 |[],_,i,y,h=>by simp[B6]at h
 |s::ss,[],i,y,h=>by simp[B6]at h
 |s::ss,p::ps,0,y,h=>by grind [B6]
 |s::ss,p::ps,i+1,y,h=>by grind [B6]
theorem Tp {ss:List Bl} (h:ss.length=ps.length):(B6 ss ps).length=ps.length:=by unfold B6;grind
theorem Rm (ss:List Bl) (ps:List Page) (k:Nat):B6 (ss.take k) (ps.take k)=(B6 ss ps).take k:=by unfold B6;grind
theorem Y5:∀(T:List ByteArray),(∀t∈T,(L t).length<=90)->(KF T).length<=90*T.length
 |[],_=>by simp[KF]
 |t::T,h=>by
  have:=Y5 T λx hx=>h x<|by simp[hx]
  grind [KF]
theorem Vu {r1 m:List Ak} (h:Gt r1) (hl:r1.length<=1000) {a:List CU} (c:1<=T.length) (d:T.length<=9) (e:∀t∈T,(L t).length<=90) (f:KF T=GR a) (g:∀r∈a,F5 r=true) (hm:∀(i:Nat) y,m[i]?=some y->(B4 (CA r1) (CW r1) T)[i]?=some y.Page) (j:m.length=T.length) (l:∀p∈B4 (CA r1) (CW r1) T,GS p) (k:Nat) (hk:k<=T.length):
  Gt (r1++m.take k)/\(∀y∈m.take k,y.Page.Kind≠1)/\(k<T.length->AN (r1++m.take k)=AN r1)/\(k=T.length->∃q,AN (r1++m.take k)=AN r1++ [Tx.mk (CW r1) q a]):=by
 have n:∀(i:Nat) y,m[i]?=some y->∃t,T[i]?=some t/\y.Page=Page.mk 2 (CA r1+i) (CW r1) i T.length t:=by grind [B4]
 have b:=VP r1;obtain⟨c1,_⟩:=Gt.metas h b.1 m k (by omega) (λi y hy=>by grind) (by omega);have hN:VJ (m.take k) (CW r1) T.length T:=by
  refine⟨by grind,⟨c,d⟩,rfl,λi y hy=>?_⟩
  grind
 obtain⟨g1,g2⟩:=ZE r1 (λy hy=>(h.pages.tx y hy).1) b.1 b.2.1 hN;refine⟨c1,λy hy=>by rw[(hN.all hy).1];omega,λhh=>g1 (by grind),λhh=>g2 (by grind) a ?_⟩
 grind [Zs,Y5]
structure Jm (d:A0) (r:List Ak):Prop where
 dev:IL d r
 core:Gt r
 data:Ew r (CM (AW d.Store))
theorem Jm.few (h:Jm d r):r.length<=40:=pB h.dev.fl h.dev.sr
theorem JQ (hg:Be g) (a:SR (H0 0 g.Blocks) r):∃d,BW g=some (d,true)/\IL d r/\d.Flash=g:=by
 obtain⟨d,r',h1,h2,h3⟩:=Pq hg;have:r'=r:=by
  have h4:=h2.sr;rw[h3]at h4;exact h4.uniq a
 grind
theorem Ot (seq tx:Int) (T:List ByteArray):EE seq (B4 seq tx T):=by
 have a:∀(l:List ByteArray) (i:Nat) (n:Int),n<=seq+i->EE n (l.mapIdx λj t=>Page.mk 2 (seq+(i+j:Nat)) tx (i+j:Nat) T.length t):=by
  intro l
  induction l with
  |nil=>intro i n _;trivial
  |cons x l ih=>
   intro i n hn;rw[List.mapIdx_cons];refine⟨by simpa using hn,?_⟩;have:=ih (i+1) (seq+(i:Int)+1)<|by omega
   grind
 have:=a T 0 seq<|by omega
 grind [B4]
theorem ZN (c:Int) (a:ByteArray) (tx:Int) (T:List ByteArray):EE d.Seq (BS d c a++B4 (FW d a) tx T):=by
 unfold BS FW;by_cases e:L a=[]
 ·grind [Ot]
 rw[AA e,AA e];exact⟨HD _,Ot _ _ _⟩
theorem IF (ss:List Bl) (ps:List Page) (k:Nat):∀y∈(B6 ss ps).take k,y.Page∈ps:=by
 intro y hy;obtain⟨i,hi,rfl⟩:=Au<|List.mem_of_mem_take hy;exact Am<|JN<|Ab hi
def FU (f:Flash) (n:Int):Prop:=∀b∈f.Blocks,b.Wear<=n
theorem aL {l:List Block} {n b:Int} {x:Block} (h:∀y∈l,y.Wear<=n) (hx:x.Wear<=n):∀y∈si l b x,y.Wear<=n:=by grind [si]
theorem UJ {s:Bl} {n m:Int} (h:FU f n) (hm:n<=m) (hs:s.Kind=1\/n+1<=m):FU (Jz f s) m:=by
 have h0:∀y∈f.Blocks,y.Wear<=m:=λy hy=>by have:=h y hy;omega
 unfold Jz Pw QL FU;by_cases e:s.Kind=1
 ·rw[Bc e]
  cases hg:gi f.Blocks s.Block with
  |none=>exact h0
  |some x=>exact aL h0<|h0 x<|Am (C6 hg).2
 rw[AA e]
 cases hg:gi f.Blocks s.Block with
 |none=>exact h0
 |some x=>exact aL h0 (by have:=h x<|Am (C6 hg).2;grind)
theorem OR {n:Int}:∀{f:Flash} {ss:List Bl} {ps:List Page} {g:Flash},FD f ss ps g->FU f n->FU g n
 |f,[],[],g,h,hw=>by rw[show g=f from h];exact hw
 |f,s::ss,p::ps,g,h,hw=>OR h.2.2.2 (UJ hw (HD _) (.inl h.1))
 |f,[],q::ps,g,h,_=>h.elim
 |f,s::ss,[],g,h,_=>h.elim
theorem Mk:∀{f:Flash} {ss:List Bl} {ps:List Page} {g:Flash},FD f ss ps g->∀s∈ss,s.Kind=1
 |f,[],[],g,h,s,hs=>by cases hs
 |f,s::ss,p::ps,g,h,x,hs=>by
  rcases PU.1 hs with rfl|hs
  ·exact h.1
  exact Mk h.2.2.2 x hs
 |f,[],q::ps,g,h,_,_=>h.elim
 |f,s::ss,[],g,h,_,_=>h.elim
def Sb (f g:Flash):Prop:=∀n,FU f n->FU g n
theorem Qa (h:Jm d r) {l:List CU} (x:∀r∈l,F5 r=true) {a:ByteArray} {b:CU} {steps:List Bl} (z:1<=T.length) (h0:T.length<=9) (h1:KF T=GR l) (v:∀t∈T,(L t).length<=90) (hp:FD d.Flash steps (BS d b.Chunk a++B4 (FW d a) d.Tx T) g) (o:∀p∈BS d b.Chunk a++B4 (FW d a) d.Tx T,GS p) (a6:L a≠ []->¬CM (AW d.Store) b.Chunk) (k:Nat) (hk:k<=steps.length):
  ∃m d' r',Steps d.Flash (steps.take k) m/\Be m/\BW m=some (d',true)/\IL d' r'/\d'.Flash=m/\r'=r++(B6 steps (BS d b.Chunk a++B4 (FW d a) d.Tx T)).take k/\Sb d.Flash m/\Gt r'/\Ew r' (CM (AW d.Store))/\
   (k<steps.length->AN r'=AN r)/\(k=steps.length->(∃q,AN r'=AN r++ [Tx.mk d.Tx q l])/\∀s,Qb a=some s->L a≠ []->(∀c,CM (AW d.Store) c->B9 r c≠some s)->Ew r' (λc=>CM (AW d.Store) c\/c=b.Chunk)):=by
 obtain⟨a7,f⟩:=DY hp;obtain⟨m,hm⟩:=OS k hp;obtain⟨h2,_⟩:=DY hm;have h3:=RY h.dev.fl h2;have a5:=h.few
 have h4:∀y∈r,y.Page.Seq<d.Seq:=λy hy=>by rw[h.dev.seq];simp_all [Ls]
 have h5:=ZN (d:=d) b.Chunk a d.Tx T;have ascT:∀(ps:List Page) (n:Int) (k:Nat),EE n ps->EE n (ps.take k):=by
  intro ps
  induction ps with
  |nil=>grind
  |cons p ps ih=>
   intro n k ha
   cases k with
   |zero=>trivial
   |succ k=>exact⟨ha.1,ih _ k ha.2⟩
 have h6:=TL h.dev.fl h.dev.sr hm h4<|ascT _ _ k h5;rw[Rm]at h6;obtain⟨d',u1,u2,u3⟩:=JQ h3 h6;refine⟨m,d',r++(B6 steps<|BS d b.Chunk a++B4 (FW d a) d.Tx T).take k,h2,h3,u1,u2,u3,rfl,λ_=>OR hm,?_⟩;have w:(B4 (FW d a) d.Tx T).length=T.length:=by unfold B4;grind
 have u:=Tp f;by_cases e:L a=[]
 ·
  have e1:BS d b.Chunk a=[]:=by grind [BS]
  have e2:FW d a=d.Seq:=by grind [FW]
  rw[e1,e2,Ao]at u f o⊢;rw[e2]at w;rw[h.dev.seq,h.dev.tx]at u f o w⊢;obtain⟨a1,a2,a3,a4⟩:=Vu h.core (by omega) z h0 v h1 x (m:=B6 steps<|B4 (CA r) (CW r) T) (λi y hy=>JN hy) (by omega) o k (by omega);exact⟨a1,h.data.metas a2,λhh=>a3 (by omega),λhh=>⟨a4 (by omega),λs _ h7=>absurd e h7⟩⟩
 have e1:BS d b.Chunk a=[Page.mk 1 d.Seq b.Chunk 0 1 a]:=by grind [BS]
 have e2:FW d a=d.Seq+1:=by grind [FW]
 rw[e1,e2]at u f o⊢;rw[e2]at w;rw[Hb]at u f o⊢;rw[AM]at f u
 match hsteps:steps,f with
 |[],f=>simp at f
 |s0::ss,f=>
  have ef:B6 (s0::ss) (Page.mk 1 d.Seq b.Chunk 0 1 a::B4 (d.Seq+1) d.Tx T)=Ak.mk s0.Block s0.Leaf (Page.mk 1 d.Seq b.Chunk 0 1 a)::B6 ss (B4 (d.Seq+1) d.Tx T):=rfl;rw[ef]
  cases k with
  |zero=>
   rw[List.take_zero,AQ];exact⟨h.core,h.data,λ_=>rfl,λhh=>by simp at hh⟩
  |succ k=>
   rw[List.take_succ_cons];generalize h8:Ak.mk s0.Block s0.Leaf (Page.mk 1 d.Seq b.Chunk 0 1 a)=y0;have j:y0.Page=Page.mk 1 d.Seq b.Chunk 0 1 a:=by rw[<-h8]
   have c1:Gt (r++ [y0]):=Gt.add h.core (by omega) (by grind) (by rw[j,h.dev.seq];exact HD _) (λhh=>by grind);have g1:AN (r++ [y0])=AN r:=Rl r (by rw[j];simp);have s1:CA (r++ [y0])=d.Seq+1:=by rw[UO (by rw[j,h.dev.seq];exact HD _),j]
   have t1:CW (r++ [y0])=d.Tx:=by rw[VQ,AA (by rw[j];simp),h.dev.tx]
   have h9:(B6 ss<|B4 (d.Seq+1) d.Tx T).length=T.length:=by grind
   rw[List.append_cons];obtain⟨a1,a2,a3,a4⟩:=Vu c1 (by simp;omega) z h0 v h1 x (m:=B6 ss<|B4 (d.Seq+1) d.Tx T) (by grind [JN]) h9 (by grind) k (by omega);have dz:Ew (r++ [y0]) (CM<|AW d.Store):=YR h.data (by grind);rw[g1,t1]at a4;rw[g1]at a3;have a8:ss.length=T.length:=by simp at f;omega
   refine⟨a1,dz.metas a2,λhh=>a3 (by simp at hh;omega),λhh=>⟨a4 (by simp at hh;omega),λs hs _ a0=>?_⟩⟩;have:=eP h.data (y:=y0) (s:=s) (by rw[j]) (by grind) (by grind) a0;rw[j]at this;exact this.metas a2
theorem oW (h:Cx s):Uw s.Arena:=by unfold Uw;have:=h.few;omega
theorem gP (h:Cx s) (x:Int):x∈W7 s s.Vols.length↔∃p∈AW s,x∈p.2:=by
 unfold W7 AW;simp only[List.mem_flatten,Az]
 have a:∀v∈s.Vols,(Gu s.Arena v.Root).getD []=DW s.Arena.Knots v.Root:=λv hv=>by
  rw[LG _ (by have:=h.few;omega) h.ar<|h.root _<|Az.2 ⟨v,hv,rfl⟩];rfl
 grind
theorem L8 (h:Cx s):∃l,IA s=some l/\asc l/\(∀x,x∈l↔CM (AW s) x)/\l.length<=16777216:=by
 have:=h.len;obtain⟨l,h1,h2,h3⟩:=XK s (by omega)<|oW h;refine⟨l,h1,h2.1,λx=>?_,h3⟩;rw[h2.2 x,gP h]
 grind [CM]
theorem WB {c:Int} (h:Cx s) (hc:CM (AW s) c):0<c/\c<s.Next:=by
 obtain⟨h0,p,hp,hx⟩:=hc;unfold AW at hp;obtain⟨v,hv,rfl⟩:=Az.1 hp;exact⟨h0,h.lt _ (Az.2 ⟨v,hv,rfl⟩) c hx⟩
def HG (r:List Ak) (a:List Int) (b:Int):List Bool:=a.foldl (bN r)<|r.map<|EV b
theorem NI (r:List Ak) (a:List Int) (b:Int):(HG r a b).length=r.length:=by unfold HG;rw[Yr,Cf]
theorem Qs (r:List Ak) (a:List Int) (b:Int) (hy:r[j]?=some y):(HG r a b)[j]?=some (EV b y||a.any (λc=>Xs c r r.length==some j)):=by grind [Yc,HG]
theorem kA {c:Int} (h:Xs c r r.length=some j):H8 r c=r[j]? :=by
 rw[SO<|Sh c r r.length<|A5 _,h];rfl
theorem kY {c:Int} (h:H8 r c=some y):∃j,Xs c r r.length=some j/\r[j]?=some y:=by
 have:=SO<|Sh c r r.length<|A5 _;rw[h]at this
 cases ht:Xs c r r.length with
 |none=>grind
 |some j=>grind
theorem cC {p:Nat->Bool} (h:cn n p=0):∀j,j<n->p j=false:=by grind [Dd,cn]
theorem kR {a:List Int} {d b:Int} (h:cn r.length (λj=>(HG r a d)[j]?.getD false&&bk r b j)=0):∀y∈r,y.Block=b->(y.Page.Kind=2->y.Page.Tx<d)/\∀c∈a,H8 r c≠some y:=by
 intro y hy hb;obtain⟨j,hj,rfl⟩:=Au hy;have hx:=Ab hj;have h1:=cC h j hj;rw[Qs r a d hx]at h1;have h2:bk r b j=true:=by unfold bk;grind
 rw[h2,Bool.and_true,CL,Bool.or_eq_false_iff]at h1;refine⟨λhk=>?_,λc hc hn=>?_⟩
 ·grind [EV]
 
 obtain⟨i,i1,i2⟩:=kY hn
 grind [cC,Qs,bk]
theorem SC (h:IL d r):∃l,Jg d=some l/\l.length<=10/\∀b∈l,∃x,gi d.Flash.Blocks b=some x/\x.Bad=false/\∀y∈r,y.Block=b->(y.Page.Kind=2->y.Page.Tx<d.Base)/\∀c,CM (AW d.Store) c->H8 r c≠some y:=by
 obtain⟨a,l1,l2,l3,l4⟩:=L8 h.st;have hn:=h.fl.n;unfold Jg;rw[h.scan.s,l1];simp only[Aa];rw[RN r a d.Base h.scan.len l4];have f:a.foldl (bN r) (r.map<|EV d.Base)=HG r a d.Base:=rfl;rw[f];obtain⟨b,q1,q2⟩:=AG (body:=λs:List Int×Int=>EJ d r (HG r a d.Base) s.1 s.2) (λ(o:List Int) i=>(o,i)) d.Flash.Blocks.length
  (λi o=>o.length<=i/\∀b∈o,∃x,gi d.Flash.Blocks b=some x/\x.Bad=false/\∀y∈r,y.Block=b->(y.Page.Kind=2->y.Page.Tx<d.Base)/\∀c,CM (AW d.Store) c->H8 r c≠some y)
  (λo=>o.length<=10/\∀b∈o,∃x,gi d.Flash.Blocks b=some x/\x.Bad=false/\∀y∈r,y.Block=b->(y.Page.Kind=2->y.Page.Tx<d.Base)/\∀c,CM (AW d.Store) c->H8 r c≠some y)
  (λo i hi ho=>by
   have hx:=Ab hi;have hP:=h.fl.blk _<|A4 hi;obtain⟨nbl,_,bl⟩:=iW d.Flash.Blocks[i] (by rw[hP.four];omega);simp only[EJ,FN hi,Ar,hx,Aa];rw[bl,gI r _ (i:Int) h.scan.len<|NI _ _ _,ad1];simp only[Aa];refine .inl ?_
   cases e:d.Flash.Blocks[i].Bad with
   |true=>grind
   |false=>
    simp only[Ez,Ah]
    cases k:(!(!decide (nbl<ln d.Flash.Blocks[i].Leaves)))with
    |false=>grind
    |true=>
     cases hz:((((cn r.length (λj=>(HG r a d.Base)[j]?.getD false&&bk r (i:Int) j):Nat)):Int)==0)with
     |false=>grind
     |true=>
      rw[B5 (by simp;omega)];refine⟨_,rfl,by simp;omega,λb hb=>?_⟩;rw[Aq,Bs]at hb
      rcases hb with hb|rfl
      ·exact ho.2 b hb
      refine⟨_,by grind [Ar],e,λy hy g=>?_⟩;have hz':cn r.length (λj=>(HG r a d.Base)[j]?.getD false&&bk r (i:Int) j)=0:=by grind
      obtain⟨a1,a2⟩:=kR hz' y hy g
      grind)
  (λo ho=>⟨o,by simp[Fe,EJ],by omega,ho.2⟩) (s:=[]) ⟨by simp,λb hb=>by cases hb⟩
 grind
theorem Gz (h:IL d r) (h':IL d' r') (e:CD (AN r')=CD (AN r)):AW d'.Store=AW d.Store/\d'.Store.Next=d.Store.Next/\d'.Base=d.Base:=by
 have h1:=h'.ab;rw[e,<-h.ab]at h1
 injection h1 with h1 h2
 exact⟨h1,h2,by rw[h'.base,h.base,e]⟩
theorem jZ {b:Int} (h:Jm d r) (hb:∀y∈r,y.Block=b->(y.Page.Kind=2->y.Page.Tx<d.Base)/\∀c,CM (AW d.Store) c->H8 r c≠some y) (hg:Be g) (hp:H0 0 g.Blocks=(H0 0 d.Flash.Blocks).filter λy=>y.Block !=b):
  ∃d',BW g=some (d',true)/\d'.Flash=g/\Jm d' (r.filter λy=>y.Block !=b)/\AW d'.Store=AW d.Store/\d'.Store.Next=d.Store.Next/\d'.Base=d.Base/\∀c,CM (AW d.Store) c->B9 (r.filter λy=>y.Block !=b) c=B9 r c:=by
 have a:SR (H0 0 g.Blocks) (r.filter λy=>y.Block !=b):=by rw[hp];exact h.dev.sr.filter _
 obtain⟨d',u1,u2,u3⟩:=JQ hg a
 have hs:=VR r h.core.pages h.core.mu (λy=>y.Block !=b) (λy hy hk ht=>by
  have:y.Block≠b:=λe=>by
   have:=(hb y hy e).1 hk;rw[h.dev.base]at this;omega
  simpa using this)
 obtain⟨e1,e2,e3⟩:=Gz h.dev u2 hs
 have ht:∀c,CM (AW d.Store) c->B9 (r.filter λy=>y.Block !=b) c=B9 r c:=λc hc=>by grind [Yb,B9,H8]
 refine⟨d',u1,u3,⟨u2,h.core.filter _,?_⟩,e1,e2,e3,ht⟩;rw[e1];exact h.data.congr ht
def EA (id:Int):Nat->List Int->List CU
 |_,[]=>[]
 |k,x::row=>(if x>0 then [CU.mk 4 id k x]else [])++EA id (k+1) row
def Lm (p:Int×List Int):List CU:=CU.mk 2 p.1 0 0::EA p.1 0 p.2
def Lg (l:Vs) (nx:Int):List CU:=CU.mk 1 0 nx 0::l.flatMap Lm
theorem LI (id x:Int):∀(k:Nat) (a:List Int),EA id k (a++ [x])=EA id k a++(if x>0 then [CU.mk 4 id (k+a.length:Nat) x]else [])
 |k,[]=>by simp[EA]
 |k,y::a=>by
  rw[BV,EA,LI id x (k+1) a,EA,By,AM,show k+1+a.length=k+(a.length+1) by omega]
theorem Rb (id:Int):∀(k:Nat) (a:List Int),(EA id k a).length<=a.length
 |_,[]=>A5 _
 |k,x::a=>by
  rw[EA,A3,AM];have:=Rb id (k+1) a
  grind
theorem Ww (K:Ks) (r:Int):(DW K r).length=16:=by unfold DW;simp
theorem Ys:∀(l:Vs),(∀p∈l,p.2.length=16)->(l.flatMap Lm).length<=17*l.length
 |[],_=>A5 _
 |p::l,h=>by
  have:=Ys l λq hq=>h q<|by simp[hq]
  grind [Rb,Lm]
theorem Wu (h:Cx s):LF s=some (Lg (AW s) s.Next):=by
 have hl:=h.len;unfold LF;obtain⟨b,h1,h2⟩:=AG (body:=λq:List CU×Int=>Gl s q.1 q.2) (λ(o:List CU) i=>(o,i)) s.Vols.length (λi o=>o=Lg ((AW s).take i) s.Next/\o.length<=1+17*i) (λo=>o=Lg (AW s) s.Next)
  (λo i hi ho=>by
   have hx:=Ab hi;have hr:=h.root _<|Az.2 ⟨s.Vols[i],A4 hi,rfl⟩;have et:(AW s).take (i+1)=(AW s).take i++ [(s.Vols[i].Id,DW s.Arena.Knots s.Vols[i].Root)]:=by grind [Dc,AW]
   simp only[Gl,FN hi,Ar,hx,Aa];rw[B5 (by simp;omega),Aa,LG _ (by have:=h.few;omega) h.ar hr];simp only[Aa];obtain⟨u,u1,u2,u3⟩:=AG (body:=λq:List CU×Int=>Iq s (i:Int) (DW s.Arena.Knots s.Vols[i].Root) q.1 q.2) (λ(l:List CU) k=>(l,k)) (DW s.Arena.Knots s.Vols[i].Root).length
    (λk u=>u=o++ [CU.mk 2 s.Vols[i].Id 0 0]++EA s.Vols[i].Id 0 ((DW s.Arena.Knots s.Vols[i].Root).take k)/\u.length<=o.length+1+k) (λu=>u=o++ [CU.mk 2 s.Vols[i].Id 0 0]++EA s.Vols[i].Id 0 (DW s.Arena.Knots s.Vols[i].Root)/\u.length<=o.length+17)
    (λu k hk hu=>by
     obtain⟨c,d⟩:=hu;have a:=Ab hk;have f:=Ww s.Arena.Knots s.Vols[i].Root;have etk:=Af hk;simp only[Iq,FN hk,Ar,a,hx,Aa];rw[ad1];refine .inl ?_;by_cases e:(DW s.Arena.Knots s.Vols[i].Root)[k]>0
     ·rw[Ac e,Ah,B5 (by simp;omega)]
      grind [LI]
     grind [LI])
    (λu hu=>⟨u,by rfl,by grind,by grind [Ww]⟩) (s:=o++ [CU.mk 2 s.Vols[i].Id 0 0]) ⟨by simp[EA],by simp⟩
   grind [ad1,Lg,Lm])
  (λo ho=>⟨o,by simp[Fe,Gl],by grind [Nv]⟩) (s:=[CU.mk 1 0 s.Next 0]) ⟨rfl,by simp⟩
 grind
structure sH (l:Vs) (nx:Int):Prop where
 len:l.length<=3
 nxt:1<=nx/\nx<=1000000000
 ids:∀p∈l,1<=p.1/\p.1<=9
 asc:l.Pairwise λp q=>p.1<q.1
 row:∀p∈l,p.2.length=16
 num:∀p∈l,∀x∈p.2,0<=x/\x<nx
theorem Y3 {r:Int} (hK:Cm K=true) (hr:CG K r=true):∀x∈DW K r,0<=x:=by grind [BO,EZ,hO,DW,Ns]
theorem Cx.vs (h:Cx s):sH (AW s) s.Next:=by
 have mem:∀p∈AW s,∃v∈s.Vols,p=(v.Id,DW s.Arena.Knots v.Root):=λp hp=>by
  obtain⟨v,hv,rfl⟩:=Az.1 hp
  grind
 refine⟨by rw[Nv];exact h.len,h.nx,λp hp=>?_,?_,λp hp=>?_,λp hp x hx=>?_⟩
 ·obtain⟨v,hv,rfl⟩:=mem p hp;exact h.ids v hv
 ·have:=h.asc;unfold AW
  grind
 ·grind [Ww]
 obtain⟨v,hv,rfl⟩:=mem p hp;have hm:v.Root∈Bv s:=Az.2 ⟨v,hv,rfl⟩;exact⟨Y3 h.ar (h.root _ hm) x hx,h.lt _ hm x hx⟩
theorem nX {id k x:Int} (h1:1<=id/\id<=9) (h2:0<=k/\k<16) (h3:1<=x/\x<=1000000000):F5 (CU.mk 4 id k x)=true:=by grind [F5]
theorem p9 {id a:Int} (h1:1<=id/\id<=9) (h2:0<=a/\a<=9):F5 (CU.mk 2 id a 0)=true:=by grind [F5]
theorem cS {id:Int} {a:List Int} (h:∀p∈P,p.1<id) (k:Nat) (x:Int):cU (P++ [(id,a)]) id k x=P++ [(id,a.set k x)]:=by
 unfold cU;rw[RZ];congr 1
 ·conv=>rhs;rw[<-Mn P]
  apply Ci
  grind
 simp
theorem XR {id nx:Int} (hP:∀p∈P,p.1<id) (a:1<=id/\id<=9) (b:nx<=1000000000):∀(todo done:List Int),done.length+todo.length=16->(∀x∈todo,0<=x/\x<nx)->BX (P++ [(id,done++List.replicate todo.length 0)]) nx (EA id done.length todo)=some (P++ [(id,done++todo)],nx)
 |[],done,hl,hx=>by rfl
 |x::todo,done,hl,hx=>by
  have h1:=hx x (by simp);rw[AM]at hl;have ih:=XR hP a b todo (done++ [x]) (by simp;omega) (λy hy=>hx y<|by simp[hy]);rw[EA];have c:(done++List.replicate (todo.length+1) 0).set done.length x=done++ [x]++List.replicate todo.length 0:=by grind
  by_cases e:x>0
  ·rw[Bc e,Hb,Eu];have d:Db (P++ [(id,done++List.replicate (x::todo).length 0)]) nx (CU.mk 4 id done.length x)=some (P++ [(id,done++ [x]++List.replicate todo.length 0)],nx):=by
    unfold Db;rw[nX a (by omega)<|by omega]
    grind [cS,DP,Mc]
   grind
  grind
theorem dS {id:Int} {a:List Int} (h:∀p∈P,p.1<id):dT P id a=P++ [(id,a)]:=by grind [Ee,Dd,dT]
theorem UC (a:nx<=1000000000):∀(l P:Vs),(P++l).length<=3->(P++l).Pairwise (λp q=>p.1<q.1)->(∀p∈l,(1<=p.1/\p.1<=9)/\p.2.length=16/\∀x∈p.2,0<=x/\x<nx)->BX P nx (l.flatMap Lm)=some (P++l,nx)
 |[],P,_,_,_=>by simp[BX]
 |p::l,P,e,f,hall=>by
  obtain⟨h1,h2,h3⟩:=hall p<|by simp
  have c:∀q∈P,q.1<p.1:=λq hq=>by grind
  rw[List.flatMap_cons,Iu];unfold Lm;rw[Eu];have d:Db P nx (CU.mk 2 p.1 0 0)=some (P++ [(p.1,QJ)],nx):=by grind [p9,dS,Db,Mc]
  rw[d];simp only[Aa];have hz:QJ=[]++List.replicate p.2.length 0:=by rw[h2];rfl
  have b:=XR c h1 a p.2 [] (by simpa using h2) h3;rw[<-hz,IW,Ao]at b;rw[b];simp only[Aa];have hP:P++ [(p.1,p.2)]=P++ [p]:=rfl;have:=UC a l (P++ [p]) (by grind) (by grind) (λq hq=>hall q<|by simp[hq]);rw[hP,show(l.flatMap λp=>CU.mk 2 p.1 0 0::EA p.1 0 p.2)=l.flatMap Lm from rfl,this,By];rfl
theorem VG (h:sH l nx) (l0:Vs) (n0:Int):BX l0 n0 (Lg l nx)=some (l,nx):=by
 unfold Lg;rw[Eu];have a:Db l0 n0 (CU.mk 1 0 nx 0)=some ([],nx):=by
  unfold Db;have hb:F5 (CU.mk 1 0 nx 0)=true:=by
   have:=h.nxt
   grind [F5]
  rw[hb];have:=h.nxt
  grind
 rw[a];have:=UC h.nxt.2 l [] (by simpa using h.len) (by simpa using h.asc) λp hp=>⟨h.ids p hp,h.row p hp,h.num p hp⟩
 grind
theorem eG (h:sH l nx):(∀r∈Lg l nx,F5 r=true)/\(Lg l nx).length<=1000:=by
 refine⟨λr hr=>?_,?_⟩
 ·
  cases hb:F5 r with
  |true=>rfl
  |false=>
   exfalso;obtain⟨i,hi,rfl⟩:=Au hr;have h1:=VG h [] 1;obtain⟨e1,e2⟩:=G6<|Ab hi;rw[e1,Iu]at h1
   cases hq:BX [] 1 ((Lg l nx).take i)with
   |none=>grind
   |some q=>grind [Eu,Db]
 unfold Lg;rw[AM];have:=Ys l h.row;have:=h.len;omega
structure sI (d d':A0):Prop where
 ab:AW d'.Store=AW d.Store
 nx:d'.Store.Next=d.Store.Next
theorem L4 (h:IL d r) {steps:List Bl} (hs:Steps d.Flash steps g) (hl:steps.length<=1048576) (hm:BW g=some (d',true)):G5 d steps=some d':=by
 unfold G5;rw[XM h.fl hs hl,Aa,hm];rfl
theorem PS:∀{n:Int} {ps:List Page} {p:Page},EE n ps->(∀q∈ps,q.Seq<p.Seq)->n<=p.Seq->EE n (ps++ [p])
 |n,[],p,_,_,h=>⟨h,trivial⟩
 |n,q::ps,p,ha,hq,h=>⟨ha.1,PS ha.2 (λx hx=>hq x (by simp[hx])) (by grind)⟩
def Z6 (d:A0) (r:List Ak) (p:Page):Prop:=p.Kind=1/\CM (AW d.Store) p.Tx/\∃y,H8 r p.Tx=some y/\p.Text=y.Page.Text
theorem Z5 (h:IL d r) {a:List Int} (hl:∀x,x∈a↔CM (AW d.Store) x) (hy:r[j]?=some y) (hn:(HG r a 1000000001)[j]?=some true):y.Page.Kind=1/\CM (AW d.Store) y.Page.Tx/\H8 r y.Page.Tx=some y:=by
 rw[Qs r a _ hy]at hn
 injection hn with hn
 have b:=h.pages;have ht:=b.tx y<|Am hy;have:EV 1000000001 y=false:=by
  unfold EV
  grind
 rw[this,Bool.false_or,FT]at hn;obtain⟨c,hc,e⟩:=hn;have f:Xs c r r.length=some j:=by simpa using e
 have h1:=kA f;rw[hy]at h1;obtain⟨_,k1,k2⟩:=SQ h1
 grind
theorem Uk (h:IL d r) (l:r.length<=40) (b:Int):I7 d b=some ([],false)\/∃steps ps g,I7 d b=some (steps,true)/\FD d.Flash steps ps g/\Be g/\EE d.Seq ps/\steps.length<=160/\(∀p∈ps,Z6 d r p/\GS p)/\∀p∈ps,p.Seq<d.Seq+160:=by
 obtain⟨a,l1,l2,l3,l4⟩:=L8 h.st;have m:1<=d.Seq/\d.Seq<=1000000001:=by
  rw[h.seq];have h1:=Ls r;refine⟨h1.2.1,h1.2.2 _ (by omega) λy hy=>?_⟩;have:=(h.pages.seq y hy).2;omega
 unfold I7;rw[h.scan.s,l1];simp only[Aa];rw[RN r a _ h.scan.len l4];have t:a.foldl (bN r) (r.map<|EV 1000000001)=HG r a 1000000001:=rfl
 let I:Nat->(List Bl×Int×List Block)->Prop:=λn o=>∃ps,FD d.Flash o.1 ps (Flash.mk o.2.2)/\Be (Flash.mk o.2.2)/\EE d.Seq ps/\(∀p∈ps,p.Seq<o.2.1)/\d.Seq<=o.2.1/\o.2.1<=d.Seq+n/\o.1.length<=n/\∀p∈ps,Z6 d r p/\GS p
 have I0:I (40*0) ([],d.Seq,d.Flash.Blocks):=by
  refine⟨[],rfl,h.fl,trivial,?_,?_,?_,?_,?_⟩
  ·grind
  ·exact HD _
  ·grind
  ·exact A5 _
  grind
 obtain⟨c,h1,h2⟩:=AG (body:=λs:List Bl×Int×Int×List Block=>Hv b r (HG r a 1000000001) s.1 s.2.1 s.2.2.1 s.2.2.2) (λ(o:List Bl×Int×List Block) i=>(o.1,o.2.1,i,o.2.2)) 4
  (λi o=>I (40*i) o) (λc=>c= .inr ([],false)\/∃steps sq bl,c= .inl steps/\I 160 (steps,sq,bl))
  (λo i hi ho=>by
   simp only[Hv];rw[cT];obtain⟨q,q1,q2⟩:=AG (body:=λs:List Bl×Int×Int×List Block=>Fy b r (HG r a 1000000001) (i:Int) s.1 s.2.1 s.2.2.1 s.2.2.2) (λ(o:List Bl×Int×List Block) j=>(o.1,o.2.1,j,o.2.2)) r.length
    (λj o=>I (40*i+j) o) (λq=>q= .inr (.inr<|.inr ([],false))\/∃o,q= .inl o/\I (40*i+40) o)
    (λo j hj hs=>by
     obtain⟨ss,sq,bl⟩:=o;obtain⟨ps,p1,p2,p3,p4,p5,p6,p7,p8⟩:=hs;simp only at p1 p2 p4 p5 p6 p7;have hx:=Ab hj;have f:j<(HG r a 1000000001).length:=by grind [NI]
     have e:=Ab f;simp only[Fy,FN hj,Ar,hx,e,Aa];rw[ad1];have skip:I (40*i+(j+1)) (ss,sq,bl):=⟨ps,p1,p2,p3,p4,p5,by show sq<=_;omega,by grind,p8⟩
     cases k:(HG r a 1000000001)[j]with
     |false=>
      exact .inl ⟨(ss,sq,bl),rfl,skip⟩
     |true=>
      simp only[Ay,Ad]
      cases hb:(r[j].Block !=b)with
      |true=>
       exact .inl ⟨(ss,sq,bl),rfl,skip⟩
      |false=>
       simp only[Ad,Aa]
       cases u:(r[j].Leaf !=(i:Int))with
       |true=>
        exact .inl ⟨(ss,sq,bl),rfl,skip⟩
       |false=>
        obtain⟨m1,m2,m3⟩:=Z5 h l3 hx<|by rw[e,k]
        rcases gA p2 p1 (by omega) (Page.mk r[j].Page.Kind sq r[j].Page.Tx r[j].Page.Part r[j].Page.Count r[j].Page.Text)with⟨s,g',w1,w2,w3,w4,_⟩|w
        ·rw[w1];simp only[Aa,Ay,Ad];rw[Bu,A3,Du,BH,show((ss.length+1:Nat):Int)-1=(ss.length:Int) by omega,E4];simp only[Aa]
         cases v:(s.Block==b)with
         |true=>simp
         |false=>
          rw[BN];refine .inl ⟨(ss++ [s],sq+1,g'.Blocks),rfl,_,w2,w3,PS p3 (λq hq=>p4 q hq) p5,λp hp=>?_,by grind,by grind,by simp;omega,λp hp=>?_⟩
          ·grind
          rw[Aq,Bs]at hp
          rcases hp with hp|rfl
          ·exact p8 p hp
          exact⟨⟨m1,m2,_,m3,rfl⟩,w4⟩
        grind)
    (λo hs=>⟨.inl (o.1,o.2.1,o.2.2),by simp[Fe,Fy],.inr ⟨o,rfl,by grind⟩⟩) (s:=o) (by omega)
   rw[q1]
   rcases q2 with rfl|⟨o',rfl,q2⟩
   ·simp
   grind [ad1])
  (λo ho=>⟨.inl o.1,by rfl,.inr ⟨o.1,o.2.1,o.2.2,rfl,ho⟩⟩) (s:=([],d.Seq,d.Flash.Blocks)) I0
 grind
theorem gW (h:Jm d r) {steps:List Bl} (hp:FD d.Flash steps ps g) (ha:EE d.Seq ps) (hl:steps.length<=160) (hm:∀p∈ps,Z6 d r p/\GS p) (k:Nat):
  ∃m d',Steps d.Flash (steps.take k) m/\Be m/\BW m=some (d',true)/\d'.Flash=m/\Jm d' (r++(B6 steps ps).take k)/\sI d d'/\d'.Base=d.Base/\Sb d.Flash m/\∀c,CM (AW d.Store) c->B9 (r++(B6 steps ps).take k) c=B9 r c:=by
 have b:=(DY hp).2;have u:=h.few
 have e:∀y∈r,y.Page.Seq<d.Seq:=λy hy=>by rw[h.dev.seq];simp_all [Ls]
 obtain⟨m,a⟩:=OS k hp;have f:=RY h.dev.fl (DY a).1;have ascT:∀(ps:List Page) (n:Int) (k:Nat),EE n ps->EE n (ps.take k):=by
  intro ps
  induction ps with
  |nil=>grind
  |cons p ps ih=>
   intro n k ha
   cases k with
   |zero=>trivial
   |succ k=>exact⟨ha.1,ih _ k ha.2⟩
 have l:=TL h.dev.fl h.dev.sr a e<|ascT _ _ k ha;rw[Rm]at l;obtain⟨d',u1,u2,u3⟩:=JQ f l;have v:=Tp b;have ascG:∀(ps:List Page) (n:Int) (i:Nat) (p:Page),EE n ps->ps[i]?=some p->n<=p.Seq/\∀j q,j<i->ps[j]?=some q->q.Seq<p.Seq:=by
  intro ps
  induction ps with
  |nil=>grind
  |cons x ps ih=>
   intro n i p ha hp
   cases i with
   |zero=>
    simp only[List.getElem?_cons_zero,An]at hp;rw[<-hp];exact⟨ha.1,λj q hj=>by omega⟩
   |succ i=>
    obtain⟨i1,i2⟩:=ih _ i p ha.2 (by simpa using hp);have:=ha.1;refine⟨by omega,λj q hj hq=>?_⟩
    grind
 have main:∀n,n<=(B6 steps ps).length->Gt (r++(B6 steps ps).take n)/\Ew (r++(B6 steps ps).take n) (CM<|AW d.Store)/\AN (r++(B6 steps ps).take n)=AN r/\∀c,CM (AW d.Store) c->B9 (r++(B6 steps ps).take n) c=B9 r c:=by
  intro n
  induction n with
  |zero=>intro _;rw[List.take_zero,AQ];exact⟨h.core,h.data,rfl,λ_ _=>rfl⟩
  |succ n ih=>
   intro hn;obtain⟨i1,i2,i3,i4⟩:=ih (by omega);have hx:(B6 steps ps)[n]?=some (B6 steps ps)[n]:=Ab (by omega);have o:=JN hx;obtain⟨⟨m1,m2,y,m3,m4⟩,m5⟩:=hm _<|Am o;obtain⟨a1,a2⟩:=ascG ps d.Seq n _ ha o;rw[Af (by omega),<-By];have w:Qb (B6 steps ps)[n].Page.Text=B9 r (B6 steps ps)[n].Page.Tx:=by grind [B9]
   have s:CA (r++(B6 steps ps).take n)<=(B6 steps ps)[n].Page.Seq:=by
    refine(Ls _).2.2 _ (m5.2.1.1) (λz hz=>?_)
    rcases Aq.1 hz with hz|hz
    ·grind
    obtain⟨j,hj,rfl⟩:=Au hz;rw[Ev]at hj;rw[List.getElem_take];exact a2 j _ (by omega)<|JN<|Ab<|by omega
   refine⟨Gt.add i1 (by simp;omega) m5 s (λhh=>by omega),YS i2 (by grind),by grind [Rl],λc hc=>?_⟩
   grind [KR,B9]
 have t:Gt (r++(B6 steps ps).take k)/\Ew (r++(B6 steps ps).take k) (CM<|AW d.Store)/\AN (r++(B6 steps ps).take k)=AN r/\∀c,CM (AW d.Store) c->B9 (r++(B6 steps ps).take k) c=B9 r c:=by grind [B6]
 obtain⟨k1,k2,k3,k4⟩:=t;obtain⟨e1,e2,e3⟩:=Gz h.dev u2 (by rw[k3]);exact⟨m,d',(DY a).1,f,u1,u3,⟨u2,k1,by rw[e1];exact k2⟩,⟨e1,e2⟩,e3,λ_=>OR a,k4⟩
theorem aF (h:IL d r) {a:List Int} (hl:a.length<=16777216) (t:ByteArray):∃v,LB d.Flash a t=some v/\((v=0/\∀c∈a,B9 r c≠some t)\/(v∈a/\B9 r v=some t)):=by
 have hr:=h.pages;unfold LB Qj;rw[h.scan.s];obtain⟨b,h1,h2⟩:=AG (body:=λs:Int=>Hh r a t s) (λ(_:Unit) i=>i) a.length (λi _=>∀c∈a.take i,B9 r c≠some t) (λb=>(b= .inl ()/\∀c∈a,B9 r c≠some t)\/∃v,b= .inr v/\v∈a/\B9 r v=some t)
  (λ_ i hi hs=>by
   have hx:=Ab hi;simp only[Hh,FN hi,Ar,hx,Aa];obtain⟨u,ok,k1,k2⟩:=XA hr a[i];rw[k1,Aa,ad1]
   have no:B9 r a[i]≠some t->∀c∈a.take (i+1),B9 r c≠some t:=λe c hc=>by grind [Af]
   cases ok with
   |false=>simp_all
   |true=>
    cases f:seq u t with
    |true=>grind [J4]
    |false=>simp_all [J4])
  (λ_ hs=>⟨_,by simp[Fe,Hh],.inl ⟨rfl,by grind⟩⟩) (s:=()) (by simp)
 grind
structure pM (q:Nx):Prop where
 kind:1<=q.Kind/\q.Kind<=6
 vol:1<=q.Vol/\q.Vol<=9
 text:(L q.Text).length<=64
 sec:0<=q.Sector/\q.Sector<=15
 of_:0<=q.Of/\q.Of<=9
 cl:q.Kind=4->1<=q.Of
 no:q.Kind≠4->q.Of=0
 tx:q.Kind≠1->L q.Text=[]
theorem NB (q:Nx):∃v,Kn q=some v/\(v=true->pM q):=by
 unfold Kn;simp only[CZ,Aa];by_cases h1:1<=q.Kind/\q.Kind<=6
 ·rw[Ac h1];by_cases h2:1<=q.Vol/\q.Vol<=9
  ·rw[Ac h2];by_cases h3:Fd q.Text>64
   ·simp_all
   rw[Ag h3];rw[Bf]at h3;simp only[Ay,Ad];have ht:(cond (q.Kind !=1) (some<|!(seq q.Text<|bs [])) (some false):Option Bool)=some (decide<|q.Kind≠1/\L q.Text≠ []):=by grind [Mr,D0]
   rw[ht];simp only[Aa];by_cases h4:q.Kind≠1/\L q.Text≠ []
   ·grind
   rw[Ag h4]
   have a:q.Kind≠1->L q.Text=[]:=λhk=>Classical.byContradiction λhh=>h4 ⟨hk,hh⟩
   by_cases h5:q.Kind=4
   ·rw[show(q.Kind==4)=true by simpa using h5];by_cases h6:q.Sector=0
    ·rw[show(q.Sector==0)=true by simpa using h6];refine⟨_,rfl,λhh=>?_⟩;rw[Br]at hh;exact⟨h1,h2,by omega,by omega,by omega,λ_=>hh.1,λhk=>absurd h5 hk,a⟩
    grind
   rw[show(q.Kind==4)=false by simpa using h5];by_cases h6:q.Of=0
   ·rw[show(q.Of !=0)=false by simp[h6]];by_cases h7:q.Kind=3\/q.Kind=5
    ·have:(cond (q.Kind==3) (some true) (some<|q.Kind==5):Option Bool)=some true:=by grind
     rw[this];refine⟨_,rfl,λhh=>?_⟩;rw[HA]at hh;exact⟨h1,h2,by omega,by omega,by omega,λhk=>absurd hk h5,λ_=>h6,a⟩
    have:(cond (q.Kind==3) (some true) (some<|q.Kind==5):Option Bool)=some false:=by grind
    rw[this];refine⟨_,rfl,λhh=>?_⟩;rw[Br]at hh;exact⟨h1,h2,by omega,hh,by omega,λhk=>absurd hk h5,λ_=>h6,a⟩
   grind
  simp_all [Ag]
 simp_all [Ag]
def mZ (d:A0) (r:List Ak) (q:Nx) (x:CU) (a:ByteArray):Prop:=F5 x=true/\x.Kind≠1/\x.Vol=q.Vol/\((L a=[]/\(x.Kind=4->CM (AW d.Store) x.Chunk/\B9 r x.Chunk=some q.Text))\/(x.Kind=4/\x.Chunk=d.Store.Next/\L a≠ []/\Qb a=some q.Text/\∀c,CM (AW d.Store) c->B9 r c≠some q.Text))
theorem YJ (h:IL d r) (q:Nx):∃a text no,JC d q=some (a,text,no)/\((a=[]/\text=bs [])\/(no=0/\∃x,a=[x]/\mZ d r q x text))/\(no≠0->a=[]):=by
 have i:=h.st.len;have b:=h.st.nx;obtain⟨v,a1,a2⟩:=NB q;unfold JC;rw[a1];simp only[Aa]
 cases v with
 |false=>exact⟨_,_,_,rfl,.inl ⟨rfl,rfl⟩,λ_=>rfl⟩
 |true=>
  have hq:=a2 rfl;simp only[Ay,Ad];obtain⟨w,hw⟩:∃w,DC d.Store q.Vol=some w:=by
   rcases G0 d.Store (by omega) q.Vol with⟨e,_⟩|⟨k,_,e,_⟩<;>exact⟨_,e⟩
  rw[hw];by_cases h34:q.Kind=3\/q.Kind=4
  ·have:(cond (q.Kind==3) (some true) (some<|q.Kind==4):Option Bool)=some true:=by grind
   rw[this];simp only[Aa,Ah]
   cases decide (w>=0)with
   |true=>grind
   |false=>
    obtain⟨j2,g⟩:∃j2,(cond (q.Kind==4) ((DC d.Store q.Of).bind λv3=>some<|decide<|v3<0) (some false):Option Bool)=some j2:=by grind [G0]
    rw[g];simp only[Aa]
    cases j2 with
    |true=>grind
    |false=>
     cases decide (ln d.Store.Vols>=3)with
     |true=>grind
     |false=>
      refine⟨_,_,_,rfl,.inr ⟨rfl,_,rfl,p9 hq.vol hq.of_,by simp,rfl,.inl ⟨D0 _,λhh=>by simp at hh⟩⟩,λhh=>absurd rfl hh⟩
  have:(cond (q.Kind==3) (some true) (some<|q.Kind==4):Option Bool)=some false:=by grind
  rw[this];simp only[Aa,Ad]
  cases decide (w>=0)with
  |false=>exact⟨_,_,_,rfl,.inl ⟨rfl,rfl⟩,λ_=>rfl⟩
  |true=>
   simp only[Ay,Ad]
   cases k1:(q.Kind==1)with
   |true=>
    obtain⟨j,l1,l2,l3,l4⟩:=L8 h.st;obtain⟨c,f1,f2⟩:=aF h l4 q.Text;rw[l1,Aa,f1];simp only[Aa]
    rcases f2 with⟨rfl,f2⟩|⟨f2,f3⟩
    ·obtain⟨z,z1,z2,z3⟩:=jC q.Text hq.text;rw[show((0:Int)==0)=true from rfl,z1];refine⟨_,_,_,rfl,.inr ⟨rfl,_,rfl,nX hq.vol (by have:=hq.sec;omega) ⟨b.1,b.2⟩,by simp,rfl,.inr ⟨rfl,rfl,?_,?_,λc hc=>f2 c<|(l3 c).2 hc⟩⟩,λhh=>absurd rfl hh⟩
     ·grind
     grind [Qb]
    have f:=(l3 c).1 f2;have l:=WB h.st f;rw[show(c==0)=false by grind];refine⟨_,_,_,rfl,.inr ⟨rfl,_,rfl,nX hq.vol (by have:=hq.sec;omega) (by omega),by simp,rfl,.inl ⟨D0 _,λ_=>⟨f,f3⟩⟩⟩,λhh=>absurd rfl hh⟩
   |false=>
    cases k2:(q.Kind==2)with
    |true=>
     refine⟨_,_,_,rfl,.inr ⟨rfl,_,rfl,?_,by simp,rfl,.inl ⟨D0 _,λhh=>by simp at hh⟩⟩,λhh=>absurd rfl hh⟩;have:=hq.vol;have:=hq.sec
     grind [F5]
    |false=>
     cases k5:(q.Kind==5)with
     |true=>
      refine⟨_,_,_,rfl,.inr ⟨rfl,_,rfl,?_,by simp,rfl,.inl ⟨D0 _,λhh=>by simp at hh⟩⟩,λhh=>absurd rfl hh⟩;have:=hq.vol
      grind [F5]
     |false=>grind
theorem Yw (h:Db l nx x=some (l',nx')) (hk:x.Kind≠1):(∀c,CM l' c->CM l c\/c=x.Chunk)/\nx<=nx'/\nx'<=max nx (x.Chunk+1):=by
 unfold Db at h;split at h
 ·cases h
 split at h
 ·split at h
  ·cases h
  injection h with h
  injection h with h1 h2
  subst h1 h2;refine⟨λc hc=>?_,by omega,by omega⟩;obtain⟨h0,p,hp,hx⟩:=hc;unfold dT at hp;simp only[Aq,AC,Bs]at hp
  rcases hp with(hp|rfl)|hp
  ·exact .inl ⟨h0,p,hp.1,hx⟩
  ·have zz:c∉QJ:=λhz=>by have:=D8 hz;omega
   split at hx
   ·cases hg:Mc l x.Arg with
    |none=>grind
    |some row=>
     rw[hg]at hx;obtain⟨w,a,d⟩:=A9.1 hg;have b:=EM a;exact .inl ⟨h0,w,b,by grind⟩
   exact absurd hx zz
  exact .inl ⟨h0,p,hp.1,hx⟩
 split at h
 ·cases h
 split at h
 ·injection h with h
  injection h with h1 h2
  subst h1 h2;refine⟨λc hc=>?_,by omega,by omega⟩;obtain⟨h0,p,hp,hx⟩:=hc;exact .inl ⟨h0,p,(AC.1 hp).1,hx⟩
 injection h with h
 injection h with h1 h2
 subst h1 h2;refine⟨λc hc=>?_,by omega,by omega⟩;obtain⟨h0,p,hp,hx⟩:=hc;obtain⟨w,hw,rfl⟩:=Az.1 hp;split at hx
 ·rcases BY hx with hx|hx
  ·exact .inl ⟨h0,w,hw,hx⟩
  exact .inr hx
 exact .inl ⟨h0,w,hw,hx⟩
theorem ZK (h:Db l nx x=some (l',nx')) (hk:x.Kind≠1):∀p∈l',(∃p'∈l,p'.1=p.1)\/p.1=x.Vol:=by
 unfold Db at h;split at h
 ·cases h
 split at h
 ·grind [dT]
 split at h
 ·cases h
 split at h
 ·injection h with h
  injection h with h1 h2
  subst h1 h2
  exact λp hp=> .inl ⟨p,(AC.1 hp).1,rfl⟩
 grind [cU]
theorem TT (h:IL d r):∃v,Lx d=some v:=by
 have hr:=h.pages;unfold Lx
 cases(d.Base !=sb d.Tx 1)with
 |true=>exact⟨_,rfl⟩
 |false=>
  rw[h.scan.s,Aa,Ra r hr];simp only[Aa];obtain⟨g1,_⟩:=Tk hr;obtain⟨b,h1,_⟩:=AG (body:=λs:Int=>Gb d (AN r) s) (λ(_:Unit) i=>i) (AN r).length (λ_ _=>True) (λ_=>True)
   (λ_ i hi _=>by
    have hx:=Ab hi;simp only[Gb,FN hi,Ar,hx,Aa];rw[ad1]
    cases((AN r)[i].Num==d.Base)with
    |false=>simp
    |true=>
     cases a:(AN r)[i].Recs with
     |nil=>exact .inr ⟨_,rfl,trivial⟩
     |cons q m=>grind [gi])
   (λ_ _=>⟨.inl (),by simp[Fe,Gb],trivial⟩) (s:=()) trivial
  rw[h1]
  cases b with
  |inl u=>exact⟨_,rfl⟩
  |inr v=>exact⟨v,rfl⟩
theorem TZ (h:IL d r):∃v,L0 d=some v:=by
 have hn:=h.fl.n;obtain⟨a,l1,_,_,l4⟩:=L8 h.st;unfold L0;rw[h.scan.s,l1];simp only[Aa];rw[RN r a d.Base h.scan.len l4,RN r a 1000000000 h.scan.len l4]
 have c:∀b,a.foldl (bN r) (r.map<|EV b)=HG r a b:=λ_=>rfl
 rw[c,c];obtain⟨b,h1,_⟩:=AG (body:=λs:Int×Int×Int=>Gh d r (HG r a d.Base) (HG r a 1000000000) s.1 s.2.1 s.2.2) (λ(o:Int×Int) i=>(o.1,o.2,i)) d.Flash.Blocks.length (λ_ _=>True) (λ_=>True)
  (λo i hi _=>by
   have hx:=Ab hi;have hP:=h.fl.blk _<|A4 hi;simp only[Gh,FN hi,Ar,hx,Aa];rw[gI r _ (i:Int) h.scan.len<|NI _ _ _,gI r _ (i:Int) h.scan.len<|NI _ _ _,JD _ hP.four,ad1];simp only[Aa,Nu]
   cases(bif !d.Flash.Blocks[i].Bad then _ else false)with
   |true=>simp
   |false=>grind)
  (λo _=>⟨o.1,by simp[Fe,Gh],trivial⟩) (s:=(-1,4)) trivial
 grind
theorem IL.seqs (h:IL d r):0<=d.Seq/\d.Seq<=1000000001:=by
 rw[h.seq];have h1:=Ls r;refine⟨by omega,h1.2.2 _ (by omega) λy hy=>?_⟩;have:=(h.pages.seq y hy).2;omega
theorem VO (h:∀y∈r',y.Page.Kind=2->y.Page.Tx<CW r+n):CW r'<=CW r+n:=(VP r').2.2 _ (by have:=(VP r).2.1;omega) h
theorem RC (n:Nat) (hy:y∈r) (hk:y.Page.Kind=2):y.Page.Tx<CW r+n:=by have:=(VP r).1 y hy hk;omega
theorem Vj {seq tx:Int} (h:p∈B4 seq tx T):p.Tx=tx:=by grind [B4]
theorem VT (h:∀y∈r',y.Page.Seq<CA r+n):CA r'<=CA r+n:=(Ls r').2.2 _ (by have:=(Ls r).2.1;omega) h
theorem RE (n:Nat) (hy:y∈r):y.Page.Seq<CA r+n:=by have:=(Ls r).1 y hy;omega
theorem Zy {seq tx:Int} (h:p∈B4 seq tx T):p.Seq<seq+T.length:=by grind [B4]
theorem U8 {c:Int} {a:ByteArray} (h:p∈BS d c a++B4 (FW d a) d.Tx T):p.Seq<d.Seq+1+T.length:=by
 rcases Aq.1 h with h|h
 ·grind [BS]
 have h1:=Zy h
 grind [FW]
theorem Kt {seq tx:Int} (h:p∈B4 seq tx T):p.Kind=2:=by grind [B4]
def nO (m:Flash) (s:Bl) (g:Flash):Prop:=Be g/\Sb m g/\((s.Kind=1/\H0 0 g.Blocks=H0 0 m.Blocks)\/(s.Kind=2/\H0 0 g.Blocks=(H0 0 m.Blocks).filter λy=>y.Block !=s.Block))
def V7 (f:Flash) (ss:List Bl) (k:Nat) (g:Flash):Prop:=∃m,Steps f (ss.take k) m/\(g=m\/∃s,ss[k]?=some s/\O2 m s/\nO m s g)
theorem NZ:∀{f:Flash} {a:List Bl} {g m:Flash},Steps f a g->Steps f a m->g=m
 |f,[],g,m,h,k=>by rw[show g=f from h,show m=f from k]
 |f,s::a,g,m,h,k=>NZ h.2 k.2
theorem d9 {m:Flash} {a b:List Bl} (h:V7 f (a++b) k g) (hs:Steps f a m):(k<a.length/\V7 f a k g)\/(a.length<=k/\V7 m b (k-a.length) g):=by
 obtain⟨x,h1,h2⟩:=h;by_cases e:k<a.length
 ·left;rw[List.take_append_of_le_length<|by omega]at h1;rw[List.getElem?_append_left e]at h2;exact⟨e,x,h1,h2⟩
 right;rw[List.take_append,AY<|by omega]at h1;rw[HB<|by omega]at h2;obtain⟨y,y1,y2⟩:=(Lh _ _ _ _).1 h1;rw[NZ y1 hs]at y2;exact⟨by omega,x,y2,h2⟩
structure HC (n:Nat) (d:A0) (r:List Ak) (d':A0) (r':List Ak):Prop where
 good:Jm d' r'
 ab:AW d'.Store=AW d.Store
 nx:d'.Store.Next=d.Store.Next
 pg:∀y∈r',y.Page.Kind=1->∃z∈r,z.Page.Kind=1/\z.Page.Tx=y.Page.Tx/\z.Page.Text=y.Page.Text
 tx:CW r'<=CW r+n
 wear:∀w:Int,FU d.Flash w->FU d'.Flash (w+n)
 text:∀c,CM (AW d.Store) c->B9 r' c=B9 r c
 sq:CA r'<=CA r+200*n
structure As (d:A0) (r:List Ak) (d':A0) (r':List Ak):Prop where
 good:Jm d' r'
 ab:AW d'.Store=AW d.Store
 nx:d'.Store.Next=d.Store.Next
 tx:CW r'<=CW r+1
 wear:∀w:Int,FU d.Flash w->FU d'.Flash (w+1)
 text:∀c,CM (AW d.Store) c->B9 r' c=B9 r c
theorem As.torn (h:As d a e b) (hg:Be g) (hp:H0 0 g.Blocks=H0 0 e.Flash.Blocks) (hw:Sb e.Flash g):∃x,BW g=some (x,true)/\x.Flash=g/\As d a x b:=by
 obtain⟨x,u1,u2,u3⟩:=JQ hg (r:=b) (by rw[hp];exact h.good.dev.sr);obtain⟨e1,e2,_⟩:=Gz h.good.dev u2 rfl;exact⟨x,u1,u3,⟨⟨u2,h.good.core,by rw[e1];exact h.good.data⟩,by rw[e1,h.ab],by rw[e2,h.nx],h.tx,λw hh=>by rw[u3];exact hw _<|h.wear w hh,h.text⟩⟩
theorem RA (h:Sb f g) (w:Int) (hw:FU f w):FU g (w+n):=λb hb=>by have:=h w hw b hb;omega
theorem HC.refl (h:Jm d r):HC n d r d r:=⟨h,rfl,rfl,λy hy hk=>⟨y,hy,hk,rfl,rfl⟩,by omega,RA λ_ h=>h,λ_ _=>rfl,by omega⟩
theorem HC.trans {g:A0} {c:List Ak} (h:HC n d a e b) (k:HC m e b g c):HC (n+m) d a g c:=⟨k.good,by rw[k.ab,h.ab],by rw[k.nx,h.nx],λy hy hk=>by
 obtain⟨z,z1,z2,z3,z4⟩:=k.pg y hy hk;obtain⟨w,w1,w2,w3,w4⟩:=h.pg z z1 z2
 grind,by have:=h.tx;have:=k.tx;omega,λw hw=>by
 have:=k.wear _<|h.wear w hw
 grind,λc hc=>by rw[k.text c (by rw[h.ab];exact hc),h.text c hc],by have:=h.sq;have:=k.sq;omega⟩
theorem HC.mono (h:HC n d a e b) (hm:n<=m):HC m d a e b:={h with
 tx:=by have:=h.tx;omega
 wear:=λw hw x hx=>by have:=h.wear w hw x hx;omega
 sq:=by have:=h.sq;omega}
theorem HC.torn (h:HC n d a e b) (hg:Be g) (hp:H0 0 g.Blocks=H0 0 e.Flash.Blocks) (hw:Sb e.Flash g):∃x,BW g=some (x,true)/\x.Flash=g/\HC n d a x b:=by
 obtain⟨x,u1,u2,u3⟩:=JQ hg (r:=b) (by rw[hp];exact h.good.dev.sr);obtain⟨e1,e2,_⟩:=Gz h.good.dev u2 rfl;exact⟨x,u1,u3,⟨⟨u2,h.good.core,by rw[e1];exact h.good.data⟩,by rw[e1,h.ab],by rw[e2,h.nx],h.pg,h.tx,λw hh=>by rw[u3];exact hw _<|h.wear w hh,h.text,h.sq⟩⟩
def K4 (n:Nat) (d:A0) (r:List Ak) (steps:List Bl):Prop:=(∃m,Steps d.Flash steps m)/\∀k g,k<=steps.length->V7 d.Flash steps k g->∃x rx,BW g=some (x,true)/\x.Flash=g/\HC n d r x rx
theorem Vg {steps:List Bl} (h1:∀s∈steps,s.Kind=1) (hc:∀k,k<=steps.length->∃x rx,Steps d.Flash (steps.take k) x.Flash/\BW x.Flash=some (x,true)/\HC n d r x rx):K4 n d r steps:=by
 refine⟨?_,λk g hk hg=>?_⟩
 ·obtain⟨x,rx,c1,_⟩:=hc steps.length (A5 _)
  grind
 obtain⟨x,rx,c1,c2,c3⟩:=hc k hk;obtain⟨m,m1,m2⟩:=hg;have:=NZ m1 c1;subst this
 rcases m2 with rfl|⟨s,s1,_,s2,s3,⟨_,s4⟩|⟨s4,_⟩⟩
 ·grind
 ·obtain⟨y,y1,y2,y3⟩:=c3.torn s2 s4 s3
  grind
 grind
theorem K4.full {steps:List Bl} (h:Jm d r) (hc:K4 n d r steps) (hl:steps.length<=1000000):∃x rx,G5 d steps=some x/\Steps d.Flash steps x.Flash/\HC n d r x rx:=by
 obtain⟨⟨m,hm⟩,hk⟩:=hc;obtain⟨x,rx,x1,x2,x3⟩:=hk steps.length m (A5 _) ⟨m,by grind,.inl rfl⟩;exact⟨x,rx,L4 h.dev hm (by omega) x1,by rw[x2];exact hm,x3⟩
theorem eQ {re:List Ak} {a b:List Bl} (hk:HC n d r e re) (hs:Steps d.Flash a e.Flash) (ha:K4 n d r a) (hb:K4 m e re b):K4 (n+m) d r (a++b):=by
 refine⟨?_,λk g c hg=>?_⟩
 ·obtain⟨x,hx⟩:=hb.1;simp_all [Lh];grind
 rw[A3]at c
 rcases d9 hg hs with⟨e1,e2⟩|⟨e1,e2⟩
 ·obtain⟨x,rx,x1,x2,x3⟩:=ha.2 k g (by omega) e2;exact⟨x,rx,x1,x2,x3.mono<|by omega⟩
 obtain⟨x,rx,x1,x2,x3⟩:=hb.2 _ g (by omega) e2;exact⟨x,rx,x1,x2,hk.trans x3⟩
theorem SP (r m:List Ak) (c:Int) (h:∀y∈m,¬(y.Page.Kind=1/\y.Page.Tx=c)):H8 (r++m) c=H8 r c:=by grind [PA,H8]
theorem aG (h:Jm d r) (hw:FU d.Flash 999999999):∃steps ok,LE d=some (steps,ok)/\steps.length<=200/\(ok=false->steps=[])/\(ok=true->K4 1 d r steps):=by
 have hv:=h.dev.st.vs;obtain⟨dead,d1,d2,d3⟩:=SC h.dev;unfold LE;rw[d1];simp only[Aa]
 cases hd:dead with
 |cons b m=>
  rw[Ac (by grind [Bu]:ln (b::m)>0),show gi (b::m) 0=some b from Ar (i:=0)];refine⟨_,_,rfl,by simp,(λhh=>by cases hh),λ_=>?_⟩;obtain⟨x,x1,x2,x3⟩:=d3 b (by rw[hd];simp);have hc:iU d.Flash b:=⟨x,x1,x2,λe=>by have:=hw x<|Am (C6 x1).2;omega⟩;have hs:O2 d.Flash (Bl.mk 2 b 0<|bs []):= .inr ⟨rfl,hc⟩;obtain⟨w1,w2⟩:=QK h.dev.fl hc;have he:Jz d.Flash (Bl.mk 2 b 0<|bs [])=QL d.Flash b:=by rfl
  have wp:∀g,Be g->H0 0 g.Blocks=((H0 0 d.Flash.Blocks).filter λy=>y.Block !=b)->(∀w:Int,FU d.Flash w->FU g (w+1))->∃x rx,BW g=some (x,true)/\x.Flash=g/\HC 1 d r x rx:=by
   intro g g1 g2 g3;obtain⟨d',u1,u2,u3,u4,u5,_,u6⟩:=jZ h x3 g1 g2;exact⟨d',_,u1,u2,u3,u4,u5,λy hy hk=>⟨y,(AC.1 hy).1,hk,rfl,rfl⟩,VO λy hy hk=>RC _ (AC.1 hy).1 hk,by rw[u2];exact g3,u6,VT (n:=200*1) λy hy=>RE _ (AC.1 hy).1⟩
  refine⟨⟨_,hs,rfl⟩,λk g hk hg=>?_⟩;obtain⟨q,q1,q2⟩:=hg
  cases k with
  |zero=>
   rw[show q=d.Flash from q1]at q2
   rcases q2 with rfl|⟨s,s1,_,s2,s3,⟨s4,_⟩|⟨_,s4⟩⟩
   ·obtain⟨x,u1,u2,u3⟩:=(HC.refl (n:=1) h).torn h.dev.fl rfl λ_ hh=>hh
    grind
   ·grind
   simp only[List.getElem?_cons_zero,An]at s1;rw[<-s1]at s4
   exact wp g s2 s4 λw hh y hy=>by have:=s3 w hh y hy;omega
  |succ k=>grind [UJ,Steps]
 |nil=>
  rw[show decide (ln ([]:List Int)>0)=false from rfl];obtain⟨v,v1⟩:=TT h.dev;rw[v1];simp only[Aa]
  cases v with
  |false=>
   unfold MU;rw[Wu h.dev.st];simp only[Aa];obtain⟨b1,b2⟩:=eG hv
   rcases PT h.dev.fl h.dev.seqs (Lg (AW d.Store) d.Store.Next) (by unfold Lg;simp) b2 b1 (bs [])with w|⟨steps,T,g,a,w1,w2,w3,w4,w5,w6,w7,w8,w9⟩
   ·grind
   rw[w2];simp only[Aa];have j:=(DY w7).2;have l:(B4 (FW d<|bs []) d.Tx T).length=T.length:=by unfold B4;grind
   have o:BS d a.Chunk (bs [])=[]:=by rfl
   rw[o,Ao,l]at j;refine⟨_,_,rfl,by omega,(λhh=>by cases hh),λ_=>Vg (Mk w7) λk hk=>?_⟩;obtain⟨m,d',r',c1,c2,c3,c4,c5,rfl,cw,c6,c7,c8,c9⟩:=Qa h b1 w3 w4 w5 w6 w7 w9 (λhh=>absurd (D0 _) hh) k hk;have f:AW d'.Store=AW d.Store/\d'.Store.Next=d.Store.Next:=by
    by_cases e:k<steps.length
    ·obtain⟨e1,e2,_⟩:=Gz h.dev c4 (by rw[c8 e]);exact⟨e1,e2⟩
    obtain⟨q,hq⟩:=(c9<|by omega).1;have hB:eT (Tx.mk d.Tx q<|Lg (AW d.Store) d.Store.Next)=true:=rfl;have f:=c4.ab
    grind [N0,VG,JJ]
   have hX:∀y∈(B6 steps<|BS d a.Chunk (bs [])++B4 (FW d<|bs []) d.Tx T).take k,y.Page.Kind=2/\y.Page.Tx=d.Tx:=λy hy=>by grind [IF,Kt,Vj]
   refine⟨d',_,by rw[c5];exact c1,by rw[c5];exact c3,⟨c4,c6,by grind⟩,f.1,f.2,λy hy hk=>?_,VO λy hy hk=>?_,by rw[c5];exact RA (n:=1) cw,λc hc=>?_,VT (n:=200*1) λy hy=>?_⟩
   ·grind
   ·rcases Aq.1 hy with hh|hh
    ·exact RC _ hh hk
    rw[(hX y hh).2,h.dev.tx];omega
   ·grind [SP,B9]
   rcases Aq.1 hy with hh|hh
   ·exact RE _ hh
   have:=U8<|IF _ _ _ y hh;rw[h.dev.seq]at this;omega
  |true=>
   simp only[Ay,Ad];obtain⟨vi,vi1⟩:=TZ h.dev;rw[vi1];simp only[Aa]
   cases decide (vi<0)with
   |true=>grind
   |false=>
    rcases Uk h.dev h.few vi with w|⟨steps,ps,g,w1,w2,w3,w4,w5,w6,w7⟩
    ·grind
    rw[w1];refine⟨steps,true,rfl,by omega,(λhh=>by cases hh),λ_=>Vg (Mk w2) λk hk=>?_⟩;obtain⟨m,d',c1,c2,c3,c4,c5,c6,_,cw,c7⟩:=gW h w2 w4 w5 w6 k;refine⟨d',_,by rw[c4];exact c1,by rw[c4];exact c3,c5,c6.ab,c6.nx,λy hy hk=>?_,VO λy hy hk=>?_,by rw[c4];exact RA (n:=1) cw,c7,VT (n:=200*1) λy hy=>?_⟩
    ·rcases Aq.1 hy with hh|hh
     ·grind
     obtain⟨⟨_,_,z,z1,z2⟩,_⟩:=w6 _<|IF _ _ _ _ hh
     grind [SQ]
    ·rcases Aq.1 hy with hh|hh
     ·exact RC _ hh hk
     have:=(w6 _<|IF _ _ _ _ hh).1.1;omega
    rcases Aq.1 hy with hh|hh
    ·exact RE _ hh
    have:=w7 _<|IF _ _ _ _ hh;rw[h.dev.seq]at this;omega
theorem QF (h:Be f):∃v:Int,JB f=some v:=by
 obtain⟨v,v1,_⟩:=eL f h.cap (by have:=h.few;omega);exact⟨v,v1⟩
theorem aH (h:Jm d r) (hw:FU d.Flash 999999000) (most:Int):∃d' all r',JE d most=some (d',all)/\HC 20 d r d' r'/\all.length<=4000/\Steps d.Flash all d'.Flash/\K4 20 d r all:=by
 unfold JE;rw[QT h.dev];simp only[Aa]
 have j:∀{n:Nat} {a:List Bl},n<=20->K4 n d r a->K4 20 d r a:=λhn hc=>⟨hc.1,λk g hk hg=>by
  obtain⟨x,rx,x1,x2,x3⟩:=hc.2 k g hk hg
  exact⟨x,rx,x1,x2,x3.mono hn⟩⟩
 obtain⟨b,h1,d',all,r',h2,h3,h4,h5,h6⟩:=AG (body:=λs:List Bl×Int×List Block×List Vol×List BL×Int×Int×Int×Int=>Gk most s.1 s.2.1 s.2.2.1 s.2.2.2.1 s.2.2.2.2.1 s.2.2.2.2.2.1 s.2.2.2.2.2.2.1 s.2.2.2.2.2.2.2.1 s.2.2.2.2.2.2.2.2)
  (λ(o:List Bl×A0) i=>(o.1,i,o.2.Flash.Blocks,o.2.Store.Vols,o.2.Store.Arena.Knots,o.2.Store.Next,o.2.Seq,o.2.Tx,o.2.Base)) 20
  (λi o=>o.1.length<=200*i/\∃r',HC i d r o.2 r'/\Steps d.Flash o.1 o.2.Flash/\K4 i d r o.1)
  (λb=>∃d' all r',(b= .inr (d',all)\/b= .inl (all,d'.Flash.Blocks,d'.Store.Vols,d'.Store.Arena.Knots,d'.Store.Next,d'.Seq,d'.Tx,d'.Base))/\HC 20 d r d' r'/\all.length<=4000/\Steps d.Flash all d'.Flash/\K4 20 d r all)
  (λo i hi hs=>by
   obtain⟨all,e⟩:=o;obtain⟨l,r',hg,c,f⟩:=hs;simp only at l hg c f;have m:A0.mk (Flash.mk e.Flash.Blocks) (Store.mk e.Store.Vols (Arena.mk e.Store.Arena.Knots) e.Store.Next) e.Seq e.Tx e.Base=e:=rfl;have p:Flash.mk e.Flash.Blocks=e.Flash:=rfl;simp only[Gk];rw[m,p];obtain⟨v,v1⟩:=QF hg.good.dev.fl;rw[v1,Ac (by omega:(i:Int)<20)];simp only[Ah,Aa,Nu]
   cases(bif decide ((i:Int)<most)then decide (v<12)else false)with
   |false=>
    exact .inr ⟨_,rfl,e,all,r',.inr rfl,hg.mono (by omega),by omega,c,j (by omega) f⟩
   |true=>
    obtain⟨steps,ok,c1,c2,_,c3⟩:=aG hg.good (λx hx=>by have:=hg.wear _ hw x hx;omega);rw[c1];simp only[Aa]
    cases ok with
    |false=>
     exact .inr ⟨_,rfl,e,all,r',.inl rfl,hg.mono (by omega),by omega,c,j (by omega) f⟩
    |true=>
     obtain⟨d',r2,k1,k2,k3⟩:=(c3 rfl).full hg.good (by omega);rw[k1,Aa,B5 (by omega),ad1]
     exact .inl ⟨(all++steps,d'),rfl,by simp;omega,r2,hg.trans k3,(Lh _ _ _ _).2 ⟨_,c,k2⟩,eQ hg c f<|c3 rfl⟩)
  (λo hs=>by simp_all [Gk];grind) (s:=([],d)) ⟨by simp,r,HC.refl h,rfl,⟨⟨_,rfl⟩,λk g hk hg=>by
   obtain⟨q,q1,q2⟩:=hg;rw[List.take_nil]at q1;rw[show q=d.Flash from q1]at q2
   rcases q2 with rfl|⟨s,s1,_⟩
   ·obtain⟨x,u1,u2,u3⟩:=(HC.refl (n:=0) h).torn h.dev.fl rfl λ_ hh=>hh
    grind
   simp at s1⟩⟩
 rw[h1]
 rcases h2 with rfl|rfl
 ·grind
 exact⟨d',all,r',rfl,h3,h4,h5,h6⟩
theorem fV {r:Int} (h:k<16):(DW K r)[k]?=some (Ns K r k):=by grind [DW]
theorem XO (h:Cx s) (vol:Int) (hk:k<16):∃c,HU s vol (k:Int)=some c/\((Mc (AW s) vol=none/\c=0)\/∃a,Mc (AW s) vol=some a/\a[k]?=some c/\0<=c/\(c≠0->CM (AW s) c)):=by
 have hl:=h.len;unfold HU
 rcases G0 s (by omega) vol with⟨e,e2⟩|⟨i,v,e,e2,e3,_⟩
 ·grind [Lb]
 rw[e];simp only[Aa];have hm:=Am e2;have hr:=h.root _<|Az.2 ⟨v,hm,rfl⟩;rw[cF,Ar,e2,Aa,S7 _ (by have:=h.few;omega) h.ar hr hk];have hg:=Js h.asc hm;rw[e3]at hg;have h0:=Y3 h.ar hr _<|T7 hk;exact⟨_,rfl,.inr ⟨_,hg,fV hk,h0,λb=>⟨by omega,_,Az.2 ⟨v,hm,rfl⟩,T7 hk⟩⟩⟩
theorem QR (h:Jm d r) (vol:Int) (hk:k<16):(Mc (AW d.Store) vol=none/\EN r d.Store vol (k:Int)=some (bs [],false))\/
  ∃a c,Mc (AW d.Store) vol=some a/\a[k]?=some c/\HU d.Store vol (k:Int)=some c/\((c=0/\EN r d.Store vol (k:Int)=some (bs [],true))\/(0<c/\CM (AW d.Store) c/\∃u,B9 r c=some u/\EN r d.Store vol (k:Int)=some (u,true))):=by
 have hl:=h.dev.st.len;obtain⟨c,c1,c2⟩:=XO h.dev.st vol hk;unfold EN;rw[c1]
 rcases G0 d.Store (by omega) vol with⟨e,e2⟩|⟨i,v,e,e2,e3,_⟩
 ·grind [Lb]
 have hg:=Js h.dev.st.asc<|Am e2;rw[e3]at hg
 rcases c2 with⟨c2,_⟩|⟨a,c2,c3,c4,c5⟩
 ·grind
 rw[e];simp only[Aa];rw[cF];right;by_cases e0:c=0
 ·grind
 rw[show(c==0)=false by simpa using e0];have b:=c5 e0;obtain⟨u,hu⟩:=h.data.data c b;obtain⟨w,ok,t1,t2⟩:=XA h.dev.pages c
 grind
theorem aB (h:IL d r) {q:Nx} {a:List CU} {b:ByteArray} (hp:JC d q=some (a,b,0)):pM q:=by
 obtain⟨v,a1,a2⟩:=NB q
 grind [JC]
def YN (r r':List Ak) (c:Int) (a:ByteArray):Prop:=(∀y∈r',y.Page.Kind=1->(∃z∈r,z.Page.Kind=1/\z.Page.Tx=y.Page.Tx/\z.Page.Text=y.Page.Text)\/(L a≠ []/\y.Page.Tx=c/\y.Page.Text=a))/\CW r'<=CW r+1/\CA r'<=CA r+10
theorem jY (h:Jm d r) {q:Nx} {a:ByteArray} (hx:mZ d r q x a):C1 d [x] a=some ([],false)\/∃steps d' r',C1 d [x] a=some (steps,true)/\steps.length<=10/\G5 d steps=some d'/\Jm d' r'/\
  (AW d'.Store,d'.Store.Next)=(Db (AW d.Store) d.Store.Next x).getD (AW d.Store,d.Store.Next)/\d.Store.Next<=d'.Store.Next/\d'.Store.Next<=d.Store.Next+1/\YN r r' x.Chunk a/\Sb d.Flash d'.Flash/\Steps d.Flash steps d'.Flash/\((∀c,CM (AW d.Store) c->B9 r' c=B9 r c)/\(L a≠ []->B9 r' x.Chunk=Qb a))/\1<=steps.length/\∀k g,k<steps.length->V7 d.Flash steps k g->∃y ry,BW g=some (y,true)/\y.Flash=g/\As d r y ry/\YN r ry x.Chunk a:=by
 obtain⟨x1,x2,xv,x3⟩:=hx;have h6:=h.dev.st.nx
 have i:∀z∈ [x],F5 z=true:=λz hz=>by grind
 rcases PT h.dev.fl h.dev.seqs [x] (by simp) (by simp) i a with w|⟨steps,T,g,b,w1,w2,w3,w4,w5,w6,w7,w8,w9⟩
 ·exact .inl w
 right;have j:b=x:=by simpa using w1.symm
 subst j;have o:=(DY w7).2;have h2:(B4 (FW d a) d.Tx T).length=T.length:=by unfold B4;grind
 have h7:(BS d b.Chunk a).length<=1:=by grind [BS]
 rw[A3,h2]at o
 have t:L a≠ []->¬CM (AW d.Store) b.Chunk:=λht h3=>by
  rcases x3 with⟨x3,_⟩|⟨_,x4,_⟩
  ·exact ht x3
  have:=WB h.dev.st h3;omega
 have tk:∀k c,CM (AW d.Store) c->B9 (r++(B6 steps<|BS d b.Chunk a++B4 (FW d a) d.Tx T).take k) c=B9 r c:=λk c hc=>by grind [SP,IF,Kt,B9,BS]
 have tn:L a≠ []->B9 (r++(B6 steps<|BS d b.Chunk a++B4 (FW d a) d.Tx T).take steps.length) b.Chunk=Qb a:=λe=>by
  rw[AY (by unfold B6;grind),show BS d b.Chunk a=[Page.mk 1 d.Seq b.Chunk 0 1 a] by grind [BS]]
  cases steps with
  |nil=>grind
  |cons s ss=>
   show B9 (r++Ak.mk s.Block s.Leaf (Page.mk 1 d.Seq b.Chunk 0 1 a)::B6 ss (B4 (FW d a) d.Tx T)) b.Chunk=_;unfold B9;rw[List.append_cons,Vq _ _ (λy hy=>by have:=Kt (IF ss _ _ y (by rw[Ig];exact hy));omega),KR,Bc ⟨rfl,rfl⟩];rfl
 have fw:∀k,YN r (r++(B6 steps<|BS d b.Chunk a++B4 (FW d a) d.Tx T).take k) b.Chunk a:=λk=>by
  have cP:∀y∈r++(B6 steps<|BS d b.Chunk a++B4 (FW d a) d.Tx T).take k,y∈r\/y.Page∈BS d b.Chunk a++B4 (FW d a) d.Tx T:=λy hy=>(Aq.1 hy).imp id<|IF _ _ _ y
  refine⟨λy hy hk=>?_,VO (n:=1) λy hy hk=>?_,VT (n:=10) λy hy=>?_⟩
  ·grind [Kt,BS]
  ·rcases cP y hy with hh|hh
   ·exact RC _ hh hk
   rcases Aq.1 hh with hh|hh
   ·grind [BS]
   rw[Vj hh,h.dev.tx];omega
  rcases cP y hy with hh|hh
  ·exact RE _ hh
  have:=U8 hh;rw[h.dev.seq]at this;omega
 have cut:∀k g,k<steps.length->V7 d.Flash steps k g->∃y ry,BW g=some (y,true)/\y.Flash=g/\As d r y ry/\YN r ry b.Chunk a:=λk g hk hg=>by
  obtain⟨m,y,ry,c1,c2,c3,c4,c5,hr',cw,c6,c7,c8,_⟩:=Qa h i w3 w4 w5 w6 w7 w9 t k (by omega);obtain⟨e1,e2,_⟩:=Gz h.dev c4 (by rw[c8 hk]);subst hr';have h4:As d r y (r++(B6 steps<|BS d b.Chunk a++B4 (FW d a) d.Tx T).take k):=⟨⟨c4,c6,by rw[e1];exact c7⟩,e1,e2,(fw k).2.1,by grind [RA],tk k⟩;obtain⟨q,q1,q2⟩:=hg;have:=NZ q1 c1;subst this
  rcases q2 with rfl|⟨s,s1,_,s2,s3,⟨_,s4⟩|⟨s4,_⟩⟩
  ·grind
  ·obtain⟨z,z1,z2,z3⟩:=h4.torn s2 (by rw[c5];exact s4) (by rw[c5];exact s3)
   grind
  grind [Mk]
 obtain⟨m,d',r',c1,c2,c3,c4,c5,hr',cw,c6,c7,_,c9⟩:=Qa h i w3 w4 w5 w6 w7 w9 t steps.length<|A5 _;rw[<-c5]at cw;rw[Ig]at c1;have u:Steps d.Flash steps d'.Flash:=by rw[c5];exact c1
 have v:YN r r' b.Chunk a:=by grind
 have tt:(∀c,CM (AW d.Store) c->B9 r' c=B9 r c)/\(L a≠ []->B9 r' b.Chunk=Qb a):=by grind
 obtain⟨⟨qn,hq⟩,c10⟩:=c9 rfl;have hB:¬eT (Tx.mk d.Tx qn [b])=true:=by grind [eT]
 have f:=c4.ab;rw[hq,N0,AA hB,SS,<-h.dev.ab]at f;have h5:BX (AW d.Store) d.Store.Next [b]=Db (AW d.Store) d.Store.Next b:=by rfl
 simp only[h5]at f;have h0:=L4 h.dev c1 (by omega) c3
 cases l:Db (AW d.Store) d.Store.Next b with
 |none=>
  rw[l]at f;have e1:AW d'.Store=AW d.Store:=Ob Prod.fst f;have e2:d'.Store.Next=d.Store.Next:=Ob Prod.snd f;exact⟨steps,d',r',w2,by omega,h0,⟨c4,c6,by rw[e1];exact c7⟩,by grind,by omega,by omega,v,cw,u,tt,by omega,cut⟩
 |some p=>
  obtain⟨l',nx'⟩:=p;rw[l]at f;have e1:AW d'.Store=l':=Ob Prod.fst f;have e2:d'.Store.Next=nx':=Ob Prod.snd f;obtain⟨v1,v2,v3⟩:=Yw l x2
  have hz:∀c,CM l' c->c=b.Chunk->b.Kind≠4->False:=λc hc h8 hk=>by
   have:b.Chunk=0:=by grind [F5]
   have:=hc.1;omega
  have h1:b.Chunk<=d.Store.Next:=by
   by_cases hk:b.Kind=4
   ·rcases x3 with⟨_,x4⟩|⟨_,x4,_⟩
    ·have:=WB h.dev.st (x4 hk).1;omega
    omega
   grind [F5]
  refine⟨steps,d',r',w2,by omega,h0,⟨c4,c6,?_⟩,by grind,by omega,by omega,v,cw,u,tt,by omega,cut⟩;rw[e1]
  rcases x3 with⟨x3,x4⟩|⟨x3,x4,x5,x6,x7⟩
  ·refine c7.mono λc hc=>?_
   grind
  exact(c10 _ x6 x5 x7).mono v1
def jJ (r r':List Ak) (nx:Int) (a:ByteArray):Prop:=(∀y∈r',y.Page.Kind=1->(∃z∈r,z.Page.Kind=1/\z.Page.Tx=y.Page.Tx/\z.Page.Text=y.Page.Text)\/(y.Page.Tx=nx/\Qb y.Page.Text=some a))/\CW r'<=CW r+21/\CA r'<=CA r+4010
def pL (d d':A0) (v:Int):Prop:=∀p∈AW d'.Store,(∃p'∈AW d.Store,p'.1=p.1)\/p.1=v
theorem HC.q (h:HC n d r e r') (hn:n<=20) (nx:Int) (t:ByteArray):jJ r r' nx t:=⟨λy hy hk=> .inl (h.pg y hy hk),by have:=h.tx;omega,by have:=h.sq;omega⟩
theorem IG (h:AW d'.Store=AW d.Store) (v:Int):pL d d' v:=λp hp=> .inl ⟨p,by grind,rfl⟩
theorem mK (h:Jm d r) (hw:FU d.Flash 999999000) (q:Nx):∃d' steps t no r',RG d q=some (d',steps,t,no)/\Jm d' r'/\d.Store.Next<=d'.Store.Next/\d'.Store.Next<=d.Store.Next+1/\jJ r r' d.Store.Next q.Text/\pL d d' q.Vol/\∀w:Int,FU d.Flash w->FU d'.Flash (w+20):=by
 have a:HC 20 d r d r:=HC.refl h;unfold RG;rw[QT h.dev,Wq h.dev];simp only[Aa,Ay,Ad];obtain⟨o,v,no,p1,p2,p3⟩:=YJ h.dev q;rw[p1];simp only[Aa]
 cases f:(no !=0)with
 |true=>exact⟨_,_,_,_,r,rfl,h,by omega,by omega,a.q (by omega) _ _,IG rfl _,a.wear⟩
 |false=>
  have g:no=0:=by simpa using f
  subst g;have hq:=aB h.dev p1;simp only[Ad]
  cases h0:(q.Kind==6)with
  |true=>
   simp only[Ah];obtain⟨k,hk⟩:∃k:Nat,q.Sector=(k:Int):=⟨_,(AL hq.sec.1).symm⟩;unfold S3;rw[h.dev.scan.s,hk];simp only[Aa]
   rcases QR h q.Vol (k:=k) (by have:=hq.sec;omega)with⟨_,e⟩|⟨h1,c,_,_,_,⟨_,e⟩|⟨_,_,u,_,e⟩⟩
   ·rw[e];exact⟨_,_,_,_,r,rfl,h,by omega,by omega,a.q (by omega) _ _,IG rfl _,a.wear⟩
   ·rw[e];exact⟨_,_,_,_,r,rfl,h,by omega,by omega,a.q (by omega) _ _,IG rfl _,a.wear⟩
   rw[e];exact⟨_,_,_,_,r,rfl,h,by omega,by omega,a.q (by omega) _ _,IG rfl _,a.wear⟩
  |false=>
   simp only[Ad];obtain⟨v5,i⟩:=QF h.dev.fl;rw[i];simp only[Aa];have clean:∃e all re,(cond (decide<|v5<12) ((JE d 20).bind λv6=>some (v6.2,v6.1.Flash.Blocks,v6.1.Store.Vols,v6.1.Store.Arena.Knots,v6.1.Store.Next,v6.1.Seq,v6.1.Tx,v6.1.Base)) (some ([],d.Flash.Blocks,d.Store.Vols,d.Store.Arena.Knots,d.Store.Next,d.Seq,d.Tx,d.Base)):Option (List Bl×List Block×List Vol×List BL×Int×Int×Int×Int))=some (all,Flash.Blocks<|A0.Flash e,e.Store.Vols,e.Store.Arena.Knots,e.Store.Next,e.Seq,e.Tx,e.Base)/\HC 20 d r e re/\all.length<=4000:=by
    cases decide (v5<12)with
    |false=>grind
    |true=>
     obtain⟨e,all,re,k1,k2,k3,_⟩:=aH h hw 20
     grind
   obtain⟨e,all,re,k1,k5,k4⟩:=clean;have k2:=k5.good;rw[k1];simp only[Aa];have j:A0.mk (Flash.mk e.Flash.Blocks) (Store.mk e.Store.Vols (Arena.mk e.Store.Arena.Knots) e.Store.Next) e.Seq e.Tx e.Base=e:=rfl;have l:Flash.mk e.Flash.Blocks=e.Flash:=rfl;rw[j,l];obtain⟨recs2,text2,no2,s1,s2,_⟩:=YJ k2.dev q;rw[s1];simp only[Aa];obtain⟨v9,m⟩:=QF k2.dev.fl;rw[m];have h2:=k5.nx
   rcases s2 with⟨rfl,rfl⟩|⟨_,x,rfl,s2⟩
   ·have hw:C1 e [] (bs [])=some ([],true):=rfl;rw[hw];simp only[Aa,Ay,Ad]
    cases decide (v9<8)with
    |true=>exact⟨_,_,_,_,re,rfl,k2,by omega,by omega,k5.q (by omega) _ _,IG k5.ab _,k5.wear⟩
    |false=>
     simp only[Ad];obtain⟨d',u1,u2,u3⟩:=JQ k2.dev.fl k2.dev.sr;obtain⟨e1,e2,_⟩:=Gz k2.dev u2 rfl;rw[L4 k2.dev (steps:=[]) rfl (by simp) u1,Aa,B5 (by simp;omega)];exact⟨_,_,_,_,re,rfl,⟨u2,k2.core,by rw[e1];exact k2.data⟩,by omega,by omega,k5.q (by omega) _ _,IG (by rw[e1,k5.ab]) _,by rw[u3];exact k5.wear⟩
   rcases jY k2 s2 with w|⟨steps,d',r',w1,w2,w3,w4,w7,w5,w6,w8,w9,_⟩
   ·rw[w];exact⟨_,_,_,_,re,rfl,k2,by omega,by omega,k5.q (by omega) _ _,IG k5.ab _,k5.wear⟩
   rw[w1];simp only[Aa,Ay,Ad]
   cases decide (v9<8)with
   |true=>exact⟨_,_,_,_,re,rfl,k2,by omega,by omega,k5.q (by omega) _ _,IG k5.ab _,k5.wear⟩
   |false=>
    simp only[Ad];rw[w3,Aa,B5<|by omega];refine⟨_,_,_,_,r',rfl,w4,by omega,by omega,⟨λy hy hk=>?_,by have:=w8.2.1;have:=k5.tx;omega,by have:=w8.2.2;have:=k5.sq;omega⟩,λp hp=>?_,λw hh=>w9 _<|k5.wear w hh⟩
    ·rcases w8.1 y hy hk with⟨z,z1,z2,z3,z4⟩|⟨t1,t2,t3⟩
     ·obtain⟨w,a1,a2,a3,a4⟩:=k5.pg z z1 z2
      grind
     obtain⟨_,_,_,s3⟩:=s2
     grind
    have e1:=Ob Prod.fst w7;simp only at e1;rw[e1]at hp
    cases b:Db (AW e.Store) e.Store.Next x with
    |none=>
     rw[b]at hp;exact .inl ⟨p,by rw[<-k5.ab];exact hp,rfl⟩
    |some lp=>
     rw[b]at hp;obtain⟨l',nx'⟩:=lp;have n:p∈l':=hp
     rcases ZK b s2.2.1 p n with⟨p',q1,q2⟩|hh
     ·exact .inl ⟨p',by rw[<-k5.ab];exact q1,q2⟩
     exact .inr<|by rw[hh,s2.2.2.1]
structure FG (c:AT):Prop where
 i0:0<=c.i_
 i1:c.i_<=(c.b_.length:Int)
 len:c.b_.length<=1048576
theorem i7 (a:Int):0<=oZ .i64 a 255/\oZ .i64 a 255<=255:=by
 unfold oZ;have h:(BitVec.ofInt IntKind.i64.bits a&&&BitVec.ofInt IntKind.i64.bits 255).toNat<=255:=by
  refine Nw Nat.and_le_right ?_;exact Nat.le_of_eq rfl
 grind [KH]
theorem TP (h:FG c):∃v c',GL c=some (v,c')/\FG c'/\0<=v/\v<=255:=by
 have:=h.i0;have:=h.i1;have:=h.len;unfold GL;by_cases e:c.i_<ln c.b_
 ·rw[Ac e,Ah,Mv h.i0<|by grind [Bu]];rw[Bu]at e;rw[Aa,BN (a:=c.i_) (by omega)<|by omega];exact⟨_,_,rfl,⟨by grind,by grind,h.len⟩,i7 _⟩
 rw[Ag e,Ad];exact⟨_,_,rfl,⟨h.i0,h.i1,h.len⟩,i7 _⟩
theorem pZ {a n:Int} (h0:0<=a) (hn:0<n):∃v,rm .i64 a n=some v/\0<=v/\v<n:=by
 unfold rm;rw[AA (by omega),Int.tmod_eq_emod_of_nonneg h0];exact⟨_,rfl,Int.emod_nonneg _ (by omega),Int.emod_lt_of_pos _ hn⟩
theorem Gx (h:FG c) (n:Int):∃v c',BR c n=some (v,c')/\FG c'/\0<=v/\(0<n->v<n):=by
 unfold BR;by_cases h0:n<=0
 ·simp_all;grind
 by_cases h1:n<=256
 ·grind [TP,pZ]
 rw[Ag h1,Ad];obtain⟨v1,c1,a1,a2,a3,a4⟩:=TP h;obtain⟨v2,c2,b1,b2,b3,b4⟩:=TP a2;obtain⟨v3,c3,d1,d2,d3,d4⟩:=TP b2;obtain⟨v4,c4,e1,e2,e3,e4⟩:=TP d2;rw[a1,Aa,b1,Aa,d1,Aa,e1,Aa,KT (by omega) (by omega),KT (by omega) (by omega),KT (by omega) (by omega),BN (a:=v1*16777216) (b:=v2*65536) (by omega) (by omega),BN (a:=v1*16777216+v2*65536) (b:=v3*256) (by omega) (by omega),BN (a:=v1*16777216+v2*65536+v3*256) (b:=v4) (by omega)<|by omega];obtain⟨w,w1,w2,w3⟩:=pZ (a:=v1*16777216+v2*65536+v3*256+v4) (n:=n) (by omega)<|by omega
 grind
theorem Ha (h:FG c) (hn:0<n):∃(v:Nat) (c':AT),BR c (n:Int)=some ((v:Int),c')/\FG c'/\v<n:=by
 obtain⟨v,c',k1,k2,k3,k4⟩:=Gx h (n:Int);exact⟨v.toNat,c',by grind,k2,by omega⟩
theorem Li {l:List Int} (h:FG c) (hl:0<l.length):∃v c',E9 c l=some (v,c')/\FG c'/\v∈l:=by
 unfold E9
 grind [Ha,Bu,Ar]
theorem jF {l:List ByteArray} (h:FG c) (hl:0<l.length):∃v c',N3 c l=some (v,c')/\FG c'/\v∈l:=by
 unfold N3;obtain⟨v,c',k1,k2,k3⟩:=Ha h hl;simp_all [Bu,Ar];grind
theorem TM (h:FG c) (n:Int):∃v c',Dy c n=some (v,c')/\FG c':=by
 unfold Dy;obtain⟨v,c',k1,k2,_⟩:=Gx h n;rw[k1];exact⟨_,_,rfl,k2⟩
theorem o7 (h:FG c):∃v c',Jo c=some (v,c')/\FG c':=by
 unfold Jo;obtain⟨v,c',k1,k2,_⟩:=jF h (l:=[bs [],bs [97],bs [98,98],bs [97,98,99,100,97,98,99,100,97,98,99,100],bs [104,101,108,108,111],bs [104,101,108,108,111,32,104,101,108,108,111,32,104,101,108,108,111],bs [122,122,122,122,122,122,122,122,122,122,122,122],bs [113,49],bs [113,50],bs [113,51]]) (by simp);rw[k1];exact⟨_,_,rfl,k2⟩
theorem Fc (h:FG c):FG (AT.mk c.b_ c.i_ c.h_):=h
theorem rC (h:code.length<=1048576):∃c,Pm code=some c/\FG c:=by
 unfold Pm;obtain⟨b,h1,_⟩:=AG (body:=λs:Int×Int=>I3 code s.1 s.2) (λ(o:Int) i=>(o,i)) code.length (λ_ _=>True) (λ_=>True)
  (λo i hi _=>by
   have hx:=Ab hi;simp only[I3,IV,Ac hi,Ah,Aa,Ar,hx];rw[ad1 (i:=i)<|by omega]
   cases decide ((i:Int)<4000)with
   |true=>grind
   |false=>grind)
  (λo _=>⟨o,by grind [IV,I3],trivial⟩) (s:=ad 36501<|ln code) trivial
 rw[h1];exact⟨_,rfl,⟨HD _,by grind,h⟩⟩
theorem pG (h:FG c) (d:A0) (hv:d.Store.Vols.length<=3):∃q c',HM c d=some (q,c')/\FG c':=by
  unfold HM;obtain⟨k,c1,a1,a2,_⟩:=Li h (l:=[1,1,1,1,1,1,2,3,4,5,6]) (by simp);rw[a1];simp only[Aa];obtain⟨v2,c2,b1,b2,_⟩:=Gx a2 3;rw[b1];simp only[Aa]
  have J1:∃x y c3,(cond ((ln d.Store.Vols)==0) (some (3,ad 1 v2,c2.b_,c2.i_,c2.h_)) ((cond (k !=3) (cond (k !=4) ((Dy c2 8).bind λv3=>
 some (!v3.1,v3.2.b_,v3.2.i_,v3.2.h_))<|some (false,c2.b_,c2.i_,c2.h_)) (some (false,c2.b_,c2.i_,c2.h_)):Option (Bool×List Int×Int×Int)).bind λj2=>
 cond j2.1 ((BR (AT.mk j2.2.1 j2.2.2.1 j2.2.2.2)<|ln d.Store.Vols).bind λv4=>
 (gi d.Store.Vols v4.1).bind λx1=>
 some (k,x1.Id,v4.2.b_,v4.2.i_,v4.2.h_)) (some (k,ad 1 v2,j2.2.1,j2.2.2.1,j2.2.2.2))):Option (Int×Int×List Int×Int×Int))=some (x,y,AT.b_ c3,c3.i_,c3.h_)/\FG c3:=by
   cases hz:(ln d.Store.Vols==0)with
   |true=>exact⟨_,_,c2,rfl,b2⟩
   |false=>
    simp only[Ad];have a:0<d.Store.Vols.length:=by
     rw[beq_eq_false_iff_ne,Bu]at hz;omega
    have J2:∃b c3,(cond (k !=3) (cond (k !=4) ((Dy c2 8).bind λv3=>some (!v3.1,v3.2.b_,v3.2.i_,v3.2.h_))<|some (false,c2.b_,c2.i_,c2.h_)) (some (false,c2.b_,c2.i_,c2.h_)):Option (Bool×List Int×Int×Int))=some (b,AT.b_ c3,c3.i_,c3.h_)/\FG c3:=by
     cases(k !=3)with
     |false=>exact⟨_,c2,rfl,b2⟩
     |true=>
      cases(k !=4)with
      |false=>exact⟨_,c2,rfl,b2⟩
      |true=>
       obtain⟨v3,c3,d1,d2⟩:=TM b2 8;simp only[Ah];rw[d1];exact⟨_,c3,rfl,d2⟩
    obtain⟨b,c3,e1,e2⟩:=J2;rw[e1];simp only[Aa]
    cases b with
    |false=>exact⟨_,_,c3,rfl,e2⟩
    |true=>
     simp only[Ah];obtain⟨v4,c4,f1,f2,f3⟩:=Ha (Fc e2) a;rw[Bu,f1,Aa,Ar,Ab f3];exact⟨_,_,c4,rfl,f2⟩
  obtain⟨x,y,c3,j1,j1c⟩:=J1;rw[j1];simp only[Aa];have J3:∃b c4,(cond (x==5) ((Dy (AT.mk c3.b_ c3.i_ c3.h_) 3).bind λv8=>some (!v8.1,v8.2.b_,v8.2.i_,v8.2.h_)) (some (false,c3.b_,c3.i_,c3.h_)):Option (Bool×List Int×Int×Int))=some (b,AT.b_ c4,c4.i_,c4.h_)/\FG c4:=by
   cases(x==5)with
   |false=>exact⟨_,c3,rfl,j1c⟩
   |true=>
    obtain⟨v8,c4,d1,d2⟩:=TM (Fc j1c) 3;simp only[Ah];rw[d1];exact⟨_,c4,rfl,d2⟩
  obtain⟨b,c4,j3,j3c⟩:=J3;rw[j3];simp only[Aa,Nu];generalize (bif b then(1:Int)else x)=j4
  cases(j4==1)with
  |true=>
   simp only[Ah];obtain⟨t,c5,t1,t2⟩:=o7<|Fc j3c;rw[t1];simp only[Aa];obtain⟨v10,c6,u1,u2,_⟩:=Gx t2 16;rw[u1];exact⟨_,_,rfl,u2⟩
  |false=>
   simp only[Ad];generalize (cond (j4==2) (j4==2)<|j4==6)=j6
   cases j6 with
   |true=>
    simp only[Ah];obtain⟨v11,c6,u1,u2,_⟩:=Gx (Fc j3c) 16;rw[u1];exact⟨_,_,rfl,u2⟩
   |false=>
    simp only[Ad]
    cases(j4==4)with
    |true=>
     simp only[Ah];obtain⟨v12,c6,u1,u2,_⟩:=Gx (Fc j3c) 3;rw[u1];simp only[Aa]
     cases e:d.Store.Vols with
     |nil=>
      rw[show decide (ln ([]:List Vol)>0)=false from rfl];exact⟨_,_,rfl,u2⟩
     |cons v vs=>
      rw[Ac (by rw[Bu,AM];omega:ln (v::vs)>0),show gi (v::vs) 0=some v from Ar (i:=0)];exact⟨_,_,rfl,u2⟩
    |false=>exact⟨_,_,rfl,Fc j3c⟩
def mT:List ByteArray:=[bs [],bs [97],bs [98,98],bs [97,98,99,100,97,98,99,100,97,98,99,100],bs [104,101,108,108,111],bs [104,101,108,108,111,32,104,101,108,108,111,32,104,101,108,108,111],bs [122,122,122,122,122,122,122,122,122,122,122,122],bs [113,49],bs [113,50],bs [113,51]]
theorem o6 (h:FG c):∃v c',Jo c=some (v,c')/\FG c'/\v∈mT:=by
 unfold Jo;obtain⟨v,c',k1,k2,k3⟩:=jF h (l:=mT)<|by simp[mT]
 grind [mT]
structure mO (q:Nx):Prop where
 kind:1<=q.Kind/\q.Kind<=6
 vol:1<=q.Vol/\q.Vol<=3
 rest:(q.Kind=1/\q.Text∈mT/\(0<=q.Sector/\q.Sector<=15)/\q.Of=0)\/(q.Kind≠1/\L q.Text=[]/\(((q.Kind=2\/q.Kind=6)/\(0<=q.Sector/\q.Sector<=15)/\q.Of=0)\/(q.Sector=0/\((q.Kind=4/\1<=q.Of/\q.Of<=9)\/((q.Kind=3\/q.Kind=5)/\q.Of=0)))))
theorem pF (h:FG c) (d:A0) (hv:d.Store.Vols.length<=3) (o:∀v∈d.Store.Vols,1<=v.Id/\v.Id<=3):∃q c',HM c d=some (q,c')/\FG c'/\mO q:=by
  unfold HM;obtain⟨k,c1,a1,a2,a3⟩:=Li h (l:=[1,1,1,1,1,1,2,3,4,5,6]) (by simp);rw[a1];simp only[Aa];obtain⟨v2,c2,b1,b2,b3,b4⟩:=Gx a2 3;have g:1<=k/\k<=6:=by simp at a3;omega
  have r:ad 1 v2=1+v2:=BN (by omega) (by omega);rw[b1];simp only[Aa]
  have J1:∃x y c3,(cond ((ln d.Store.Vols)==0) (some (3,ad 1 v2,c2.b_,c2.i_,c2.h_)) ((cond (k !=3) (cond (k !=4) ((Dy c2 8).bind λv3=>
 some (!v3.1,v3.2.b_,v3.2.i_,v3.2.h_))<|some (false,c2.b_,c2.i_,c2.h_)) (some (false,c2.b_,c2.i_,c2.h_)):Option (Bool×List Int×Int×Int)).bind λj2=>
 cond j2.1 ((BR (AT.mk j2.2.1 j2.2.2.1 j2.2.2.2)<|ln d.Store.Vols).bind λv4=>
 (gi d.Store.Vols v4.1).bind λx1=>
 some (k,x1.Id,v4.2.b_,v4.2.i_,v4.2.h_)) (some (k,ad 1 v2,j2.2.1,j2.2.2.1,j2.2.2.2))):Option (Int×Int×List Int×Int×Int))=some (x,y,AT.b_ c3,c3.i_,c3.h_)/\FG c3/\(1<=x/\x<=6)/\1<=y/\y<=3:=by
   cases hz:(ln d.Store.Vols==0)with
   |true=>exact⟨_,_,c2,rfl,b2,by omega,by omega,by omega⟩
   |false=>
    have j:0<d.Store.Vols.length:=by grind [Bu]
    have J2:∃b c3,(cond (k !=3) (cond (k !=4) ((Dy c2 8).bind λv3=>some (!v3.1,v3.2.b_,v3.2.i_,v3.2.h_))<|some (false,c2.b_,c2.i_,c2.h_)) (some (false,c2.b_,c2.i_,c2.h_)):Option (Bool×List Int×Int×Int))=some (b,AT.b_ c3,c3.i_,c3.h_)/\FG c3:=by
     cases(k !=3)with
     |false=>grind
     |true=>
      cases(k !=4)with
      |false=>grind
      |true=>
       obtain⟨v3,c3,d1,d2⟩:=TM b2 8;rw[d1];exact⟨_,c3,rfl,d2⟩
    obtain⟨b,c3,e1,e2⟩:=J2;rw[e1];simp only[Aa]
    cases b with
    |false=>exact⟨_,_,c3,rfl,e2,g,by omega,by omega⟩
    |true=>
     obtain⟨v4,c4,f1,f2,f3⟩:=Ha (Fc e2) j;rw[Bu,f1,Aa,Ar,Ab f3];exact⟨_,_,c4,rfl,f2,g,o _<|A4 f3⟩
  obtain⟨x,y,c3,j1,j1c,jx,jy⟩:=J1;rw[j1];simp only[Aa];have J3:∃b c4,(cond (x==5) ((Dy (AT.mk c3.b_ c3.i_ c3.h_) 3).bind λv8=>some (!v8.1,v8.2.b_,v8.2.i_,v8.2.h_)) (some (false,c3.b_,c3.i_,c3.h_)):Option (Bool×List Int×Int×Int))=some (b,AT.b_ c4,c4.i_,c4.h_)/\FG c4:=by
   cases(x==5)with
   |false=>grind
   |true=>
    obtain⟨v8,c4,d1,d2⟩:=TM (Fc j1c) 3;rw[d1];exact⟨_,c4,rfl,d2⟩
  obtain⟨b,c4,j3,j3c⟩:=J3;rw[j3];simp only[Aa,Nu];have a:1<=(bif b then(1:Int)else x)/\(bif b then(1:Int)else x)<=6:=by grind
  generalize (bif b then(1:Int)else x)=j4 at a
  cases m:(j4==1)with
  |true=>
   obtain⟨t,c5,t1,t2,t3⟩:=o6<|Fc j3c;rw[t1];simp only[Aa];obtain⟨v10,c6,u1,u2,u3,u4⟩:=Gx t2 16;rw[u1];have hj:=HA.1 m;exact⟨_,_,rfl,u2,⟨a,jy,.inl ⟨hj,t3,by grind,rfl⟩⟩⟩
  |false=>
   have e:j4≠1:=by simpa using m
   have p:(cond (j4==2) (j4==2)<|j4==6)=decide (j4=2\/j4=6):=by grind
   rw[p];by_cases f:j4=2\/j4=6
   ·rw[Ac f];obtain⟨v11,c6,u1,u2,u3,u4⟩:=Gx (Fc j3c) 16;rw[u1];exact⟨_,_,rfl,u2,⟨a,jy,.inr ⟨e,D0 _,.inl ⟨f,by grind,rfl⟩⟩⟩⟩
   rw[Ag f]
   cases n:(j4==4)with
   |true=>
    obtain⟨v12,c6,u1,u2,u3,u4⟩:=Gx (Fc j3c) 3;have h44:=HA.1 n;rw[u1]
    cases s:d.Store.Vols with
    |nil=>
     exact⟨_,_,rfl,u2,⟨a,jy,.inr ⟨e,D0 _,.inr ⟨rfl,.inl ⟨h44,by grind [BN]⟩⟩⟩⟩⟩
    |cons v vs=>
     rw[Ac (by grind [Bu]:ln (v::vs)>0),show gi (v::vs) 0=some v from Ar (i:=0)];exact⟨_,_,rfl,u2,⟨a,jy,.inr ⟨e,D0 _,.inr ⟨rfl,.inl ⟨h44,by grind⟩⟩⟩⟩⟩
   |false=>
    exact⟨_,_,rfl,Fc j3c,⟨a,jy,.inr ⟨e,D0 _,.inr ⟨rfl,.inr ⟨by grind,rfl⟩⟩⟩⟩⟩
theorem iX (h:3<=n/\n<=10):Be (Flash.mk (List.replicate n (Block.mk false 0 Mi))):=by
 refine⟨by simpa using h,λb hb=>?_⟩
 grind [Y9]
theorem Wl (h:3<=n/\n<=10):LA (n:Int)=some (Flash.mk (List.replicate n (Block.mk false 0 Mi)),true):=by
 unfold LA;rw[CZ,Ac<|by omega];simp only[Aa,Ay,Ad];have q:=Z8 (body:=λs:Int×List Block=>Gi (n:Int) s.1 s.2) n (λ_=>Block.mk false 0 Mi)
  (λi a hi ho=>by grind [Vt,B5,ad1,Gi])
  (λa=>by grind [Gi])
 rw[q,Aa,M5,EW]
theorem Vh:∀(n:Nat) (i:Int),H0 i (List.replicate n (Block.mk false 0 Mi))=[]
 |0,i=>rfl
 |n+1,i=>by
  rw[List.replicate_succ,H0,Vh n (i+1),SJ i 0 _ (λy hy=>by rw[D8 hy];simp)];rfl
theorem YQ (h:3<=n/\n<=10):∃d,Km (n:Int)=some (d,true)/\Jm d []/\AW d.Store=[]/\d.Store.Next=1/\d.Flash=Flash.mk (List.replicate n (Block.mk false 0 Mi)):=by
 have hP:=iX h;have b:SR (H0 0 (Flash.mk<|List.replicate n<|Block.mk false 0 Mi).Blocks) []:=by
  rw[Vh];exact⟨List.Pairwise.nil,λ_=>rfl⟩
 obtain⟨d,u1,u2,u3⟩:=JQ hP b;have a:=u2.ab;have:JJ (CD<|AN [])=([],1):=rfl;rw[this]at a
 injection a with e1 e2
 refine⟨d,?_,⟨u2,⟨⟨by simp,by simp,by simp,by simp,by simp,by simp⟩,List.Pairwise.nil,⟨λy hy=>by cases hy⟩⟩,?_⟩,e1,e2,u3⟩
 ·grind [Wl,Km]
 rw[e1];refine⟨λc hc=>?_,λc c' hc=>?_⟩
 ·obtain⟨_,p,hp,_⟩:=hc;cases hp
 obtain⟨_,p,hp,_⟩:=hc;cases hp
structure jK (d:A0) (r:List Ak):Prop where
 ids:∀p∈AW d.Store,1<=p.1/\p.1<=3
 pg:∀y∈r,y.Page.Kind=1->y.Page.Tx<=13/\∃s∈mT,Qb y.Page.Text=some s
structure sZ (d:A0) (r:List Ak):Prop extends jK d r where
 tx:CW r<=1000
 sq:CA r<=100000
 wear:FU d.Flash 1000
theorem mO.text {q:Nx} (h:mO q):q.Text∈mT:=by
 rcases h.rest with⟨_,h2,_⟩|⟨_,h2,_⟩
 ·exact h2
 grind [H5,D0,mT]
theorem jK.step {q:Nx} (h:jK d r) (hq:mO q) (hn:d.Store.Next<=13) (hf:jJ r r' d.Store.Next q.Text) (hi:pL d d' q.Vol):jK d' r':=by
 refine⟨λp hp=>?_,λy hy hk=>?_⟩
 ·rcases hi p hp with⟨p',h1,h2⟩|h1
  ·rw[<-h2];exact h.ids p' h1
  rw[h1];exact hq.vol
 rcases hf.1 y hy hk with⟨z,z1,z2,z3,z4⟩|⟨h1,h2⟩
 ·have:=h.pg z z1 z2
  grind
 exact⟨by omega,_,hq.text,h2⟩
theorem Yi (h:FG c):∃d c' r,Kf c=some (d,c')/\FG c'/\Jm d r/\d.Store.Next<=13/\sZ d r:=by
 unfold Kf;obtain⟨v,c1,a1,a2,a3⟩:=Ha h (n:=4) (by omega);rw[show((4:Nat):Int)=4 from rfl]at a1;rw[a1,Aa,BN,show(5:Int)+(v:Int)=((5+v:Nat):Int) by omega];obtain⟨d0,b1,b2,b3,b4,b5⟩:=YQ (n:=5+v) (by omega);rw[b1];simp only[Aa];obtain⟨a,h1,d,cc,r,h2,h3,h4,h5,h6⟩:=AG (body:=λs:Int×List Block×List Vol×List BL×Int×Int×Int×Int×List Int×Int×Int=>Fq s.1 s.2.1 s.2.2.1 s.2.2.2.1 s.2.2.2.2.1 s.2.2.2.2.2.1 s.2.2.2.2.2.2.1 s.2.2.2.2.2.2.2.1 s.2.2.2.2.2.2.2.2.1 s.2.2.2.2.2.2.2.2.2.1 s.2.2.2.2.2.2.2.2.2.2)
  (λ(o:A0×AT) i=>(i,o.1.Flash.Blocks,o.1.Store.Vols,o.1.Store.Arena.Knots,o.1.Store.Next,o.1.Seq,o.1.Tx,o.1.Base,o.2.b_,o.2.i_,o.2.h_)) 12
  (λi o=>FG o.2/\(∃r,Jm o.1 r/\jK o.1 r/\CW r<=1+21*i/\CA r<=1+4010*i/\FU o.1.Flash (20*i))/\o.1.Store.Next<=1+i)
  (λa=>∃d cc r,a=(d.Flash.Blocks,d.Store.Vols,d.Store.Arena.Knots,d.Store.Next,d.Seq,d.Tx,d.Base,AT.b_ cc,cc.i_,cc.h_)/\FG cc/\Jm d r/\d.Store.Next<=13/\sZ d r)
  (λo i hi hs=>by
   obtain⟨e,cu⟩:=o;obtain⟨k1,⟨r,k2,kx,kt,kq,kw⟩,k3⟩:=hs;simp only at k1 k2 k3 kx kw;have f:A0.mk (Flash.mk e.Flash.Blocks) (Store.mk e.Store.Vols (Arena.mk e.Store.Arena.Knots) e.Store.Next) e.Seq e.Tx e.Base=e:=rfl;simp only[Fq];rw[f];obtain⟨w,c3,w1,w2,w3⟩:=Ha (Fc k1) (n:=12) (by omega);rw[show((12:Nat):Int)=12 from rfl]at w1;rw[w1];simp only[Aa];by_cases b:(i:Int)<(w:Int)
   ·rw[Ac b,Ah];obtain⟨q,c4,q1,q2,q3⟩:=pF w2 e k2.dev.st.len λv hv=>kx.ids (v.Id,DW e.Store.Arena.Knots v.Root)<|Az.2 ⟨v,hv,rfl⟩;rw[q1];simp only[Aa];obtain⟨d',steps,t,no,r',s1,s2,s3,s4,s5,s6,s7⟩:=mK k2 (λx hx=>by have:=kw x hx;omega) q;rw[s1,Aa,ad1];exact .inl ⟨(d',c4),rfl,q2,⟨r',s2,kx.step q3 (by omega) s5 s6,by have:=s5.2.1;omega,by have:=s5.2.2;omega,λx hx=>by have:=s7 _ kw x hx;omega⟩,by grind⟩
   rw[Ag b,Ad]
   exact .inr ⟨_,rfl,e,c3,r,rfl,w2,k2,by omega,⟨kx,by omega,by omega,λx hx=>by have:=kw x hx;omega⟩⟩)
  (λo hs=>by
   obtain⟨e,cu⟩:=o;obtain⟨k1,⟨r,k2,kx,kt,kq,kw⟩,k3⟩:=hs;simp only at k1 k2 k3 kx kw;simp only[Fq];obtain⟨w,c3,w1,w2,w3⟩:=Ha (Fc k1) (n:=12) (by omega);rw[show((12:Nat):Int)=12 from rfl]at w1;rw[show((12:Nat):Int)=12 from rfl,w1,Aa,cF]
   exact⟨_,rfl,e,c3,r,rfl,w2,k2,by omega,⟨kx,by omega,by omega,λx hx=>by have:=kw x hx;omega⟩⟩) (s:=(d0,c1)) ⟨a2,⟨[],b2,⟨λp hp=>(by grind),λy hy=>by cases hy⟩,by simp[CW],by simp[CA],λx hx=>by grind⟩,by grind⟩
 rw[h1,h2];exact⟨d,cc,r,rfl,h3,h4,h5,h6⟩
def O4 (a:List Ap):Prop:=a.length<=1048576/\∀x∈a,x.Texts.length<=1048576
theorem eM (d:A0) (h:eK d.Flash r) (hs:PZ d.Store<=1048576) (id:Int) (k:Nat) (hk:k<16):∃u ok,EN r d.Store id (k:Int)=some (u,ok)/\Tg d id (k:Int)=some (u,ok):=by
 unfold PZ eZ at hs;have hl:=eX (z:=Xm) (l:=d.Store.Arena.Knots);have ha:Uw d.Store.Arena:=by unfold Uw;omega
 unfold EN Tg;obtain⟨v,h1,h2,h3⟩:=Xn d.Store id (by omega);rw[h1,h2];simp only[Aa]
 cases decide (v<0)with
 |true=>grind
 |false=>
  obtain⟨c,c1,c2⟩:=aI d.Store (by omega) ha id k hk;rw[c1,c2];simp only[Aa]
  cases c==0 with
  |true=>grind
  |false=>
   obtain⟨u,ok,t1,t2⟩:=Xj h c
   grind
theorem QH (d:A0) (hz:OV d<=1048576):∃m,Di d=some m/\IQ d=some m:=by
 unfold OV at hz;obtain⟨r,hr⟩:=mL d.Flash (by omega);have hs:PZ d.Store<=1048576:=by omega
 have hv:d.Store.Vols.length<=1048576:=by grind [PZ]
 unfold Di IQ;rw[hr.s];obtain⟨m,h1,h2,_⟩:=KU (body:=λs:List Ap×Int=>Cd d r s.1 s.2) (body':=λs:List Ap×Int=>ED d s.1 s.2) (λ(o:List Ap) i=>(o,i)) (λ(o:List Ap) i=>(o,i)) d.Store.Vols.length (λi o=>o.length=i) (λ_=>True)
  (λo i hi ho=>by
   have hg:d.Store.Vols[i]?=some d.Store.Vols[i]:=Ab hi;simp only[Cd,ED,IV,Ac hi,Ah,Ar,hg,Aa];obtain⟨l,q1,q2,q3⟩:=KU (body:=λs:Int×List ByteArray=>CJ d r d.Store.Vols[i] s.1 s.2) (body':=λs:Int×List ByteArray=>G8 d d.Store.Vols[i] s.1 s.2) (λ(o:List ByteArray) k=>(k,o)) (λ(o:List ByteArray) k=>(k,o)) 16 (λk o=>o.length=k) (λ_=>True)
    (λu k hk hu=>by
     obtain⟨t,ok,g1,g2⟩:=eM d hr hs d.Store.Vols[i].Id k hk
     grind [B5,ad1,CJ,G8])
    (λu hu=>⟨u,by rfl,by rfl,trivial⟩) (s:=[]) rfl
   grind [B5,ad1])
  (λo ho=>⟨o,by grind [IV,Cd],by grind [IV,ED],trivial⟩) (s:=[]) rfl
 grind
theorem eY (h:Be f):MA f<=10000:=by
 have hl:∀l:List Leaf,(∀x∈l,lD x)->(l.map U7).sum<=120*l.length:=by
  intro l
  induction l with
  |nil=>intro _;simp
  |cons x l ih=>
   intro hx;rw[GZ,List.sum_cons,AM];have:=ih (λy hy=>hx y<|by simp[hy]);have h1:U7 x<=120:=by
    have a:x.Text.size=(L x.Text).length:=by rfl
    unfold U7
    rcases hx x (by simp)with⟨_,e⟩|⟨_,_,e⟩|⟨_,e⟩
    ·grind
    ·omega
    omega
   omega
 have hb:∀l:List Block,(∀b∈l,H7 b)->(l.map MB).sum<=500*l.length:=by
  intro l
  induction l with
  |nil=>intro _;simp
  |cons b l ih=>
   intro hx;rw[GZ,List.sum_cons,AM];have:=ih (λy hy=>hx y<|by simp[hy]);have h1:=hx b (by simp);have h2:=hl b.Leaves h1.leaf;have h4:=h1.four;have hz:MB b=b.Leaves.length+(b.Leaves.map U7).sum:=rfl;omega
 have:=hb f.Blocks h.blk;have hn:=h.n;unfold MA zl;omega
theorem cH (hf:Be d.Flash) (hs:Cx d.Store):OV d<=1048576:=by
 have h1:=eY hf;have h2:=hs.len;have h3:=hs.small;have a:∀l:List BL,(∀k∈l,k.Kids.length=4)->(l.map Xm).sum=4*l.length:=by
  intro l
  induction l with
  |nil=>intro _;rfl
  |cons k l ih=>grind [Xm]
 have h4:=a d.Store.Arena.Knots (λk hk=>by
  obtain⟨i,hi,rfl⟩:=Au hk;have:=(EF.1 hs.ar i hi).1
  grind [Nh])
 have e1:PZ d.Store=d.Store.Vols.length+(d.Store.Arena.Knots.length+(d.Store.Arena.Knots.map Xm).sum):=rfl
 grind [OV]
theorem cI (h:IL d r):OV d<=1048576:=cH h.fl h.st
noncomputable def j9 (r:List Ak) (c:Int):ByteArray:=if 0<c then(B9 r c).getD (bs [])else bs []
noncomputable def Ze (r:List Ak) (p:Int×List Int):Ap:=Ap.mk p.1 ((List.range 16).map λk=>j9 r (p.2[k]?.getD 0))
noncomputable def bO (r:List Ak) (l:Vs):List Ap:=l.map (Ze r)
theorem f0 {v:Vol} (h:Jm d r) (hv:v∈d.Store.Vols) (hk:k<16):EN r d.Store v.Id (k:Int)=some (j9 r ((DW d.Store.Arena.Knots v.Root)[k]?.getD 0),true):=by
 have hg:=Js h.dev.st.asc hv
 grind [QR,j9]
theorem lA (h:Jm d r):Di d=some (bO r (AW d.Store))/\IQ d=some (bO r (AW d.Store)):=by
 have c:=h.dev.st.len;have hs:Di d=some (bO r<|AW d.Store):=by
  unfold Di;rw[h.dev.scan.s];simp only[Aa];obtain⟨b,h1,rfl⟩:=AG (body:=λs:List Ap×Int=>Cd d r s.1 s.2) (λ(o:List Ap) i=>(o,i)) d.Store.Vols.length (λi o=>o=bO r ((AW d.Store).take i)) (λo=>o=bO r (AW d.Store))
   (λo i hi ho=>by
    have hg:d.Store.Vols[i]?=some d.Store.Vols[i]:=Ab hi;simp only[Cd,FN hi,Ar,hg,Aa];have:=P7 (body:=λs:Int×List ByteArray=>CJ d r d.Store.Vols[i] s.1 s.2) (List.range 16) (λk=>j9 r<|(DW d.Store.Arena.Knots d.Store.Vols[i].Root)[k]?.getD 0)
     (λk x a hx ho=>by grind [f0,B5,ad1,CJ])
     (λa=>by rfl)
    grind [B5,ad1,Af,bO,AW,Ze])
   (λo ho=>⟨o,by simp[Fe,Cd],by grind [AY,AW]⟩) (s:=[]) rfl
  rw[h1];rfl
 obtain⟨m,m1,m2⟩:=QH d<|cI h.dev
 grind
theorem V9 {l:List Ap} (h:O4 l) {body:List Ap×Int->Option ((List Ap×Int)⊕List Ap)} (hb:∀o i,body (o,i)=bif decide (i<ln l)then((gi l i).bind λx=>(ap 16 [] x.Texts).bind λq1=>(ap 32 o [Ap.mk x.Vol q1]).bind λq2=>some (.inl (q2,ad i 1)))else some (.inr o)):Ai body ([],0)=some l:=by
 have h1:=h.1;obtain⟨b,h3,rfl⟩:=AG (body:=body) (λ(o:List Ap) i=>(o,i)) l.length (λi o=>o=l.take i) (λb=>b=l)
  (λo i hi ho=>by
   have hx:=Ab hi;have:=h.2 _<|A4 hi;rw[hb];simp only[FN hi,Ar,hx,Aa];rw[B5 (by simp;omega),Aa,Ao,B5 (by grind),Aa,ad1]
   exact .inl ⟨_,rfl,by rw[ho,Af hi]⟩)
  (λo ho=>⟨o,by simp_all [Fe],by grind⟩) (s:=[]) rfl
 exact h3
theorem iP {l:List Ap} (h:O4 l):Jn l=some l/\Ir l=some l:=by
 constructor
 ·grind [V9,Jn,Lu,gi]
 unfold Ir;rw[V9 h λo i=>rfl];rfl
def KC (M:List Ap) (s:Ap):List Ap:=(M.filter λx=>decide<|x.Vol<s.Vol)++ [s]++M.filter λx=>decide<|x.Vol>s.Vol
theorem nE (hM:M.length<=3) (p:Ap->Bool) (o:List Ap) (ho:o.length<=4) {body:List Ap×Int->Option ((List Ap×Int)⊕List Ap)} (hb:∀o i,body (o,i)=bif decide (i<ln M)then((gi M i).bind λx=>bif p x then((gi M i).bind λy=>(ap 32 o [y]).bind λq=>some (.inl (q,ad i 1)))else some (.inl (o,ad i 1)))else some (.inr o)):Ai body (o,0)=some (o++M.filter p):=by
 obtain⟨b,h3,rfl⟩:=AG (body:=body) (λ(q:List Ap) i=>(q,i)) M.length (λi q=>q=o++(M.take i).filter p) (λb=>b=o++M.filter p)
  (λq i hi hq=>by
   have hx:=Ab hi;have a:=Bz p<|M.take i;rw[Ev]at a;rw[hb];simp only[FN hi,Ar,hx,Aa]
   grind [Af,ad1,B5])
  (λq hq=>⟨q,by simp_all [Fe],by grind⟩) (s:=o) (by simp)
 exact h3
theorem nH (l:List α) (hk:k<=l.length):dr l 0 (k:Int)=some (l.take k):=by
 unfold dr
 grind
theorem qV (l:List α) (hk:k<=l.length):dr l (k:Int) (ln l)=some (l.drop k):=by grind [Bu,AY,dr]
theorem oY (h:code.length<=1048576):UB code=some false:=by grind [Bu,UB]
theorem Qh {body:Int->Option (Int⊕Unit⊕Bool)} (h1:∀i:Nat,i<n->body (i:Int)=some (.inl ((i+1:Nat):Int))) (h2:body (n:Int)=some (.inr (.inl ()))):Ai body 0=some (.inl ()):=by
 obtain⟨b,l1,rfl⟩:=AG (body:=body) (λ(_:Unit) i=>i) n (λ_ _=>True) (λb=>b= .inl ()) (λ_ i hi _=> .inl ⟨(),h1 i hi,trivial⟩) (λ_ _=>⟨_,h2,rfl⟩) (s:=()) trivial;exact l1
theorem Ss (l:List ByteArray) (h:l.length<=1048576):GG l l=some true:=by
 unfold GG
 rw[bne_self_eq_false,Ad,Qh (n:=l.length) (λi hi=>by
  simp only[Hg,FN hi,Ar,Ab hi,Aa,J4,decide_true,Ay,Ad]
  rw[ad1])<|by simp only[Hg,Fe]]
 rfl
def QC (M:List Ap):Prop:=(M.map Ap.Vol).Pairwise λx y=>x<y
theorem sG (hM:M.length<=100) (vol:Int):NL M vol=Lv M vol/\((Lv M vol=some (-1)/\∀x∈M,x.Vol≠vol)\/
  ∃k:Nat,∃x,Lv M vol=some (k:Int)/\M[k]?=some x/\x.Vol=vol):=by
 refine⟨rfl,?_⟩;unfold Lv;obtain⟨b,h1,h2⟩:=AG (body:=λs:Int=>J5 M vol s) (λ(_:Unit) i=>i) M.length (λi _=>∀j x,j<i->M[j]?=some x->x.Vol≠vol)
  (λb=>(b= .inl ()/\∀x∈M,x.Vol≠vol)\/∃k:Nat,∃x,b= .inr (k:Int)/\M[k]?=some x/\x.Vol=vol)
  (λ_ i hi hs=>by
   have hx:=Ab hi;simp only[J5,FN hi,Ar,hx,Aa];by_cases e:M[i].Vol=vol
   ·rw[show(M[i].Vol==vol)=true from HA.2 e];exact .inr ⟨_,rfl,.inr ⟨i,_,rfl,hx,e⟩⟩
   rw[show(M[i].Vol==vol)=false from beq_eq_false_iff_ne.2 e,Ad,ad1];refine .inl ⟨(),rfl,λj w hj hw=>?_⟩
   grind)
  (λ_ hs=>⟨_,by simp only[J5,Fe],.inl ⟨rfl,λx hx=>by
   obtain⟨j,hj,e⟩:=Au hx
   exact hs j x hj<|by grind⟩⟩) (s:=()) (λj w hj=>by omega)
 grind
def Qz (M:List Ap) (v:Int):Bool:=M.any λx=>x.Vol==v
def CS (M:List Ap) (q:Nx):List Ap:=if q.Kind=3 then(if Qz M q.Vol then M else KC M<|Ap.mk q.Vol<|List.replicate 16<|bs []) else if q.Kind=4 then(if Qz M q.Vol then M else match M.find? (λx=>x.Vol==q.Of)with|some o=>KC M (Ap.mk q.Vol o.Texts)|none=>M) else if q.Kind=5 then M.filter λx=>x.Vol !=q.Vol else if q.Kind=1\/q.Kind=2 then M.map λx=>if x.Vol=q.Vol then Ap.mk x.Vol (x.Texts.set q.Sector.toNat q.Text)else x else M
structure pE (M:List Ap):Prop where
 asc:QC M
 len:M.length<=4
 tx:∀x∈M,x.Texts.length<=16
theorem QC.eq {i:Nat} {x y:Ap} (h:QC M) (hi:M[i]?=some x) (hk:M[k]?=some y) (e:x.Vol=y.Vol):i=k:=by
 unfold QC at h;rw[JY,Dp]at h;obtain⟨a1,a2⟩:=Ae.1 hi;obtain⟨b1,b2⟩:=Ae.1 hk
 rcases OT i k with hl|hl|hl
 ·have:=h i k a1 b1 hl;rw[a2,b2]at this;omega
 ·exact hl
 have:=h k i b1 a1 hl;rw[a2,b2]at this;omega
theorem kI {x:Ap} (h:QC M) (hk:M[k]?=some x) (f:Ap->Ap):M.set k (f x)=M.map λy=>if y.Vol=x.Vol then f y else y:=by
 refine BB λi=>?_
 rw[Ka,He];by_cases e:k=i
 ·subst e;have:=(Ae.1 hk).1;rw[Bc rfl,Bc this,hk];simp
 rw[AA e]
 cases hi:M[i]? with
 |none=>rfl
 |some y=>
  have:y.Vol≠x.Vol:=λhh=>e<|h.eq hk hi hh.symm
  simp[this]
theorem iC {s:Ap} (h:QC M) (hn:∀x∈M,x.Vol≠s.Vol):QC (KC M s):=by
 unfold QC at h⊢;rw[JY]at h⊢;unfold KC;rw[AH,AH];refine⟨⟨h.filter _,Jw _ _,λa ha b hb=>?_⟩,h.filter _,λa ha b hb=>?_⟩
 ·grind
 grind
theorem PI {v:Int}:Qz M v=true↔∃x∈M,x.Vol=v:=by unfold Qz;simp
theorem Yn {s:Ap} (h:O4 M) (hM:M.length<=3) (hs:s.Texts.length<=16):O4 (KC M s)/\(KC M s).length<=7:=by
 have h1:=Bz (λx:Ap=>decide<|x.Vol<s.Vol) M;have h2:=Bz (λx:Ap=>decide<|x.Vol>s.Vol) M;have hl:(KC M s).length<=7:=by unfold KC;grind
 refine⟨⟨by omega,λx hx=>?_⟩,hl⟩;unfold KC at hx;simp only[Aq,Bs]at hx
 rcases hx with(hx|rfl)|hx
 ·exact h.2 x (AC.1 hx).1
 ·omega
 exact h.2 x (AC.1 hx).1
theorem qX {s:Ap} (h:O4 M) (hM:M.length<=3) (hs:s.Texts.length<=16) (a:∀x∈M,x.Vol≠s.Vol):MM M s=some (KC M s)/\IH M s=some (KC M s):=by
 have h1:=Bz (λx:Ap=>decide<|x.Vol<s.Vol) M;have h2:=Bz (λx:Ap=>decide<|x.Vol>s.Vol) M;constructor
 ·unfold MM;rw[nE hM (λx=>decide<|x.Vol<s.Vol) [] (by simp) λo i=>rfl,Aa,B5 (by simp;omega),Aa,Ao,nE hM (λx=>decide<|x.Vol>s.Vol) _ (by simp;omega) λo i=>rfl,Aa];have:=(iP (Yn h hM hs).1).1;unfold KC at this⊢;rw[this];rfl
 unfold IH;obtain⟨b,h3,rfl⟩:=AG (body:=λq:List Ap×List Ap×Int=>F8 M s q.1 q.2.1 q.2.2) (λ(q:List Ap×List Ap) i=>(q.1,q.2,i)) M.length (λi q=>q=((M.take i).filter λx=>decide<|x.Vol<s.Vol,(M.take i).filter λx=>decide<|x.Vol>s.Vol)) (λb=>b=(M.filter λx=>decide<|x.Vol<s.Vol,M.filter λx=>decide<|x.Vol>s.Vol))
  (λq i hi hq=>by
   have hx:=Ab hi;have hn:=a _<|A4 hi;have f1:=Bz (λx:Ap=>decide<|x.Vol<s.Vol)<|M.take i;have f2:=Bz (λx:Ap=>decide<|x.Vol>s.Vol)<|M.take i;rw[Ev]at f1 f2;subst hq;simp only[F8,FN hi,Ar,hx,Aa];rw[Af hi];simp only[Cr];by_cases e:M[i].Vol<s.Vol
   ·rw[Ac e,Ah,B5 (by grind),Aa,ad1]
    grind
   rw[Ag e,Ad,B5 (by grind),Aa,ad1]
   grind)
  (λq hq=>⟨_,by simp only[F8,Fe];rfl,by grind⟩) (s:=([],[])) (by simp)
 rw[h3];simp only[Aa];rw[B5 (by grind),Aa,B5<|by grind];rfl
theorem nG {v:Bool} {q:Nx} (h:pE M) (hv:Kn q=some v) (hl:M.length<=3\/Qz M q.Vol=true):N9 M q=some (if v=true then CS M q else M)/\La M q=some (if v=true then CS M q else M):=by
 have h0:=h.len;have l:O4 M:=⟨by omega,λx hx=>by have:=h.tx x hx;omega⟩;obtain⟨c1,c2⟩:=iP l;obtain⟨a1,a2⟩:=sG (M:=M) (by omega) q.Vol;unfold N9 La;rw[c1,c2,jL,hv,a1]
 cases v with
 |false=>
  rcases a2 with⟨a2,_⟩|⟨k,x,a2,_⟩<;>rw[a2]<;>exact⟨rfl,rfl⟩
 |true=>
  have a:pM q:=by
   obtain⟨w,b1,b2⟩:=NB q;rw[hv]at b1
   injection b1 with b1
   exact b2 b1.symm
  have r:=a.kind;simp only[Aa,Ay,Ad,Do]
  rcases a2 with⟨a2,hn⟩|⟨k,x,a2,hx,m⟩
  ·have b:Qz M q.Vol=false:=by
    rw[Bool.eq_false_iff];intro hh;obtain⟨x,x1,x2⟩:=PI.1 hh;exact hn x x1 x2
   have h3:M.length<=3:=hl.resolve_right (by rw[b];simp);rw[a2];simp only[Aa];rw[show decide ((-1:Int)<0)=true from rfl,show decide ((-1:Int)>=0)=false from rfl]
   have same:∀T:Ap->List ByteArray,(M.map λx=>if x.Vol=q.Vol then Ap.mk x.Vol (T x)else x)=M:=λT=>by
    rw[Ci (g:=id) λy hy=>by rw[AA<|hn y hy];rfl,Mn]
   rcases(by omega:q.Kind=1\/q.Kind=2\/q.Kind=3\/q.Kind=4\/q.Kind=5\/q.Kind=6)with e|e|e|e|e|e<;>rw[e]
   ·rw[show CS M q=M by unfold CS;rw[AA (by omega),AA (by omega),AA (by omega),Bc<|.inl e];exact same _];exact⟨rfl,rfl⟩
   ·rw[show CS M q=M by unfold CS;rw[AA (by omega),AA (by omega),AA (by omega),Bc<|.inr e];exact same _];exact⟨rfl,rfl⟩
   ·rw[show CS M q=KC M (Ap.mk q.Vol<|List.replicate 16<|bs []) by unfold CS;rw[Bc e,b];rfl];obtain⟨b1,b2⟩:=qX l h3 (s:=Ap.mk q.Vol<|List.replicate 16<|bs []) (by simp) hn;rw[show mk 16 (bs []) 16=some (List.replicate 16<|bs [])from rfl];simp only[Aa,beq_self_eq_true,Ah];rw[b1,b2];exact⟨rfl,rfl⟩
   ·obtain⟨u1,u2⟩:=sG (M:=M) (by omega) q.Of;rw[u1]
    rcases u2 with⟨u2,un⟩|⟨j,o,u2,uo,uv⟩
    ·rw[u2,show CS M q=M by
      unfold CS
      rw[AA (by omega),Bc e,b,AA (by simp),Oc.2 λy hy=>by simpa using un y hy]]
     exact⟨rfl,rfl⟩
    have hf:M.find? (λx=>x.Vol==q.Of)=some o:=by
     cases hf:M.find? (λx=>x.Vol==q.Of)with
     |none=>
      rw[Oc]at hf;exact absurd (HA.2 uv)<|hf o<|Am uo
     |some y=>
      have hy:=List.find?_some hf;obtain⟨i,hi⟩:=List.getElem?_of_mem<|EM hf;have:=h.asc.eq hi uo (by rw[uv];simpa using hy);subst this;rw[hi]at uo;exact uo
    rw[u2,show CS M q=KC M (Ap.mk q.Vol o.Texts) by
     unfold CS
     rw[AA (by omega),Bc e,b,AA (by simp),hf]]
    have ho:=h.tx o<|Am uo;obtain⟨b1,b2⟩:=qX l h3 (s:=Ap.mk q.Vol o.Texts) ho hn;simp only[Aa,Ah];rw[Ac (by omega:(j:Int)>=0),Ar,uo];simp only[Aa,Ah,Ad,show((4:Int)==3)=false from rfl,show((4:Int)==4)=true from rfl];rw[B5 (by simp;omega),b1];simp only[Aa,Ao];rw[b2];exact⟨rfl,rfl⟩
   ·rw[show CS M q=M by
     unfold CS
     rw[AA (by omega),AA (by omega),Bc e,Ee.2 λy hy=>by simpa using hn y hy]]
    exact⟨rfl,rfl⟩
   rw[show CS M q=M by unfold CS;rw[AA (by omega),AA (by omega),AA (by omega),AA<|by omega]];exact⟨rfl,rfl⟩
  have c:Qz M q.Vol=true:=PI.2 ⟨x,Am hx,m⟩;have hk:=(Ae.1 hx).1;rw[a2];simp only[Aa];rw[Ag (by omega:¬(k:Int)<0),Ac (by omega:(k:Int)>=0),Ar,hx]
  have d:∀(z:Int),(z=1\/z=2)->q.Kind=z->(if(q.Sector<ln x.Texts)then some (si M (k:Int)<|Ap.mk x.Vol<|si x.Texts q.Sector q.Text)else some M)=some (CS M q):=λz hz e=>by
   obtain⟨j,hj⟩:∃j:Nat,q.Sector=(j:Int):=⟨_,(AL a.sec.1).symm⟩;have hm:CS M q=M.set k (Ap.mk x.Vol<|x.Texts.set j q.Text):=by
    unfold CS;rw[AA (by omega),AA (by omega),AA (by omega),Bc (by omega),hj,DP,kI h.asc hx λy=>Ap.mk y.Vol<|y.Texts.set j q.Text,m]
   rw[hm,hj,Ea,Ea];split
   ·rfl
   rename_i hh;rw[Bu]at hh;have h5:x.Texts.set j q.Text=x.Texts:=List.set_eq_of_length_le (by omega);rw[h5];congr 1;refine(BB λi=>?_);rw[He];by_cases e:k=i
   ·subst e;rw[Bc rfl,Bc hk,hx]
   rw[AA e]
  have h1:=h.tx x<|Am hx
  have n:q.Sector<ln x.Texts->∃t,gi x.Texts q.Sector=some t:=λhh=>by
   obtain⟨j,hj⟩:∃j:Nat,q.Sector=(j:Int):=⟨_,(AL a.sec.1).symm⟩;rw[Bu]at hh;rw[hj,Ar];exact⟨_,Ab<|by omega⟩
  rcases(by omega:q.Kind=1\/q.Kind=2\/q.Kind=3\/q.Kind=4\/q.Kind=5\/q.Kind=6)with e|e|e|e|e|e
  ·rw[<-d 1 (.inl rfl) e,e];simp only[Aa,Ah,Ad,show((1:Int)==3)=false from rfl,show((1:Int)==4)=false from rfl,show((1:Int)==5)=false from rfl,show((1:Int)==1)=true from rfl];by_cases hh:q.Sector<ln x.Texts
   ·obtain⟨t,ht⟩:=n hh;rw[Ac hh,ht,Bc hh];exact⟨rfl,rfl⟩
   rw[Ag hh,AA hh];exact⟨rfl,rfl⟩
  ·rw[<-d 2 (.inr rfl) e,e];simp only[Aa,Ah,Ad,show((2:Int)==3)=false from rfl,show((2:Int)==4)=false from rfl,show((2:Int)==5)=false from rfl,show((2:Int)==1)=false from rfl,show((2:Int)==2)=true from rfl];by_cases hh:q.Sector<ln x.Texts
   ·obtain⟨t,ht⟩:=n hh;rw[Ac hh,ht,Bc hh];exact⟨rfl,rfl⟩
   rw[Ag hh,AA hh];exact⟨rfl,rfl⟩
  ·rw[show CS M q=M by unfold CS;rw[Bc e,c];rfl,e];exact⟨rfl,rfl⟩
  ·obtain⟨u1,u2⟩:=sG (M:=M) (by omega) q.Of;rw[show CS M q=M by unfold CS;rw[AA (by omega),Bc e,c];rfl,e,u1]
   rcases u2 with⟨u2,_⟩|⟨j,o,u2,_⟩<;>rw[u2]<;>exact⟨rfl,rfl⟩
  ·have p:CS M q=M.take k++M.drop (k+1):=by
    unfold CS;rw[AA (by omega),AA (by omega),Bc e,Or (f:=Ap.Vol) h.asc hx,m]
   have h2:(M.take k++M.drop (k+1)).length<=4:=by simp;omega
   have u:O4 (M.take k++M.drop (k+1)):=⟨by omega,λy hy=>by
    have:y∈M:=by
     rcases Aq.1 hy with hy|hy
     ·exact List.mem_of_mem_take hy
     exact List.mem_of_mem_drop hy
    have:=h.tx y this
    omega⟩
   rw[p,e,ad1,nH _ (by omega),qV _<|by omega];simp only[Aa,Ah,Ad,show((5:Int)==3)=false from rfl,show((5:Int)==4)=false from rfl,show((5:Int)==5)=true from rfl];rw[B5 (by simp;omega)];simp only[Aa,Ao];rw[B5 (by simp;omega)];simp only[Aa];rw[(iP u).1];exact⟨rfl,rfl⟩
  rw[show CS M q=M by unfold CS;rw[AA (by omega),AA (by omega),AA (by omega),AA<|by omega],e];exact⟨rfl,rfl⟩
theorem lB {q:Nx} (h:pE M) (h3:M.length<=3):pE (CS M q)/\((CS M q).length<=3\/Qz (CS M q) q.Vol=true)/\CS (CS M q) q=CS M q:=by
 have bW:∀T:List ByteArray,T.length<=16->Qz M q.Vol=false->pE (KC M<|Ap.mk q.Vol T)/\Qz (KC M<|Ap.mk q.Vol T) q.Vol=true:=λT hT hn=>by
  have c:∀x∈M,x.Vol≠q.Vol:=λx hx e=>by
   rw[PI.2 ⟨x,hx,e⟩]at hn;cases hn
  refine⟨⟨iC h.asc c,?_,λx hx=>?_⟩,PI.2 ⟨Ap.mk q.Vol T,by unfold KC;simp,rfl⟩⟩
  ·have d:∀l:List Ap,(l.filter λx=>decide<|x.Vol<q.Vol).length+(l.filter λx=>decide<|x.Vol>q.Vol).length<=l.length:=by
    intro l
    induction l with
    |nil=>simp
    |cons x l ih=>grind
   have:=d M;unfold KC;rw[A3,A3,Du];simp only;omega
  unfold KC at hx;simp only[Aq,Bs]at hx
  rcases hx with(hx|rfl)|hx
  ·exact h.tx x (AC.1 hx).1
  ·exact hT
  exact h.tx x (AC.1 hx).1
 by_cases e3:q.Kind=3
 ·cases hh:Qz M q.Vol with
  |true=>
   have:CS M q=M:=by unfold CS;rw[Bc e3,hh];rfl
   rw[this];exact⟨h,.inl h3,this⟩
  |false=>
   have:CS M q=KC M (Ap.mk q.Vol<|List.replicate 16<|bs []):=by unfold CS;rw[Bc e3,hh];rfl
   obtain⟨a,b⟩:=bW (List.replicate 16<|bs []) (by simp) hh;rw[this];exact⟨a,.inr b,by unfold CS;rw[Bc e3,b];rfl⟩
 by_cases e4:q.Kind=4
 ·cases hh:Qz M q.Vol with
  |true=>
   have:CS M q=M:=by unfold CS;rw[AA e3,Bc e4,hh];rfl
   rw[this];exact⟨h,.inl h3,this⟩
  |false=>
   cases hf:M.find? (λx=>x.Vol==q.Of)with
   |none=>
    have:CS M q=M:=by unfold CS;rw[AA e3,Bc e4,hh,hf];rfl
    rw[this];exact⟨h,.inl h3,this⟩
   |some o=>
    have:CS M q=KC M (Ap.mk q.Vol o.Texts):=by unfold CS;rw[AA e3,Bc e4,hh,hf];rfl
    obtain⟨a,b⟩:=bW o.Texts (h.tx o<|EM hf) hh;rw[this];exact⟨a,.inr b,by unfold CS;rw[AA e3,Bc e4,b];rfl⟩
 by_cases e5:q.Kind=5
 ·have:∀N,CS N q=N.filter λx=>x.Vol !=q.Vol:=λN=>by unfold CS;rw[AA e3,AA e4,Bc e5]
  rw[this,this,Dz];have:=Bz (λx:Ap=>x.Vol !=q.Vol) M;refine⟨⟨?_,by omega,λx hx=>h.tx x (AC.1 hx).1⟩,.inl (by omega),by simp⟩;have ha:=h.asc;unfold QC at ha⊢;rw[JY]at ha⊢;exact ha.filter _
 by_cases e12:q.Kind=1\/q.Kind=2
 ·have:∀N,CS N q=N.map λx=>if x.Vol=q.Vol then Ap.mk x.Vol (x.Texts.set q.Sector.toNat q.Text)else x:=λN=>by unfold CS;rw[AA e3,AA e4,AA e5,Bc e12]
  have hv:∀x:Ap,(if x.Vol=q.Vol then Ap.mk x.Vol (x.Texts.set q.Sector.toNat q.Text)else x).Vol=x.Vol:=λx=>by split<;>rfl
  rw[this,this,Ef];refine⟨⟨?_,by rw[Cf];exact h.len,λx hx=>?_⟩,.inl (by rw[Cf];exact h3),Ci λx hx=>?_⟩
  ·have ha:=h.asc;unfold QC at ha⊢;rw[Ef,show(M.map<|Ap.Vol∘λx=>if x.Vol=q.Vol then Ap.mk x.Vol (x.Texts.set q.Sector.toNat q.Text)else x)=M.map Ap.Vol from Ci λx _=>hv x];exact ha
  ·obtain⟨y,hy,rfl⟩:=Az.1 hx;have:=h.tx y hy;split<;>simpa using this
  simp only[Function.comp];by_cases e:x.Vol=q.Vol
  ·rw[Bc e,Bc e,List.set_set]
  rw[AA e,AA e]
 have:∀N,CS N q=N:=λN=>by unfold CS;rw[AA e3,AA e4,AA e5,AA e12]
 rw[this,this];exact⟨h,.inl h3,rfl⟩
theorem pH (n:Nat) (hn:n<=100) (x:Int):∃t,N4 (n:Int) x=some t:=by
 unfold N4;have hm:mk 1 (0:Int) (n:Int)=some (List.replicate n 0):=by
  unfold mk;rw[Bc<|by omega];simp
 rw[hm,Aa];obtain⟨b,h1,_⟩:=AG (body:=λs:List Int×Int=>Hl (n:Int) x s.1 s.2) (λ(o:List Int) i=>(o,i)) n (λ_ o=>o.length=n) (λ_=>True)
  (λo i hi ho=>by
   have hx:o[i]?=some o[i]:=Ab (by omega);simp only[Hl];rw[cT,Ar,hx,Aa,ad1,Ea]
   exact .inl ⟨_,rfl,by simpa using ho⟩)
  (λo _=>⟨o,by simp only[Hl];rw[cF],trivial⟩) (s:=List.replicate n 0) (by simp)
 rw[h1];exact⟨_,rfl⟩
theorem rG (h:FG c) (d:A0) (hv:d.Store.Vols.length<=3):∃q c',MO c d=some (q,c'):=by
 obtain⟨q,c1,e1,h1⟩:=pG h d hv;obtain⟨v,c2,e2,h2,_⟩:=Gx h1 12;unfold MO;rw[e1,Aa,e2];simp only[Aa]
 cases v==0 with
 |true=>
  obtain⟨u,c3,e3,h3,_⟩:=Gx h2 8;simp only[Ah];rw[e3];exact⟨_,_,rfl⟩
 |false=>
  cases v==1 with
  |true=>
   obtain⟨u,c3,e3,h3,_⟩:=Li h2 (l:=[0,9,10]) (by simp);simp only[Ah,Ad];rw[e3];exact⟨_,_,rfl⟩
  |false=>
   cases v==2 with
   |true=>
    obtain⟨u,c3,e3,h3,_⟩:=Li h2 (l:=[-1,15,16]) (by simp);simp only[Ah,Ad];rw[e3];exact⟨_,_,rfl⟩
   |false=>
    cases v==3 with
    |true=>
     obtain⟨u,c3,e3,h3,_⟩:=Li h2 (l:=[0,1,10]) (by simp);simp only[Ah,Ad];rw[e3];exact⟨_,_,rfl⟩
    |false=>
     cases v==4 with
     |true=>
      obtain⟨u,c3,e3,h3,u1⟩:=Ha h2 (n:=2) (by omega);obtain⟨t,ht⟩:=pH (64+u) (by omega) 65;simp only[Ah,Ad];rw[show((2:Nat):Int)=2 from rfl]at e3;rw[e3];simp only[Aa];rw[BN,show(64:Int)+(u:Int)=((64+u:Nat):Int) by omega,ht];exact⟨_,_,rfl⟩
     |false=>exact⟨_,_,rfl⟩
theorem oH (h:IL d r):pE (bO r (AW d.Store))/\(bO r (AW d.Store)).length<=3/\∀x∈bO r (AW d.Store),x.Texts.length=16:=by
 have hl:=h.st.len;have hM:(bO r<|AW d.Store).length=d.Store.Vols.length:=by unfold bO AW;simp
 have ht:∀x∈bO r (AW d.Store),x.Texts.length=16:=λx hx=>by
  obtain⟨p,_,rfl⟩:=Az.1 hx;simp[Ze]
 refine⟨⟨?_,by omega,λx hx=>by have:=ht x hx;omega⟩,by omega,ht⟩;have:=h.st.asc;unfold QC bO AW;simp only[Ef];exact this
theorem YP (hs:code.length<=1048576):∃M q,Ip code=some (M,q)/\pE M/\M.length<=3:=by
 obtain⟨c,c1,c2⟩:=rC hs;obtain⟨d,c',r,d1,d2,d3,_⟩:=Yi c2;obtain⟨m1,m2,m3⟩:=oH d3.dev;have a:=d3.dev.st.len;unfold Ip;rw[c1,Aa,d1];simp only[Aa];rw[(lA d3).1];simp only[Aa];generalize bO r (AW d.Store)=M at*;have j:∃b cc,FG cc/\(bif decide (ln M>0)then((Dy c' 12).bind λv4=>some (v4.1,v4.2.b_,v4.2.i_,v4.2.h_))else some (false,c'.b_,c'.i_,c'.h_):Option (Bool×List Int×Int×Int))=some (b,cc.b_,cc.i_,cc.h_)/\(b=true->0<M.length):=by
  by_cases h0:0<M.length
  ·obtain⟨b,cc,e1,e2⟩:=TM d2 12;rw[Bu,Ac (by omega),e1];exact⟨b,cc,e2,rfl,λ_=>h0⟩
  rw[Bu,Ag<|by omega];exact⟨false,c',d2,rfl,λe=>by cases e⟩
 obtain⟨b,cc,j1,j2,j3⟩:=j;rw[j2];simp only[Aa];obtain⟨q,c9,q1⟩:=rG j1 d a
 cases b with
 |false=>
  simp only[Ad];rw[show AT.mk cc.b_ cc.i_ cc.h_=cc from rfl,q1];exact⟨M,q,rfl,m1,m2⟩
 |true=>
  have h0:=j3 rfl;have hx:M[0]?=some M[0]:=Ab h0;have hg:gi M 0=some M[0]:=by rw[show(0:Int)=((0:Nat):Int)from rfl,Ar];exact hx
  have ht:=m3 _<|A4 h0;simp only[Ah];rw[hg];simp only[Aa];rw[show(3:Int)=((3:Nat):Int)from rfl,nH _<|by omega];simp only[Aa];rw[show AT.mk cc.b_ cc.i_ cc.h_=cc from rfl,q1];refine⟨_,q,rfl,?_,?_⟩
  ·rw[show(0:Int)=((0:Nat):Int)from rfl,Ea];refine⟨?_,by rw[List.length_set];omega,λx hx=>?_⟩
   ·have ha:=m1.asc;unfold QC at ha⊢;have:(M.set 0<|Ap.mk M[0].Vol<|M[0].Texts.take 3).map Ap.Vol=M.map Ap.Vol:=by
     rw[List.map_set]
     refine BB λi=>?_
     rw[He];by_cases e:0=i
     ·subst e;simp[h0]
     rw[AA e]
    rw[this];exact ha
   rcases BY hx with hx|rfl
   ·exact m1.tx x hx
   rw[Ev];omega
  rw[show(0:Int)=((0:Nat):Int)from rfl,Ea,List.length_set];exact m2
theorem Tr (hs:code.length<=1048576):Jy code=some true:=by
 obtain⟨M,q,d1,m1,m2⟩:=YP hs;obtain⟨v,v1,_⟩:=NB q;obtain⟨A,hA,a1,a2,a3⟩:∃A,A=(if v=true then CS M q else M)/\pE A/\(A.length<=3\/Qz A q.Vol=true)/\(if v=true then CS A q else A)=A:=by
  obtain⟨b1,b2,b3⟩:=lB (q:=q) m1 m2
  cases v with
  |false=>exact⟨M,rfl,m1,.inl m2,rfl⟩
  |true=>exact⟨CS M q,rfl,b1,b2,by rw[Bc rfl];exact b3⟩
 obtain⟨e1,e2⟩:=nG m1 v1<|.inl m2;obtain⟨_,e4⟩:=nG a1 v1 a2;rw[<-hA]at e1 e2;rw[a3]at e4;have hl:=a1.len
 have a:∀i (hi:i<A.length),gi A (i:Int)=some A[i]:=λi hi=>by rw[Ar];exact Ab hi
 have b:∀i (hi:i<A.length),GG A[i].Texts A[i].Texts=some true:=λi hi=>Ss _ (by have:=a1.tx _<|A4 hi;omega)
 unfold Jy;rw[oY hs];simp only[Aa,Ad];rw[d1];simp only[Aa];rw[e2,e1];simp only[Aa]
 rw[show(ln A !=ln A)=false by simp,Ad,Qh (n:=A.length) (λi hi=>by
   simp only[Ik,FN hi,a i hi,b i hi,Aa,Ay,Ad,bne_self_eq_false];by_cases h0:0<i
   ·have hb:gi A (sb (i:Int) 1)=some A[i-1]:=by
     rw[BH,show(i:Int)-1=((i-1:Nat):Int) by omega];exact a _ _
    have c:A[i-1].Vol<A[i].Vol:=by
     have:=a1.asc;unfold QC at this;rw[JY,Dp]at this;exact this (i-1) i (by omega) hi<|by omega
    rw[Ac (by omega:(i:Int)>0),hb];simp only[Aa,Ah];rw[Ag (by omega),Ad,ad1]
   rw[Ag (by omega:¬(i:Int)>0)];simp only[Aa,Ad]
   rw[ad1])<|by simp only[Ik,Fe]]
 simp only[Aa,Ic];rw[e4];simp only[Aa]
 rw[Qh (n:=A.length) (λi hi=>by
   simp only[Ij,FN hi,beq_self_eq_true,Aa,Ah,a i hi,b i hi,Ay,Ad]
   rw[ad1]) (by simp only[Ij,Fe];rfl)]
 simp
theorem fnModels_true (code:List Int) (hc:ol (oK .u8) code):Jy code=some true:=by
 by_cases h:code.length<=1048576
 ·exact Tr h
 unfold Jy UB;rw[Bu,Ac<|by omega];rfl
end Go.TI
