/- What is served is what is planned. No condition; no program is in sight. -/
import Derived.Test.YtiaanofedbfeeaaGreatSVP2
set_option linter.unusedVariables false
set_option linter.unusedSimpArgs false
namespace Go.TI
open Go
variable {r r' a:List Aq} {d e d':AA} {y:Aq} {n k m j:Nat} {c:BY} {g f:Flash} {s:Store} {P:Int->Prop} {T:List ByteArray} {b nx nx':Int} {l l':Vs} {p:Page} {x:Cz} {nd:List Bool} {ps:List Page} {K:Ks} {code:List Int}
theorem ZJ (hf:BD f) (ps:List Page) (rt:Bool) (c:ps.length<=9) (a:List Page) (ss0:List Bc) (g0:Flash) (ok0:Bool) (h0:ok0=true->Jo f ss0 a g0/\BD g0/\ss0.length<=1):
  ∃ss ok,Ap (λs:List Bc×Bool×Int×List Block=>Cc (ps,rt) s.1 s.2.1 s.2.2.1 s.2.2.2) (ss0,ok0,0,g0.Blocks)=some (ss,ok)/\(ok=true->ok0=true/\∃g,Jo f ss (a++ps) g/\BD g/\∀p∈ps,J5 p):=by
 obtain⟨b,h1,h2⟩:=AP (body:=λs:List Bc×Bool×Int×List Block=>Cc (ps,rt) s.1 s.2.1 s.2.2.1 s.2.2.2) (λ(o:List Bc×Bool×List Block) i=>(o.1,o.2.1,i,o.2.2)) ps.length
  (λi o=>o.2.1=true->ok0=true/\Jo f o.1 (a++ps.take i) (Flash.mk o.2.2)/\BD (Flash.mk o.2.2)/\o.1.length<=i+1/\∀p∈ps.take i,J5 p)
  (λb=>b.2=true->ok0=true/\∃g,Jo f b.1 (a++ps) g/\BD g/\∀p∈ps,J5 p)
  (λo i hi hs=>by
   obtain⟨ss,ok,bl⟩:=o;have hx:=Ab hi;simp only[Cc,KH,Ad hi,Ae,Aa]
   cases ok with
   |false=>
    simp only[Ac];exact .inr ⟨_,rfl,λhh=>by cases hh⟩
   |true=>
    obtain⟨k0,k1,k2,k3,k4⟩:=hs rfl;simp only at k1 k2 k3;simp only[Ae,Aw,hx,Aa];refine .inl ?_
    rcases zP k2 k1 (by omega) ps[i]with⟨s,g',q1,q2,q3,q4,_⟩|q
    ·rw[q1];simp only[Aa];rw[ad1];refine⟨(ss++ [s],true,g'.Blocks),rfl,λ_=>⟨k0,?_,q3,by simp;omega,λp hp=>?_⟩⟩
     ·rw[Ao hi,<-Ax];exact q2
     rw[Ao hi,Ak,AE]at hp
     rcases hp with hp|rfl
     ·exact k4 p hp
     exact q4
    rw[q];simp only[Aa];rw[ad1]
    exact⟨(ss,false,bl),rfl,λhh=>by cases hh⟩)
  (λo hs=>⟨(o.1,o.2.1),by simp only[Cc,KH,FH,LQ,Ac,Aa],λhh=>by
   obtain⟨k0,k1,k2,_,k4⟩:=hs hh;rw[AW]at k1 k4
   exact⟨k0,_,k1,k2,k4⟩⟩) (s:=(ss0,ok0,g0.Blocks)) (λhh=>by
    obtain⟨a1,a2,a3⟩:=h0 hh
    exact⟨hh,by rw[Jj,A3];exact a1,a2,by simpa using a3,λp hp=>by simp at hp⟩)
 exact⟨b.1,b.2,h1,h2⟩
def Dm (d:AA) (c:Int) (a:ByteArray):List Page:=if L a=[]then []else [Page.mk 1 d.Seq c 0 1 a]
def Jr (d:AA) (a:ByteArray):Int:=if L a=[]then d.Seq else d.Seq+1
theorem Rk (hf:BD d.Flash) (k:0<=d.Seq/\d.Seq<=1000000001) (b:List Cz) (i:b≠ []) (hr:b.length<=1000) (j:∀r∈b,GJ r=true) (a:ByteArray):
  DO d b a=some ([],false)\/∃steps T g c,b[b.length-1]?=some c/\DO d b a=some (steps,true)/\1<=T.length/\T.length<=9/\Ps T=Hk b/\(∀t∈T,(L t).length<=90)/\
   Jo d.Flash steps (Dm d c.Chunk a++Cq (Jr d a) d.Tx T) g/\BD g/\∀p∈Dm d c.Chunk a++Cq (Jr d a) d.Tx T,J5 p:=by
 have l:0<b.length:=MU.2 i;obtain⟨c,h⟩:∃c,b[b.length-1]?=some c:=⟨_,Ab<|by omega⟩;unfold DO;rw[show(ln b==0)=false by rw[Dh,Bz];omega];simp only[Ac];have first:∃ss0 g0 ok0,(cond (!(seq a<|bs [])) (((gi b<|sb (ln b) 1).bind λx1=>(DW d.Flash []<|Page.mk 1 d.Seq x1.Chunk 0 1 a).bind λv1=>some (v1.2.1,v1.2.2,v1.1.Blocks):Option (List Bc×Bool×List Block)).bind λj2=>some (j2.1,ad d.Seq 1,j2.2.1,j2.2.2)) (some ([],d.Seq,true,d.Flash.Blocks)):Option (List Bc×Int×Bool×List Block))=some (ss0,Jr d a,ok0,Flash.Blocks g0)/\(ok0=true->Jo d.Flash ss0 (Dm d c.Chunk a) g0/\BD g0/\ss0.length<=1/\∀p∈Dm d c.Chunk a,J5 p):=by
  by_cases ht:L a=[]
  ·have:seq a (bs [])=true:=by rw[Jq,A6];exact Lg (by rw[ht,EU])
   rw[this];refine⟨[],d.Flash,true,?_,λ_=>⟨?_,hf,by simp,?_⟩⟩
   ·unfold Jr;rw[Az ht];rfl
   ·unfold Dm;rw[Az ht];rfl
   unfold Dm;rw[Az ht];intro p hp;cases hp
  have:seq a (bs [])=false:=by
   rw[Jq,DH];intro e;exact ht<|by rw[e,EU]
  rw[this];simp only[AD,Ae];rw[Bz,Cm,show(b.length:Int)-1=((b.length-1:Nat):Int) by omega,Aw,h,Aa,Cy];have e1:Jr d a=d.Seq+1:=by unfold Jr;rw[Av ht]
  have e2:Dm d c.Chunk a=[Page.mk 1 d.Seq c.Chunk 0 1 a]:=by unfold Dm;rw[Av ht]
  rw[e1,e2]
  rcases zP (f:=d.Flash) (ss:=[]) (ps:=[]) hf rfl (by simp) (Page.mk 1 d.Seq c.Chunk 0 1 a)with⟨s,g',q1,q2,q3,q4,_⟩|q
  ·rw[q1];refine⟨_,g',true,rfl,λ_=>⟨q2,q3,by simp,λp hp=>?_⟩⟩;rw[AE]at hp;rw[hp];exact q4
  rw[q];exact⟨_,d.Flash,false,rfl,λhh=>by cases hh⟩
 obtain⟨ss0,g0,ok0,e0,h0⟩:=first
 rw[e0];simp only[Aa];obtain⟨T,t1,t2,t3,_,t4⟩:=wZ (Jr d a) d.Tx b hr j
 rcases t4 with⟨t4,t5,t6,t7,t8,t9⟩|⟨t4,_⟩
 ·rw[t4];simp only[Aa];obtain⟨ss,ok,q1,q2⟩:=ZJ hf (Cq (Jr d a) d.Tx T) true (by unfold Cq;rw[TG];exact t5) (Dm d c.Chunk a) ss0 g0 ok0 λhh=>⟨(h0 hh).1,(h0 hh).2.1,(h0 hh).2.2.1⟩;rw[q1];simp only[Aa]
  cases ok with
  |false=>exact .inl rfl
  |true=>
   obtain⟨k0,g,k1,k2,k3⟩:=q2 rfl;refine .inr ⟨ss,T,g,c,h,rfl,t1,t5,t2,t3,k1,k2,λp hp=>?_⟩
   rcases Ak.1 hp with hp|hp
   ·exact(h0 k0).2.2.2 p hp
   exact k3 p hp
 rw[t4];simp only[Aa];obtain⟨ss,ok,q1,q2⟩:=ZJ hf [] false (by simp) (Dm d c.Chunk a) ss0 g0 ok0 λhh=>⟨(h0 hh).1,(h0 hh).2.1,(h0 hh).2.2.1⟩;rw[q1];simp only[Aa];cases ok<;>exact .inl rfl
def KG (r:List Aq) (c:Int):Option Aq:=(r.filter<|Jb c).getLast?
noncomputable def T7 (t:ByteArray):Option ByteArray:=match Gr t with
 |some (s,true)=>some s
 |_=>none
noncomputable def C4 (r:List Aq) (c:Int):Option ByteArray:=(KG r c).bind λy=>T7 y.Page.Text
theorem Sm {c:Int}:Jb c y=true↔y.Page.Kind=1/\y.Page.Tx=c:=by
 unfold Jb;rw[Aj,Ce,Ce]
theorem VM {c:Int} (h:KG r c=some y):y∈r/\y.Page.Kind=1/\y.Page.Tx=c:=by
 have:=List.mem_of_getLast? h;rw[Bf,Sm]at this;exact this
theorem ME (r:List Aq) (y:Aq) (c:Int):KG (r++ [y]) c=if y.Page.Kind=1/\y.Page.Tx=c then some y else KG r c:=by
 unfold KG;rw[AN];by_cases e:y.Page.Kind=1/\y.Page.Tx=c
 ·rw[Az e,CM<|Sm.2 e,JS,HU]
 rw[Av e,DI λhh=>e<|Sm.1 hh,JS,A3]
theorem fY (r m:List Aq) (h:∀y∈m,y.Page.Kind≠1) (c:Int):KG (r++m) c=KG r c:=by
 unfold KG;rw[AN,Bq.2 λy hy hh=>h y hy (Sm.1 hh).1,A3]
theorem aT {α:Type} {y:α} (l:List α) (p:α->Bool) (h:l.getLast? =some y) (hp:p y=true):(l.filter p).getLast? =some y:=by
 rcases Hr l with e|⟨m,x,e⟩
 ·rw[e]at h;cases h
 rw[Hs]at e;rw[e,HU]at h
 injection h with h
 subst h;rw[e,AN,CM hp,JS,HU]
theorem nM {c:Int} (p:Aq->Bool) (h:KG r c=some y) (hp:p y=true):KG (r.filter p) c=some y:=by
 unfold KG at h⊢;rw[E6];have:r.filter (λa=>Jb c a&&p a)=(r.filter<|Jb c).filter p:=by
  rw[E6];congr 1;funext a;exact Bool.and_comm _ _
 rw[this];exact aT _ p h hp
theorem ZP {c:Int} {o:Option Nat} (h:Ru c r r.length o):KG r c=o.bind λj=>r[j]? :=by
 cases o with
 |none=>
  unfold KG;have:r.filter (Jb c)=[]:=by
   rw[Bq];intro y hy;obtain⟨j,hj,rfl⟩:=AC hy;have:=h j r[j] hj<|Ab hj;rw[this];simp
  rw[this];rfl
 |some j=>
  obtain⟨h1,⟨y,h2,h3⟩,h4⟩:=h;simp only[Aa,h2];unfold KG;obtain⟨e1,e2⟩:=JO h2;rw[e1,AN,CM h3];have:(r.drop<|j+1).filter (Jb c)=[]:=by
   rw[Bq];intro z hz;obtain⟨k,hk,rfl⟩:=AC hz;rw[Cb]at hk;rw[UY];have:=h4 (j+1+k) _ (by omega) (by omega) (Ab<|by omega);rw[this];simp
  rw[this,HU]
theorem qN (hr:r.length<=1048576) (c:Int):∃y ok,Mt r c=some (y,ok)/\KG r c=(if ok=true then some y else none):=by
 obtain⟨o,h1,h2⟩:=fX r hr c;have h3:=ZP h2
 cases o with
 |none=>exact⟨_,false,h1,h3⟩
 |some j=>
  obtain⟨_,⟨y,k1,_⟩,_⟩:=h2;refine⟨y,true,?_,by rw[h3];simp only[Aa,k1];rfl⟩;rw[h1];simp only[KZ,k1,Bi];rfl
theorem mQ (hr:GF r) (c:Int):∃u ok,Lz r c=some (u,ok)/\C4 r c=(if ok=true then some u else none):=by
 obtain⟨y,ok,h1,h2⟩:=qN hr.len c;unfold Lz C4;rw[h1,h2]
 cases ok with
 |false=>exact⟨_,_,rfl,rfl⟩
 |true=>
  have hy:=(VM (by rw[h2];rfl)).1;obtain⟨u,ok2,k1,_,_⟩:=TZ y.Page.Text (by have:=hr.text y hy;omega);simp only[Aa,Ah,Ac,BO];rw[k1];unfold T7;rw[k1]
  cases ok2 with
  |false=>exact⟨_,_,rfl,rfl⟩
  |true=>exact⟨_,_,rfl,rfl⟩
structure JG (r:List Aq):Prop where
 pages:GF r
 inc:r.Pairwise λx y=>x.Page.Seq<y.Page.Seq
 mu:pH r
def E5 (l:Vs) (c:Int):Prop:=0<c/\∃p∈l,c∈p.2
structure Hd (r:List Aq) (P:Int->Prop):Prop where
 data:∀c,P c->∃s,C4 r c=some s
 dist:∀c c',P c->P c'->C4 r c=C4 r c'->c=c'
theorem Hd.mono {Q:Int->Prop} (h:Hd r P) (hq:∀c,Q c->P c):Hd r Q:=⟨λc hc=>h.data c<|hq c hc,λc c' hc hc'=>h.dist c c' (hq c hc)<|hq c' hc'⟩
theorem Hd.congr (h:Hd r P) (he:∀c,P c->C4 r' c=C4 r c):Hd r' P:=⟨λc hc=>by rw[he c hc];exact h.data c hc,λc c' hc hc' e=>h.dist c c' hc hc' (by rw[<-he c hc,<-he c' hc'];exact e)⟩
theorem Hd.metas {m:List Aq} (h:Hd r P) (hm:∀y∈m,y.Page.Kind≠1):Hd (r++m) P:=h.congr λc _=>by unfold C4;rw[fY r m hm]
theorem pO (h:Hd r P) (hy:¬P y.Page.Tx):Hd (r++ [y]) P:=h.congr λc hc=>by
 unfold C4;rw[ME,Av λhh=>hy (by rw[hh.2];exact hc)]
theorem pP (h:Hd r P) (hy:T7 y.Page.Text=C4 r y.Page.Tx):Hd (r++ [y]) P:=h.congr λc hc=>by
 by_cases e:y.Page.Kind=1/\y.Page.Tx=c
 ·have:C4 (r++ [y]) c=T7 y.Page.Text:=by unfold C4;rw[ME,Az e];rfl
  rw[this,hy,e.2]
 unfold C4;rw[ME,Av e]
theorem xO {s:ByteArray} (h:Hd r P) (hk:y.Page.Kind=1) (hn:¬P y.Page.Tx) (ht:T7 y.Page.Text=some s) (hs:∀c,P c->C4 r c≠some s):Hd (r++ [y]) (λc=>P c\/c=y.Page.Tx):=by
 have b:C4 (r++ [y]) y.Page.Tx=some s:=by unfold C4;rw[ME,Az ⟨hk,rfl⟩];exact ht
 have a:∀c,P c->C4 (r++ [y]) c=C4 r c:=λc hc=>by unfold C4;rw[ME,Av λhh=>hn (by rw[hh.2];exact hc)]
 refine⟨λc hc=>?_,λc c' hc hc' e=>?_⟩
 ·rcases hc with hc|rfl
  ·rw[a c hc];exact h.data c hc
  exact⟨s,b⟩
 rcases hc with hc|rfl<;>rcases hc' with hc'|rfl
 ·exact h.dist c c' hc hc' (by rw[<-a c hc,<-a c' hc'];exact e)
 ·rw[a c hc,b]at e;exact absurd e<|hs c hc
 ·rw[a c' hc',b]at e;exact absurd e.symm<|hs c' hc'
 rfl
theorem JG.filter (h:JG r) (p:Aq->Bool):JG (r.filter p):=by
 refine⟨⟨by have:=CK p r;have:=h.pages.len;omega,λy hy=>h.pages.text y (Bf.1 hy).1,λy hy=>h.pages.seq y (Bf.1 hy).1,λy hy=>h.pages.tx y (Bf.1 hy).1,λy hy=>h.pages.cnt y (Bf.1 hy).1,λy hy=>h.pages.part y (Bf.1 hy).1⟩,h.inc.filter _,⟨λy hy z hz=>h.mu.uniq y (Bf.1 hy).1 z (Bf.1 hz).1⟩⟩
theorem JG.add (h:JG r) (hl:r.length<=1000000) (hb:J5 y.Page) (hs:Db r<=y.Page.Seq) (hm:y.Page.Kind=2->∀z∈r,z.Page.Kind=2->z.Page.Tx=y.Page.Tx->z.Page.Part≠y.Page.Part):JG (r++ [y]):=by
 obtain⟨b1,b2,b3,b4,b5,b6,b7⟩:=hb
 have all:∀{P:Aq->Prop},(∀z∈r,P z)->P y->∀z∈r++ [y],P z:=λh1 h2 z hz=>by
  rw[Ak,AE]at hz
  rcases hz with hz|rfl
  ·exact h1 z hz
  exact h2
 refine⟨⟨by simp;omega,all h.pages.text b6,all h.pages.seq b2,all h.pages.tx b3,all h.pages.cnt b4,all h.pages.part b5⟩,?_,⟨λu hu v hv k1 k2 e1 e2=>?_⟩⟩
 ·rw[AQ];refine⟨h.inc,Jk _ _,λu hu v hv=>?_⟩;rw[AE]at hv;rw[hv];have:=(NS r).1 u hu;omega
 rw[Ak,AE]at hu hv
 rcases hu with hu|rfl<;>rcases hv with hv|rfl
 ·exact h.mu.uniq u hu v hv k1 k2 e1 e2
 ·exact absurd e2<|hm k2 u hu k1 e1
 ·exact absurd e2.symm<|hm k1 v hv k2 e1.symm
 rfl
theorem fB (h:Db r<=y.Page.Seq):Db (r++ [y])=y.Page.Seq+1:=by rw[Y4,Az h]
theorem JG.metas {t:Int} (h:JG r) (ht:∀y∈r,y.Page.Kind=2->y.Page.Tx<t):∀(m:List Aq) (k:Nat),r.length+m.length<=1000000->(∀(i:Nat) y,m[i]?=some y->y.Page.Kind=2/\y.Page.Tx=t/\y.Page.Part=i/\y.Page.Seq=Db r+i/\J5 y.Page)->k<=m.length->JG (r++m.take k)/\Db (r++m.take k)=Db r+k
 |m,0,_,_,_=>by simpa using h
 |m,k+1,hl,hm,hk=>by
  obtain⟨ih1,ih2⟩:=JG.metas h ht m k hl hm (by omega);have hx:m[k]?=some m[k]:=Ab (by omega);obtain⟨k1,k2,k3,k4,k5⟩:=hm k _ hx;rw[Ao (by omega),<-Ax];refine⟨JG.add ih1 (by simp;omega) k5 (by rw[ih2,k4];omega) λ_ z hz a b=>?_,?_⟩
  ·rcases Ak.1 hz with hz|hz
   ·have:=ht z hz a;omega
   obtain⟨j,hj,rfl⟩:=AC hz;rw[AU]at hj;rw[HV];obtain⟨_,_,q3,_⟩:=hm j _ (Ab<|by omega);omega
  rw[fB (by rw[ih2,k4];omega),k4];omega
theorem uC (i:Int):∀(k:Int) (l:List Leaf),(XE i k l).length<=l.length
 |_,[]=>Au _
 |k,x::l=>by
  rw[XE,Ai,A7];have:=uC i (k+1) l;have:(pg i k x).length<=1:=by
   unfold pg;split
   ·split<;>simp
   simp
  omega
theorem jL:∀(i:Int) (l:List Block),(KE i l).length<=nl l
 |_,[]=>Au _
 |i,b::l=>by
  rw[KE,Ai];have:=jL (i+1) l;have:=uC i 0 b.Leaves;unfold nl at*;rw[BJ,FI];omega
theorem ADD (hf:BD f) (h:SR (KE 0 f.Blocks) r):r.length<=40:=by
 have h1:=jL 0 f.Blocks;have h2:=hf.few;have h3:=h.2.len;omega
theorem LO:∀{ss:List Bc} {ps:List Page} {i:Nat} {y:Aq},(Ck ss ps)[i]?=some y->ps[i]?=some y.Page
 |[],_,i,y,h=>by simp[Ck]at h
 |s::ss,[],i,y,h=>by simp[Ck]at h
 |s::ss,p::ps,0,y,h=>by
  simp only[Ck,List.zipWith_cons_cons,EA,Al]at h;rw[<-h];rfl
 |s::ss,p::ps,i+1,y,h=>by
  simp only[Ck,List.zipWith_cons_cons,List.getElem?_cons_succ]at h⊢;exact LO h
theorem UJ {ss:List Bc} (h:ss.length=ps.length):(Ck ss ps).length=ps.length:=by unfold Ck;rw[List.length_zipWith];omega
theorem XN (ss:List Bc) (ps:List Page) (k:Nat):Ck (ss.take k) (ps.take k)=(Ck ss ps).take k:=by unfold Ck;rw[List.take_zipWith]
theorem oW:∀(T:List ByteArray),(∀t∈T,(L t).length<=90)->(Ps T).length<=90*T.length
 |[],_=>by simp[Ps]
 |t::T,h=>by
  have:=oW T (λx hx=>h x<|by simp[hx]);have:=h t (by simp);simp only[Ps,Kv,Ai,A7]at*;omega
theorem f0 {r1 m:List Aq} (h:JG r1) (hl:r1.length<=1000) {a:List Cz} (g:1<=T.length) (j:T.length<=9) (c:∀t∈T,(L t).length<=90) (d:Ps T=Hk a) (l:∀r∈a,GJ r=true) (hm:∀(i:Nat) y,m[i]?=some y->(Cq (Db r1) (DC r1) T)[i]?=some y.Page) (o:m.length=T.length) (n:∀p∈Cq (Db r1) (DC r1) T,J5 p) (k:Nat) (hk:k<=T.length):
  JG (r1++m.take k)/\(∀y∈m.take k,y.Page.Kind≠1)/\(k<T.length->Br (r1++m.take k)=Br r1)/\(k=T.length->∃q,Br (r1++m.take k)=Br r1++ [Tx.mk (DC r1) q a]):=by
 have e:∀(i:Nat) y,m[i]?=some y->∃t,T[i]?=some t/\y.Page=Page.mk 2 (Db r1+i) (DC r1) i T.length t:=by
  intro i y hy;have:=hm i y hy;unfold Cq at this;rw[Lk]at this;obtain⟨t,h1,h2⟩:=AL.1 this;exact⟨t,h1,h2.symm⟩
 have b:=Zc r1
 obtain⟨c1,_⟩:=JG.metas h b.1 m k (by omega) (λi y hy=>by
  obtain⟨t,_,h2⟩:=e i y hy;have hb:=n y.Page<|Ar<|hm i y hy;rw[h2]at hb⊢
  exact⟨rfl,rfl,rfl,rfl,hb⟩)<|by omega
 have hN:g8 (m.take k) (DC r1) T.length T:=by
  refine⟨by rw[AU];omega,⟨g,j⟩,rfl,λi y hy=>?_⟩;have f:=(Ag.1 hy).1;rw[AU]at f;rw[List.getElem?_take_of_lt<|by omega]at hy;obtain⟨t,h1,h2⟩:=e i y hy;rw[h2];exact⟨rfl,rfl,rfl,rfl,h1⟩
 obtain⟨g1,g2⟩:=rP r1 (λy hy=>(h.pages.tx y hy).1) b.1 b.2.1 hN;refine⟨c1,λy hy=>by rw[(hN.all hy).1];omega,λhh=>g1 (by rw[AU];omega),λhh=>g2 (by rw[AU];omega) a ?_⟩;rw[d];refine qO l ?_;have:=oW T c;rw[d]at this;omega
structure JT (d:AA) (r:List Aq):Prop where
 dev:HD d r
 core:JG r
 data:Hd r (E5 (By d.Store))
theorem JT.few (h:JT d r):r.length<=40:=ADD h.dev.fl h.dev.sr
theorem La (hg:BD g) (a:SR (KE 0 g.Blocks) r):∃d,CR g=some (d,true)/\HD d r/\d.Flash=g:=by
 obtain⟨d,r',h1,h2,h3⟩:=V8 hg;have:r'=r:=by
  have h4:=h2.sr;rw[h3]at h4;exact h4.uniq a
 subst this;exact⟨d,h1,h2,h3⟩
theorem TX (seq tx:Int) (T:List ByteArray):G3 seq (Cq seq tx T):=by
 have a:∀(l:List ByteArray) (i:Nat) (n:Int),n<=seq+i->G3 n (l.mapIdx λj t=>Page.mk 2 (seq+(i+j:Nat)) tx (i+j:Nat) T.length t):=by
  intro l
  induction l with
  |nil=>intro i n _;trivial
  |cons x l ih=>
   intro i n hn;rw[List.mapIdx_cons];refine⟨by simpa using hn,?_⟩;have:=ih (i+1) (seq+(i:Int)+1) (by omega);simp only[HT]
   have e:(λj t=>Page.mk 2 (seq+((i+1+j:Nat):Int)) tx ((i+1+j:Nat):Int) T.length t)=λj (t:ByteArray)=>Page.mk 2 (seq+((i+(j+1):Nat):Int)) tx ((i+(j+1):Nat):Int) T.length t:=by
    funext j t;rw[show i+1+j=i+(j+1) by omega]
   rw[e]at this;exact this
 have:=a T 0 seq (by omega);unfold Cq;simpa using this
theorem r7 (c:Int) (a:ByteArray) (tx:Int) (T:List ByteArray):G3 d.Seq (Dm d c a++Cq (Jr d a) tx T):=by
 unfold Dm Jr;by_cases e:L a=[]
 ·rw[Az e,Az e,A4];exact TX _ _ _
 rw[Av e,Av e];exact⟨GO _,TX _ _ _⟩
theorem MC (ss:List Bc) (ps:List Page) (k:Nat):∀y∈(Ck ss ps).take k,y.Page∈ps:=by
 intro y hy;obtain⟨i,hi,rfl⟩:=AC<|List.mem_of_mem_take hy;exact Ar<|LO<|Ab hi
def GP (f:Flash) (n:Int):Prop:=∀b∈f.Blocks,b.Wear<=n
theorem tF {l:List Block} {n:Int} {x:Block} (h:∀y∈l,y.Wear<=n) (hx:x.Wear<=n):∀y∈si l b x,y.Wear<=n:=by
 intro y hy;by_cases e:0<=b
 ·obtain⟨c,rfl⟩:∃c:Nat,b=(c:Int):=⟨_,(Bk e).symm⟩;rw[EX]at hy
  rcases C3 hy with hy|rfl
  ·exact h y hy
  exact hx
 unfold si at hy
 first
  |(rw[Av<|by omega]at hy;exact h y hy)
  |(
   rcases C3 hy with hy|rfl
   ·exact h y hy
   exact hx)
theorem eY {s:Bc} {n m:Int} (h:GP f n) (hm:n<=m) (hs:s.Kind=1\/n+1<=m):GP (Lm f s) m:=by
 have h0:∀y∈f.Blocks,y.Wear<=m:=λy hy=>by have:=h y hy;omega
 unfold Lm VH Vc GP;by_cases e:s.Kind=1
 ·rw[Az e]
  cases hg:gi f.Blocks s.Block with
  |none=>exact h0
  |some x=>exact tF h0<|h0 x<|Ar (Da hg).2
 rw[Av e]
 cases hg:gi f.Blocks s.Block with
 |none=>exact h0
 |some x=>exact tF h0 (by have:=h x<|Ar (Da hg).2;show x.Wear+1<=m;omega)
theorem UP {n:Int}:∀{f:Flash} {ss:List Bc} {ps:List Page} {g:Flash},Jo f ss ps g->GP f n->GP g n
 |f,[],[],g,h,hw=>by rw[show g=f from h];exact hw
 |f,s::ss,p::ps,g,h,hw=>UP h.2.2.2 (eY hw (GO _) (.inl h.1))
 |f,[],q::ps,g,h,_=>h.elim
 |f,s::ss,[],g,h,_=>h.elim
theorem Rm:∀{f:Flash} {ss:List Bc} {ps:List Page} {g:Flash},Jo f ss ps g->∀s∈ss,s.Kind=1
 |f,[],[],g,h,s,hs=>by cases hs
 |f,s::ss,p::ps,g,h,x,hs=>by
  rcases CO.1 hs with rfl|hs
  ·exact h.1
  exact Rm h.2.2.2 x hs
 |f,[],q::ps,g,h,_,_=>h.elim
 |f,s::ss,[],g,h,_,_=>h.elim
def YW (f g:Flash):Prop:=∀n,GP f n->GP g n
theorem Wz (h:JT d r) {o:List Cz} (x:∀r∈o,GJ r=true) {a:ByteArray} {b:Cz} {steps:List Bc} (z:1<=T.length) (h0:T.length<=9) (h1:Ps T=Hk o) (w:∀t∈T,(L t).length<=90) (hp:Jo d.Flash steps (Dm d b.Chunk a++Cq (Jr d a) d.Tx T) g) (l:∀p∈Dm d b.Chunk a++Cq (Jr d a) d.Tx T,J5 p) (h2:L a≠ []->¬E5 (By d.Store) b.Chunk) (k:Nat) (hk:k<=steps.length):
  ∃m d' r',Steps d.Flash (steps.take k) m/\BD m/\CR m=some (d',true)/\HD d' r'/\d'.Flash=m/\r'=r++(Ck steps (Dm d b.Chunk a++Cq (Jr d a) d.Tx T)).take k/\YW d.Flash m/\JG r'/\Hd r' (E5 (By d.Store))/\
   (k<steps.length->Br r'=Br r)/\(k=steps.length->(∃q,Br r'=Br r++ [Tx.mk d.Tx q o])/\∀s,T7 a=some s->L a≠ []->(∀c,E5 (By d.Store) c->C4 r c≠some s)->Hd r' (λc=>E5 (By d.Store) c\/c=b.Chunk)):=by
 obtain⟨a8,f⟩:=Fw hp;obtain⟨m,hm⟩:=UQ k hp;obtain⟨h3,_⟩:=Fw hm;have h4:=YP h.dev.fl h3;have a7:=h.few
 have h5:∀y∈r,y.Page.Seq<d.Seq:=λy hy=>by rw[h.dev.seq];exact(NS r).1 y hy
 have h6:=r7 (d:=d) b.Chunk a d.Tx T;have ascT:∀(ps:List Page) (n:Int) (k:Nat),G3 n ps->G3 n (ps.take k):=by
  intro ps
  induction ps with
  |nil=>intro n k _;simp[G3]
  |cons p ps ih=>
   intro n k ha
   cases k with
   |zero=>trivial
   |succ k=>exact⟨ha.1,ih _ k ha.2⟩
 have h7:=cB h.dev.fl h.dev.sr hm h5<|ascT _ _ k h6;rw[XN]at h7;obtain⟨d',u1,u2,u3⟩:=La h4 h7;refine⟨m,d',r++(Ck steps<|Dm d b.Chunk a++Cq (Jr d a) d.Tx T).take k,h3,h4,u1,u2,u3,rfl,λ_=>UP hm,?_⟩;have v:(Cq (Jr d a) d.Tx T).length=T.length:=by unfold Cq;rw[TG]
 have u:=UJ f;by_cases e:L a=[]
 ·
  have e1:Dm d b.Chunk a=[]:=by unfold Dm;rw[Az e]
  have e2:Jr d a=d.Seq:=by unfold Jr;rw[Az e]
  rw[e1,e2,A4]at u f l⊢;rw[e2]at v;rw[h.dev.seq,h.dev.tx]at u f l v⊢;obtain⟨a1,a2,a3,a4⟩:=f0 h.core (by omega) z h0 w h1 x (m:=Ck steps<|Cq (Db r) (DC r) T) (λi y hy=>LO hy) (by omega) l k (by omega);exact⟨a1,h.data.metas a2,λhh=>a3 (by omega),λhh=>⟨a4 (by omega),λs _ h9=>absurd e h9⟩⟩
 have e1:Dm d b.Chunk a=[Page.mk 1 d.Seq b.Chunk 0 1 a]:=by unfold Dm;rw[Av e]
 have e2:Jr d a=d.Seq+1:=by unfold Jr;rw[Av e]
 rw[e1,e2]at u f l⊢;rw[e2]at v;rw[D6]at u f l⊢;rw[A7]at f u
 match hsteps:steps,f with
 |[],f=>simp at f
 |s0::ss,f=>
  have ef:Ck (s0::ss) (Page.mk 1 d.Seq b.Chunk 0 1 a::Cq (d.Seq+1) d.Tx T)=Aq.mk s0.Block s0.Leaf (Page.mk 1 d.Seq b.Chunk 0 1 a)::Ck ss (Cq (d.Seq+1) d.Tx T):=rfl;rw[ef]
  cases k with
  |zero=>
   rw[Jj,A3];exact⟨h.core,h.data,λ_=>rfl,λhh=>by simp at hh⟩
  |succ k=>
   rw[MT];generalize a0:Aq.mk s0.Block s0.Leaf (Page.mk 1 d.Seq b.Chunk 0 1 a)=y0;have j:y0.Page=Page.mk 1 d.Seq b.Chunk 0 1 a:=by rw[<-a0]
   have c1:JG (r++ [y0]):=JG.add h.core (by omega) (by rw[j];exact l _<|by simp) (by rw[j,h.dev.seq];exact GO _) (λhh=>by rw[j]at hh;simp at hh);have g1:Br (r++ [y0])=Br r:=XM r (by rw[j];simp);have s1:Db (r++ [y0])=d.Seq+1:=by rw[fB (by rw[j,h.dev.seq];exact GO _),j]
   have t1:DC (r++ [y0])=d.Tx:=by rw[Vh,Av (by rw[j];simp),h.dev.tx]
   have h8:∀p∈Cq (d.Seq+1) d.Tx T,J5 p:=λp hp=>l p<|by simp[hp]
   have a5:(Ck ss<|Cq (d.Seq+1) d.Tx T).length=T.length:=by rw[UJ (by simp at f;omega),v]
   rw[List.append_cons];obtain⟨a1,a2,a3,a4⟩:=f0 c1 (by simp;omega) z h0 w h1 x (m:=Ck ss<|Cq (d.Seq+1) d.Tx T) (by rw[s1,t1];exact λi y hy=>LO hy) a5 (by rw[s1,t1];exact h8) k (by simp at hk f;omega);have dz:Hd (r++ [y0]) (E5<|By d.Store):=pO h.data (by rw[j];exact h2 e);rw[g1,t1]at a4;rw[g1]at a3;have a9:ss.length=T.length:=by simp at f;omega
   refine⟨a1,dz.metas a2,λhh=>a3 (by simp at hh;omega),λhh=>⟨a4 (by simp at hh;omega),λs hs _ a6=>?_⟩⟩;have:=xO h.data (y:=y0) (s:=s) (by rw[j]) (by rw[j];exact h2 e) (by rw[j];exact hs) a6;rw[j]at this;exact this.metas a2
theorem kY (h:CC s):Rg s.Arena:=by unfold Rg;have:=h.few;omega
theorem AAb (h:CC s) (x:Int):x∈Nu s s.Vols.length↔∃p∈By s,x∈p.2:=by
 unfold Nu By;rw[AW];simp only[List.mem_flatten,AF]
 have a:∀v∈s.Vols,(JJ s.Arena v.Root).getD []=EZ s.Arena.Knots v.Root:=λv hv=>by
  rw[NZ _ (by have:=h.few;omega) h.ar<|h.root _<|AF.2 ⟨v,hv,rfl⟩];rfl
 constructor
 ·rintro⟨l,⟨v,hv,rfl⟩,hx⟩;rw[a v hv]at hx;exact⟨_,⟨v,hv,rfl⟩,hx⟩
 rintro⟨p,⟨v,hv,rfl⟩,hx⟩;exact⟨_,⟨v,hv,rfl⟩,by rw[a v hv];exact hx⟩
theorem Hx (h:CC s):∃l,FB s=some l/\asc l/\(∀x,x∈l↔E5 (By s) x)/\l.length<=16777216:=by
 have:=h.len;obtain⟨l,h1,h2,h3⟩:=X8 s (by omega)<|kY h;refine⟨l,h1,h2.1,λx=>?_,h3⟩;rw[h2.2 x,AAb h];unfold E5;exact And.comm
theorem YB {c:Int} (h:CC s) (hc:E5 (By s) c):0<c/\c<s.Next:=by
 obtain⟨h0,p,hp,hx⟩:=hc;unfold By at hp;obtain⟨v,hv,rfl⟩:=AF.1 hp;exact⟨h0,h.lt _ (AF.2 ⟨v,hv,rfl⟩) c hx⟩
def CA (r:List Aq) (live:List Int) (a:Int):List Bool:=live.foldl (dK r)<|r.map<|D1 a
theorem Kh (r:List Aq) (live:List Int) (a:Int):(CA r live a).length=r.length:=by unfold CA;rw[aW,Ba]
theorem PF (r:List Aq) (live:List Int) (a:Int) (hy:r[j]?=some y):(CA r live a)[j]?=some (D1 a y||live.any (λc=>P2 c r r.length==some j)):=by
 unfold CA;rw[ZS,AO,hy];rfl
theorem ABs {c:Int} (h:P2 c r r.length=some j):KG r c=r[j]? :=by
 rw[ZP<|P1 c r r.length<|Au _,h];rfl
theorem ABT {c:Int} (h:KG r c=some y):∃j,P2 c r r.length=some j/\r[j]?=some y:=by
 have:=ZP<|P1 c r r.length<|Au _;rw[h]at this
 cases ht:P2 c r r.length with
 |none=>rw[ht]at this;cases this
 |some j=>rw[ht]at this;exact⟨j,rfl,this.symm⟩
theorem uX {p:Nat->Bool} (h:cn n p=0):∀j,j<n->p j=false:=by
 intro j hj;unfold cn at h;have:=List.length_eq_zero_iff.1 h;rw[Bq]at this;have:=this j<|Jl.2 hj;simpa using this
theorem ABK {live:List Int} {a b:Int} (h:cn r.length (λj=>(CA r live a)[j]?.getD false&&bk r b j)=0):∀y∈r,y.Block=b->(y.Page.Kind=2->y.Page.Tx<a)/\∀c∈live,KG r c≠some y:=by
 intro y hy hb;obtain⟨j,hj,rfl⟩:=AC hy;have hx:=Ab hj;have h1:=uX h j hj;rw[PF r live a hx]at h1;have h2:bk r b j=true:=by unfold bk;rw[hx];simpa using hb
 rw[h2,lP,Bi,Rp]at h1;refine⟨λhk=>?_,λc hc hn=>?_⟩
 ·have:=h1.1;unfold D1 at this;rw[show(r[j].Page.Kind==2)=true by simpa using hk,CZ,DH]at this;omega
 
 obtain⟨i,i1,i2⟩:=ABT hn;have h3:=h1.2;rw[O3]at h3;have h4:=h3 c hc;rw[i1]at h4;by_cases e:i=j
 ·rw[e]at h4;simp at h4
 
 have hi:=(Ag.1 i2).1;have h5:=uX h i hi;rw[PF r live a i2]at h5;have h6:bk r b i=true:=by unfold bk;rw[i2];simpa using hb
 rw[h6,lP,Bi,Rp,O3]at h5;have:=h5.2 c hc;rw[i1]at this;simp at this
theorem ZA (h:HD d r):∃l,IW d=some l/\l.length<=10/\∀b∈l,∃x,gi d.Flash.Blocks b=some x/\x.Bad=false/\∀y∈r,y.Block=b->(y.Page.Kind=2->y.Page.Tx<d.Base)/\∀c,E5 (By d.Store) c->KG r c≠some y:=by
 obtain⟨live,l1,l2,l3,l4⟩:=Hx h.st;have hn:=h.fl.n;unfold IW;rw[h.scan.s,l1];simp only[Aa];rw[Nv r live d.Base h.scan.len l4];simp only[Aa];have e:live.foldl (dK r) (r.map<|D1 d.Base)=CA r live d.Base:=rfl;rw[e];obtain⟨b,q1,q2⟩:=AP (body:=λs:List Int×Int=>Ex d r (CA r live d.Base) s.1 s.2) (λ(o:List Int) i=>(o,i)) d.Flash.Blocks.length
  (λi o=>o.length<=i/\∀b∈o,∃x,gi d.Flash.Blocks b=some x/\x.Bad=false/\∀y∈r,y.Block=b->(y.Page.Kind=2->y.Page.Tx<d.Base)/\∀c,E5 (By d.Store) c->KG r c≠some y)
  (λo=>o.length<=10/\∀b∈o,∃x,gi d.Flash.Blocks b=some x/\x.Bad=false/\∀y∈r,y.Block=b->(y.Page.Kind=2->y.Page.Tx<d.Base)/\∀c,E5 (By d.Store) c->KG r c≠some y)
  (λo i hi ho=>by
   have hx:=Ab hi;have hP:=h.fl.blk _<|A5 hi;obtain⟨nbl,_,bl⟩:=oZ d.Flash.Blocks[i] (by rw[hP.four];omega);simp only[Ex,Ev hi,Aw,hx,Aa];rw[bl,ZL r _ (i:Int) h.scan.len<|Kh _ _ _,ad1];simp only[Aa];refine .inl ?_
   cases a:d.Flash.Blocks[i].Bad with
   |true=>exact⟨o,rfl,by omega,ho.2⟩
   |false=>
    simp only[AD,Ae]
    cases g:(!(!decide (nbl<ln d.Flash.Blocks[i].Leaves)))with
    |false=>exact⟨o,rfl,by omega,ho.2⟩
    |true=>
     simp only[Ae,Aa]
     cases hz:((((cn r.length (λj=>(CA r live d.Base)[j]?.getD false&&bk r (i:Int) j):Nat)):Int)==0)with
     |false=>exact⟨o,rfl,by omega,ho.2⟩
     |true=>
      simp only[Ae];have:=ho.1;rw[BS (by simp;omega)];refine⟨_,rfl,by simp;omega,λb hb=>?_⟩;rw[Ak,AE]at hb
      rcases hb with hb|rfl
      ·exact ho.2 b hb
      refine⟨_,by rw[Aw];exact hx,a,λy hy f=>?_⟩;have hz':cn r.length (λj=>(CA r live d.Base)[j]?.getD false&&bk r (i:Int) j)=0:=by
       rw[Ce]at hz;omega
      obtain⟨a1,a2⟩:=ABK hz' y hy f
      exact⟨a1,λc hc=>a2 c<|(l3 c).2 hc⟩)
  (λo ho=>⟨o,by simp only[Ex,DT],by omega,ho.2⟩) (s:=[]) ⟨by simp,λb hb=>by cases hb⟩
 rw[q1];exact⟨b,rfl,q2⟩
theorem Ht (h:HD d r) (h':HD d' r') (e:De (Br r')=De (Br r)):By d'.Store=By d.Store/\d'.Store.Next=d.Store.Next/\d'.Base=d.Base:=by
 have h1:=h'.ab;rw[e,<-h.ab]at h1
 injection h1 with h1 h2
 exact⟨h1,h2,by rw[h'.base,h.base,e]⟩
theorem ABn (h:JT d r) (hb:∀y∈r,y.Block=b->(y.Page.Kind=2->y.Page.Tx<d.Base)/\∀c,E5 (By d.Store) c->KG r c≠some y) (hg:BD g) (hp:KE 0 g.Blocks=(KE 0 d.Flash.Blocks).filter λy=>y.Block !=b):
  ∃d',CR g=some (d',true)/\d'.Flash=g/\JT d' (r.filter λy=>y.Block !=b)/\By d'.Store=By d.Store/\d'.Store.Next=d.Store.Next/\d'.Base=d.Base/\∀c,E5 (By d.Store) c->C4 (r.filter λy=>y.Block !=b) c=C4 r c:=by
 have f:SR (KE 0 g.Blocks) (r.filter λy=>y.Block !=b):=by rw[hp];exact h.dev.sr.filter _
 obtain⟨d',u1,u2,u3⟩:=La hg f
 have hs:=iF r h.core.pages h.core.mu (λy=>y.Block !=b) (λy hy hk ht=>by
  have:y.Block≠b:=λe=>by
   have:=(hb y hy e).1 hk;rw[h.dev.base]at this;omega
  simpa using this)
 obtain⟨e1,e2,e3⟩:=Ht h.dev u2 hs
 have ht:∀c,E5 (By d.Store) c->C4 (r.filter λy=>y.Block !=b) c=C4 r c:=λc hc=>by
  obtain⟨s,a⟩:=h.data.data c hc;unfold C4 at a⊢
  cases hn:KG r c with
  |none=>rw[hn]at a;cases a
  |some y=>
   have hy:=(VM hn).1
   have:KG (r.filter λy=>y.Block !=b) c=some y:=nM _ hn (by
    have:y.Block≠b:=λe=>(hb y hy e).2 c hc hn
    simpa using this)
   rw[this]
 refine⟨d',u1,u3,⟨u2,h.core.filter _,?_⟩,e1,e2,e3,ht⟩;rw[e1];exact h.data.congr ht
def GM (id:Int):Nat->List Int->List Cz
 |_,[]=>[]
 |k,x::row=>(if x>0 then [Cz.mk 4 id k x]else [])++GM id (k+1) row
def Qe (p:Int×List Int):List Cz:=Cz.mk 2 p.1 0 0::GM p.1 0 p.2
def Ld (l:Vs) (nx:Int):List Cz:=Cz.mk 1 0 nx 0::l.flatMap Qe
theorem Qt (id x:Int):∀(k:Nat) (a:List Int),GM id k (a++ [x])=GM id k a++(if x>0 then [Cz.mk 4 id (k+a.length:Nat) x]else [])
 |k,[]=>by simp[GM]
 |k,y::a=>by
  rw[B4,GM,Qt id x (k+1) a,GM,Ax,A7,show k+1+a.length=k+(a.length+1) by omega]
theorem XB (id:Int):∀(k:Nat) (a:List Int),(GM id k a).length<=a.length
 |_,[]=>Au _
 |k,x::a=>by
  rw[GM,Ai,A7];have:=XB id (k+1) a;split<;>simp<;>omega
theorem jD (K:Ks) (r:Int):(EZ K r).length=16:=by unfold EZ;simp
theorem oJ:∀(l:Vs),(∀p∈l,p.2.length=16)->(l.flatMap Qe).length<=17*l.length
 |[],_=>Au _
 |p::l,h=>by
  have:=oJ l (λq hq=>h q<|by simp[hq]);have h2:=XB p.1 0 p.2;have h3:=h p (by simp);rw[Kv,Ai,A7];unfold Qe at*;rw[A7];omega
theorem VA (h:CC s):LC s=some (Ld (By s) s.Next):=by
 have hl:=h.len;unfold LC;obtain⟨b,h1,h2⟩:=AP (body:=λq:List Cz×Int=>Ef s q.1 q.2) (λ(o:List Cz) i=>(o,i)) s.Vols.length (λi o=>o=Ld ((By s).take i) s.Next/\o.length<=1+17*i) (λo=>o=Ld (By s) s.Next)
  (λo i hi ho=>by
   have hx:=Ab hi;have hr:=h.root _<|AF.2 ⟨s.Vols[i],A5 hi,rfl⟩;have d:=ho.2;have et:(By s).take (i+1)=(By s).take i++ [(s.Vols[i].Id,EZ s.Arena.Knots s.Vols[i].Root)]:=by
    rw[Eg];unfold By;rw[AO,hx];rfl
   simp only[Ef,Ev hi,Aw,hx,Aa];rw[BS (by simp;omega),Aa,NZ _ (by have:=h.few;omega) h.ar hr];simp only[Aa];obtain⟨u,u1,u2,u3⟩:=AP (body:=λq:List Cz×Int=>Ee s (i:Int) (EZ s.Arena.Knots s.Vols[i].Root) q.1 q.2) (λ(l:List Cz) k=>(l,k)) (EZ s.Arena.Knots s.Vols[i].Root).length
    (λk u=>u=o++ [Cz.mk 2 s.Vols[i].Id 0 0]++GM s.Vols[i].Id 0 ((EZ s.Arena.Knots s.Vols[i].Root).take k)/\u.length<=o.length+1+k) (λu=>u=o++ [Cz.mk 2 s.Vols[i].Id 0 0]++GM s.Vols[i].Id 0 (EZ s.Arena.Knots s.Vols[i].Root)/\u.length<=o.length+17)
    (λu k hk hu=>by
     obtain⟨a,f⟩:=hu;have c:=Ab hk;have g:=jD s.Arena.Knots s.Vols[i].Root;have etk:=Ao hk;simp only[Ee,Ev hk,Aw,c,hx,Aa];rw[ad1];refine .inl ?_;by_cases e:(EZ s.Arena.Knots s.Vols[i].Root)[k]>0
     ·rw[Ad e,Ae,BS (by simp;omega)];refine⟨_,rfl,?_,by simp;omega⟩;rw[etk,Qt,Az e,a,AU,show 0+min k (EZ s.Arena.Knots s.Vols[i].Root).length=k by omega];simp only[Ax]
     rw[Af e,Ac];refine⟨u,rfl,?_,by omega⟩
     rw[etk,Qt,Av e,a,A3])
    (λu hu=>⟨u,by simp only[Ee,DT],by rw[hu.1,AW],by have:=jD s.Arena.Knots s.Vols[i].Root;have:=hu.2;omega⟩) (s:=o++ [Cz.mk 2 s.Vols[i].Id 0 0]) ⟨by simp[GM],by simp⟩
   rw[u1,Aa,ad1];refine .inl ⟨u,rfl,?_,by omega⟩;rw[et,u2,ho.1];unfold Ld;rw[R9]
   simp[Qe])
  (λo ho=>⟨o,by simp only[Ef,DT],by rw[ho.1,AM (by rw[IM];exact Au _)]⟩) (s:=[Cz.mk 1 0 s.Next 0]) ⟨rfl,by simp⟩
 rw[h1,h2];rfl
structure VsP (l:Vs) (nx:Int):Prop where
 len:l.length<=3
 nxt:1<=nx/\nx<=1000000000
 ids:∀p∈l,1<=p.1/\p.1<=9
 asc:l.Pairwise λp q=>p.1<q.1
 row:∀p∈l,p.2.length=16
 num:∀p∈l,∀x∈p.2,0<=x/\x<nx
theorem oU {r:Int} (hK:CT K=true) (hr:DD K r=true):∀x∈EZ K r,0<=x:=by
 intro x hx;unfold EZ at hx;obtain⟨s,hs,rfl⟩:=AF.1 hx;rw[Jl]at hs;unfold Ry
 rcases Ca hr with e|⟨h0,h1,hl⟩
 ·rw[Az<|by omega];omega
 rw[Av<|by omega]
 rcases Gv hK h0 h1 hl (show s/4<4 by omega)with k1|⟨k1,k2,k3⟩
 ·rw[Az<|by omega];omega
 rw[Av<|by omega];exact AAq hK k1 (by omega) k3<|by omega
theorem CC.vs (h:CC s):VsP (By s) s.Next:=by
 have mem:∀p∈By s,∃v∈s.Vols,p=(v.Id,EZ s.Arena.Knots v.Root):=λp hp=>by
  obtain⟨v,hv,rfl⟩:=AF.1 hp;exact⟨v,hv,rfl⟩
 refine⟨by rw[IM];exact h.len,h.nx,λp hp=>?_,?_,λp hp=>?_,λp hp x hx=>?_⟩
 ·obtain⟨v,hv,rfl⟩:=mem p hp;exact h.ids v hv
 ·have:=h.asc;unfold By;rw[Ku]at this⊢;exact this
 ·obtain⟨v,hv,rfl⟩:=mem p hp;exact jD _ _
 obtain⟨v,hv,rfl⟩:=mem p hp;have hm:v.Root∈B3 s:=AF.2 ⟨v,hv,rfl⟩;exact⟨oU h.ar (h.root _ hm) x hx,h.lt _ hm x hx⟩
theorem TS {P:Vs} {id:Int} (h:∀p∈P,p.1<id) (Q:Vs):KY (P++Q) id=KY Q id:=by
 unfold KY;rw[List.find?_append,N8.2 (λp hp hh=>by have:=h p hp;simp at hh;omega),Option.none_or]
theorem zK {id k x:Int} (h1:1<=id/\id<=9) (h2:0<=k/\k<16) (h3:1<=x/\x<=1000000000):GJ (Cz.mk 4 id k x)=true:=by
 unfold GJ;simp;omega
theorem ADd {id a:Int} (h1:1<=id/\id<=9) (h2:0<=a/\a<=9):GJ (Cz.mk 2 id a 0)=true:=by
 unfold GJ;simp;omega
theorem vG {P:Vs} {id:Int} {a:List Int} (h:∀p∈P,p.1<id) (k:Nat) (x:Int):qF (P++ [(id,a)]) id k x=P++ [(id,a.set k x)]:=by
 unfold qF;rw[Cn];congr 1
 ·conv=>rhs;rw[<-UX P]
  apply Di;intro p hp;have:=h p hp;rw[Av<|by omega];rfl
 simp
theorem nA {P:Vs} {id nx:Int} (hP:∀p∈P,p.1<id) (a:1<=id/\id<=9) (c:nx<=1000000000):∀(todo done:List Int),done.length+todo.length=16->(∀x∈todo,0<=x/\x<nx)->CL (P++ [(id,done++List.replicate todo.length 0)]) nx (GM id done.length todo)=some (P++ [(id,done++todo)],nx)
 |[],done,hl,hx=>by simp[GM,CL]
 |x::todo,done,hl,hx=>by
  have h1:=hx x (by simp);rw[A7]at hl;have ih:=nA hP a c todo (done++ [x]) (by simp;omega) (λy hy=>hx y<|by simp[hy]);rw[Ai,A8]at ih;rw[GM];have b:(done++List.replicate (todo.length+1) 0).set done.length x=done++ [x]++List.replicate todo.length 0:=by
   rw[GG,List.set_append_right _ _<|Au _,Ys,DQ,Ax];rfl
  by_cases e:x>0
  ·rw[Az e,D6,FE];have d:DA (P++ [(id,done++List.replicate (x::todo).length 0)]) nx (Cz.mk 4 id done.length x)=some (P++ [(id,done++ [x]++List.replicate todo.length 0)],nx):=by
    unfold DA;rw[zK a (by omega)<|by omega];simp only[JH,Fq,show¬((4:Int)=1) by omega,show¬((4:Int)=2) by omega,show¬((4:Int)=3) by omega];have hg:KY (P++ [(id,done++List.replicate (x::todo).length 0)]) id≠none:=by
     rw[TS hP];simp[KY]
    rw[Av (by
     rintro(hh|hh)
     ·exact hg hh
     omega)]
    rw[vG hP,AZ,A7,b,show max nx (x+1)=nx by omega]
   rw[d,Aa,ih,Ax];rfl
  rw[Av e,A4];have e0:x=0:=by omega
  have:done++List.replicate (x::todo).length 0=done++ [x]++List.replicate todo.length 0:=by
   rw[e0,A7,GG,Ax];rfl
  rw[this,ih,Ax];rfl
theorem wJ {P:Vs} {id:Int} {a:List Int} (h:∀p∈P,p.1<id):rE P id a=P++ [(id,a)]:=by
 unfold rE;rw[GH.2 (λp hp=>by simpa using h p hp),Bq.2 (λp hp=>by have:=h p hp;simp;omega),A3]
theorem eN (d:nx<=1000000000):∀(l P:Vs),(P++l).length<=3->(P++l).Pairwise (λp q=>p.1<q.1)->(∀p∈l,(1<=p.1/\p.1<=9)/\p.2.length=16/\∀x∈p.2,0<=x/\x<nx)->CL P nx (l.flatMap Qe)=some (P++l,nx)
 |[],P,_,_,_=>by simp[CL]
 |p::l,P,b,a,hall=>by
  obtain⟨h1,h2,h3⟩:=hall p<|by simp
  have c:∀q∈P,q.1<p.1:=λq hq=>by
   rw[AQ]at a;exact a.2.2 q hq p<|by simp
  rw[Kv,Mm];unfold Qe;rw[FE];have f:DA P nx (Cz.mk 2 p.1 0 0)=some (P++ [(p.1,TH)],nx):=by
   unfold DA;rw[ADd h1<|by omega];simp only[JH,Fq,BO,show¬((2:Int)=1) by omega];have hg:KY P p.1=none:=by
    have:=TS c [];rw[A3]at this;rw[this];rfl
   rw[Av (by
    rintro(hh|hh|hh)
    ·omega
    ·exact hh hg
    simp at b;omega)]
   rw[Av (by omega),wJ c]
  rw[f];simp only[Aa];have hz:TH=[]++List.replicate p.2.length 0:=by rw[h2];rfl
  have e:=nA c h1 d p.2 [] (by simpa using h2) h3;rw[<-hz,BU,A4]at e;rw[e];simp only[Aa];have hP:P++ [(p.1,p.2)]=P++ [p]:=rfl;have:=eN d l (P++ [p]) (by rw[Ax];exact b) (by rw[Ax];exact a) (λq hq=>hall q<|by simp[hq]);rw[hP,show(l.flatMap λp=>Cz.mk 2 p.1 0 0::GM p.1 0 p.2)=l.flatMap Qe from rfl,this,Ax];rfl
theorem gV (h:VsP l nx) (l0:Vs) (n0:Int):CL l0 n0 (Ld l nx)=some (l,nx):=by
 unfold Ld;rw[FE];have a:DA l0 n0 (Cz.mk 1 0 nx 0)=some ([],nx):=by
  unfold DA;have hb:GJ (Cz.mk 1 0 nx 0)=true:=by
   have:=h.nxt;unfold GJ;simp;omega
  rw[hb];simp only[JH,Fq,BO];have:=h.nxt;rw[Av<|by omega]
 rw[a];simp only[Aa];have:=eN h.nxt.2 l [] (by simpa using h.len) (by simpa using h.asc) λp hp=>⟨h.ids p hp,h.row p hp,h.num p hp⟩;rw[A4]at this;exact this
theorem gU (h:VsP l nx):(∀r∈Ld l nx,GJ r=true)/\(Ld l nx).length<=1000:=by
 refine⟨λr hr=>?_,?_⟩
 ·
  cases hb:GJ r with
  |true=>rfl
  |false=>
   exfalso;obtain⟨i,hi,rfl⟩:=AC hr;have h1:=gV h [] 1;obtain⟨e1,e2⟩:=JO<|Ab hi;rw[e1,Mm]at h1
   cases hq:CL [] 1 ((Ld l nx).take i)with
   |none=>rw[hq]at h1;cases h1
   |some q=>
    rw[hq]at h1;simp only[Aa]at h1;rw[FE]at h1;have:DA q.1 q.2 (Ld l nx)[i]=none:=by unfold DA;rw[Az hb]
    rw[this]at h1;cases h1
 unfold Ld;rw[A7];have:=oJ l h.row;have:=h.len;omega
structure AE5 (d d':AA):Prop where
 ab:By d'.Store=By d.Store
 nx:d'.Store.Next=d.Store.Next
theorem Np (h:HD d r) {steps:List Bc} (hs:Steps d.Flash steps g) (hl:steps.length<=1048576) (hm:CR g=some (d',true)):Hw d steps=some d':=by
 unfold Hw;rw[XA h.fl hs hl,Aa,hm];rfl
theorem Wo:∀{n:Int} {ps:List Page} {p:Page},G3 n ps->(∀q∈ps,q.Seq<p.Seq)->n<=p.Seq->G3 n (ps++ [p])
 |n,[],p,_,_,h=>⟨h,trivial⟩
 |n,q::ps,p,ha,hq,h=>⟨ha.1,Wo ha.2 (λx hx=>hq x (by simp[hx])) (by have:=hq q (by simp);omega)⟩
def qZ (d:AA) (r:List Aq) (p:Page):Prop:=p.Kind=1/\E5 (By d.Store) p.Tx/\∃y,KG r p.Tx=some y/\p.Text=y.Page.Text
theorem ZR (h:HD d r) {live:List Int} (hl:∀x,x∈live↔E5 (By d.Store) x) (hy:r[j]?=some y) (hn:(CA r live 1000000001)[j]?=some true):y.Page.Kind=1/\E5 (By d.Store) y.Page.Tx/\KG r y.Page.Tx=some y:=by
 rw[PF r live _ hy]at hn
 injection hn with hn
 have a:=h.pages;have ht:=a.tx y<|Ar hy;have:D1 1000000001 y=false:=by
  unfold D1;rw[Af (by omega),Bool.and_false]
 rw[this,Wx,CD]at hn;obtain⟨c,hc,b⟩:=hn;have e:P2 c r r.length=some j:=by simpa using b
 have h1:=ABs e;rw[hy]at h1;obtain⟨_,k1,k2⟩:=VM h1;rw[k2];exact⟨k1,(hl c).1 hc,h1⟩
theorem dC (h:HD d r) (l:r.length<=40) (b:Int):Hj d b=some ([],false)\/∃steps ps g,Hj d b=some (steps,true)/\Jo d.Flash steps ps g/\BD g/\G3 d.Seq ps/\steps.length<=160/\(∀p∈ps,qZ d r p/\J5 p)/\∀p∈ps,p.Seq<d.Seq+160:=by
 obtain⟨live,l1,l2,l3,l4⟩:=Hx h.st;have m:1<=d.Seq/\d.Seq<=1000000001:=by
  rw[h.seq];have h1:=NS r;refine⟨h1.2.1,h1.2.2 _ (by omega) λy hy=>?_⟩;have:=(h.pages.seq y hy).2;omega
 unfold Hj;rw[h.scan.s,l1];simp only[Aa];rw[Nv r live _ h.scan.len l4];simp only[Aa];have e:live.foldl (dK r) (r.map<|D1 1000000001)=CA r live 1000000001:=rfl;rw[e]
 let I:Nat->(List Bc×Int×List Block)->Prop:=λn o=>∃ps,Jo d.Flash o.1 ps (Flash.mk o.2.2)/\BD (Flash.mk o.2.2)/\G3 d.Seq ps/\(∀p∈ps,p.Seq<o.2.1)/\d.Seq<=o.2.1/\o.2.1<=d.Seq+n/\o.1.length<=n/\∀p∈ps,qZ d r p/\J5 p
 have I0:I (40*0) ([],d.Seq,d.Flash.Blocks):=by
  refine⟨[],rfl,h.fl,trivial,?_,?_,?_,?_,?_⟩
  ·intro p hp;cases hp
  ·exact GO _
  ·show d.Seq<=d.Seq+((40*0:Nat):Int);omega
  ·exact Au _
  intro p hp;cases hp
 obtain⟨a,h1,h2⟩:=AP (body:=λs:List Bc×Int×Int×List Block=>EO b r (CA r live 1000000001) s.1 s.2.1 s.2.2.1 s.2.2.2) (λ(o:List Bc×Int×List Block) i=>(o.1,o.2.1,i,o.2.2)) 4
  (λi o=>I (40*i) o) (λa=>a= .inr ([],false)\/∃steps sq bl,a= .inl steps/\I 160 (steps,sq,bl))
  (λo i hi ho=>by
   simp only[EO];rw[cT];obtain⟨q,q1,q2⟩:=AP (body:=λs:List Bc×Int×Int×List Block=>EN b r (CA r live 1000000001) (i:Int) s.1 s.2.1 s.2.2.1 s.2.2.2) (λ(o:List Bc×Int×List Block) j=>(o.1,o.2.1,j,o.2.2)) r.length
    (λj o=>I (40*i+j) o) (λq=>q= .inr (.inr<|.inr ([],false))\/∃o,q= .inl o/\I (40*i+40) o)
    (λo j hj hs=>by
     obtain⟨ss,sq,bl⟩:=o;obtain⟨ps,p1,p2,p3,p4,p5,p6,p7,p8⟩:=hs;simp only at p1 p2 p4 p5 p6 p7;have hx:=Ab hj;have f:j<(CA r live 1000000001).length:=by rw[Kh];exact hj
     have c:=Ab f;simp only[EN,Ev hj,Aw,hx,c,Aa];rw[ad1];have skip:I (40*i+(j+1)) (ss,sq,bl):=⟨ps,p1,p2,p3,p4,p5,by show sq<=_;omega,by show ss.length<=_;omega,p8⟩
     cases k:(CA r live 1000000001)[j]with
     |false=>
      simp only[AD,Ae,Aa];exact .inl ⟨(ss,sq,bl),rfl,skip⟩
     |true=>
      simp only[Ah,Ac]
      cases hb:(r[j].Block !=b)with
      |true=>
       simp only[Ae,Aa];exact .inl ⟨(ss,sq,bl),rfl,skip⟩
      |false=>
       simp only[Ac,Aa]
       cases t:(r[j].Leaf !=(i:Int))with
       |true=>
        simp only[Ae,Aa];exact .inl ⟨(ss,sq,bl),rfl,skip⟩
       |false=>
        simp only[Ac,Aa];obtain⟨m1,m2,m3⟩:=ZR h l3 hx<|by rw[c,k]
        rcases zP p2 p1 (by omega) (Page.mk r[j].Page.Kind sq r[j].Page.Tx r[j].Page.Part r[j].Page.Count r[j].Page.Text)with⟨s,g',w1,w2,w3,w4,_⟩|w
        ·rw[w1];simp only[Aa,Ah,Ac];rw[Bz,Ai,A8,Cm,show((ss.length+1:Nat):Int)-1=(ss.length:Int) by omega,Fv];simp only[Aa]
         cases u:(s.Block==b)with
         |true=>exact .inr ⟨_,rfl,.inl rfl⟩
         |false=>
          simp only[Ac];rw[Cy];refine .inl ⟨(ss++ [s],sq+1,g'.Blocks),rfl,_,w2,w3,Wo p3 (λq hq=>p4 q hq) p5,λp hp=>?_,by show d.Seq<=sq+1;omega,by show sq+1<=_;omega,by simp;omega,λp hp=>?_⟩
          ·rw[Ak,AE]at hp;show p.Seq<sq+1
           rcases hp with hp|rfl
           ·have:=p4 p hp;omega
           show sq<sq+1;omega
          rw[Ak,AE]at hp
          rcases hp with hp|rfl
          ·exact p8 p hp
          exact⟨⟨m1,m2,_,m3,rfl⟩,w4⟩
        rw[w]
        exact .inr ⟨_,rfl,.inl rfl⟩)
    (λo hs=>⟨.inl (o.1,o.2.1,o.2.2),by simp only[EN,DT],.inr ⟨o,rfl,by
     obtain⟨ps,p1,p2,p3,p4,p5,p6,p7,p8⟩:=hs
     exact⟨ps,p1,p2,p3,p4,p5,by omega,by omega,p8⟩⟩⟩) (s:=o) (by
      obtain⟨ps,p1,p2,p3,p4,p5,p6,p7,p8⟩:=ho
      exact⟨ps,p1,p2,p3,p4,p5,by omega,by omega,p8⟩)
   rw[q1]
   rcases q2 with rfl|⟨o',rfl,q2⟩
   ·exact .inr ⟨_,rfl,.inl rfl⟩
   simp only[Aa,Bw];rw[ad1]
   exact .inl ⟨o',rfl,by
    obtain⟨ps,p1,p2,p3,p4,p5,p6,p7,p8⟩:=q2
    exact⟨ps,p1,p2,p3,p4,p5,by omega,by omega,p8⟩⟩)
  (λo ho=>⟨.inl o.1,by simp only[EO];rw[cF],.inr ⟨o.1,o.2.1,o.2.2,rfl,ho⟩⟩) (s:=([],d.Seq,d.Flash.Blocks)) I0
 rw[h1]
 rcases h2 with rfl|⟨steps,sq,bl,rfl,ps,p1,p2,p3,p4,p5,p6,p7,p8⟩
 ·exact .inl rfl
 exact .inr ⟨steps,ps,_,rfl,p1,p2,p3,p7,p8,λp hp=>by have h1:p.Seq<sq:=p4 p hp;have h2:sq<=d.Seq+((160:Nat):Int):=p6;omega⟩
theorem AAi (h:JT d r) {steps:List Bc} (hp:Jo d.Flash steps ps g) (ha:G3 d.Seq ps) (hl:steps.length<=160) (hm:∀p∈ps,qZ d r p/\J5 p) (k:Nat):
  ∃m d',Steps d.Flash (steps.take k) m/\BD m/\CR m=some (d',true)/\d'.Flash=m/\JT d' (r++(Ck steps ps).take k)/\AE5 d d'/\d'.Base=d.Base/\YW d.Flash m/\∀c,E5 (By d.Store) c->C4 (r++(Ck steps ps).take k) c=C4 r c:=by
 have f:=(Fw hp).2;have w:=h.few
 have b:∀y∈r,y.Page.Seq<d.Seq:=λy hy=>by rw[h.dev.seq];exact(NS r).1 y hy
 obtain⟨m,a⟩:=UQ k hp;have l:=YP h.dev.fl (Fw a).1;have ascT:∀(ps:List Page) (n:Int) (k:Nat),G3 n ps->G3 n (ps.take k):=by
  intro ps
  induction ps with
  |nil=>intro n k _;simp[G3]
  |cons p ps ih=>
   intro n k ha
   cases k with
   |zero=>trivial
   |succ k=>exact⟨ha.1,ih _ k ha.2⟩
 have o:=cB h.dev.fl h.dev.sr a b<|ascT _ _ k ha;rw[XN]at o;obtain⟨d',u1,u2,u3⟩:=La l o;have h0:=UJ f;have ascG:∀(ps:List Page) (n:Int) (i:Nat) (p:Page),G3 n ps->ps[i]?=some p->n<=p.Seq/\∀j q,j<i->ps[j]?=some q->q.Seq<p.Seq:=by
  intro ps
  induction ps with
  |nil=>intro n i p _ hp;simp at hp
  |cons x ps ih=>
   intro n i p ha hp
   cases i with
   |zero=>
    simp only[EA,Al]at hp;rw[<-hp];exact⟨ha.1,λj q hj=>by omega⟩
   |succ i=>
    obtain⟨i1,i2⟩:=ih _ i p ha.2 (by simpa using hp);have:=ha.1;refine⟨by omega,λj q hj hq=>?_⟩
    cases j with
    |zero=>
     simp only[EA,Al]at hq;rw[<-hq];omega
    |succ j=>exact i2 j q (by omega)<|by simpa using hq
 have main:∀n,n<=(Ck steps ps).length->JG (r++(Ck steps ps).take n)/\Hd (r++(Ck steps ps).take n) (E5<|By d.Store)/\Br (r++(Ck steps ps).take n)=Br r/\∀c,E5 (By d.Store) c->C4 (r++(Ck steps ps).take n) c=C4 r c:=by
  intro n
  induction n with
  |zero=>intro _;rw[Jj,A3];exact⟨h.core,h.data,rfl,λ_ _=>rfl⟩
  |succ n ih=>
   intro hn;obtain⟨i1,i2,i3,i4⟩:=ih (by omega);have hx:(Ck steps ps)[n]?=some (Ck steps ps)[n]:=Ab (by omega);have s:=LO hx;obtain⟨⟨m1,m2,y,m3,m4⟩,m5⟩:=hm _<|Ar s;obtain⟨a1,a2⟩:=ascG ps d.Seq n _ ha s;rw[Ao (by omega),<-Ax];have t:T7 (Ck steps ps)[n].Page.Text=C4 r (Ck steps ps)[n].Page.Tx:=by unfold C4;rw[m3,m4];rfl
   have u:Db (r++(Ck steps ps).take n)<=(Ck steps ps)[n].Page.Seq:=by
    refine(NS _).2.2 _ (m5.2.1.1) (λz hz=>?_)
    rcases Ak.1 hz with hz|hz
    ·have:=b z hz;omega
    obtain⟨j,hj,rfl⟩:=AC hz;rw[AU]at hj;rw[HV];exact a2 j _ (by omega)<|LO<|Ab<|by omega
   refine⟨JG.add i1 (by simp;omega) m5 u (λhh=>by omega),pP i2 (by rw[t,i4 _ m2]),by rw[XM _ (by omega),i3],λc hc=>?_⟩;by_cases e:(Ck steps ps)[n].Page.Kind=1/\(Ck steps ps)[n].Page.Tx=c
   ·have:C4 (r++(Ck steps ps).take n++ [(Ck steps ps)[n]]) c=T7 (Ck steps ps)[n].Page.Text:=by unfold C4;rw[ME,Az e];rfl
    rw[this,t,e.2]
   rw[<-i4 c hc];unfold C4;rw[ME,Av e]
 have v:JG (r++(Ck steps ps).take k)/\Hd (r++(Ck steps ps).take k) (E5<|By d.Store)/\Br (r++(Ck steps ps).take k)=Br r/\∀c,E5 (By d.Store) c->C4 (r++(Ck steps ps).take k) c=C4 r c:=by
  by_cases e:k<=(Ck steps ps).length
  ·exact main k e
  have:=main _<|Au _;rw[AW]at this;rw[AM<|by omega];exact this
 obtain⟨k1,k2,k3,k4⟩:=v;obtain⟨e1,e2,e3⟩:=Ht h.dev u2 (by rw[k3]);exact⟨m,d',(Fw a).1,l,u1,u3,⟨u2,k1,by rw[e1];exact k2⟩,⟨e1,e2⟩,e3,λ_=>UP a,k4⟩
theorem Ro (h:HD d r) {live:List Int} (hl:live.length<=16777216) (t:ByteArray):∃v,Iy d.Flash live t=some v/\((v=0/\∀c∈live,C4 r c≠some t)\/(v∈live/\C4 r v=some t)):=by
 have hr:=h.pages;unfold Iy SP;rw[h.scan.s];simp only[Aa];obtain⟨b,h1,h2⟩:=AP (body:=λs:Int=>Fo r live t s) (λ(_:Unit) i=>i) live.length (λi _=>∀c∈live.take i,C4 r c≠some t) (λb=>(b= .inl ()/\∀c∈live,C4 r c≠some t)\/∃v,b= .inr v/\v∈live/\C4 r v=some t)
  (λ_ i hi hs=>by
   have hx:=Ab hi;simp only[Fo,Ev hi,Aw,hx,Aa];obtain⟨u,ok,k1,k2⟩:=mQ hr live[i];rw[k1,Aa,ad1]
   have no:C4 r live[i]≠some t->∀c∈live.take (i+1),C4 r c≠some t:=λf c hc=>by
    rw[Ao hi,Ak,AE]at hc
    rcases hc with hc|rfl
    ·exact hs c hc
    exact f
   cases ok with
   |false=>
    simp only[Ac,Aa];exact .inl ⟨(),by first|rfl|trivial,no (by rw[k2];simp)⟩
   |true=>
    simp only[Ae,Aa];rw[Az rfl]at k2
    cases a:seq u t with
    |true=>
     rw[Jq,A6]at a;exact .inr ⟨_,rfl,.inr ⟨_,rfl,A5 hi,by rw[k2,a]⟩⟩
    |false=>
     rw[Jq,DH]at a;refine .inl ⟨(),rfl,no ?_⟩;rw[k2];intro e
     injection e with e
     exact a e)
  (λ_ hs=>⟨_,by simp only[Fo,DT],.inl ⟨rfl,by rw[AW]at hs;exact hs⟩⟩) (s:=()) (by simp)
 rw[h1]
 rcases h2 with⟨rfl,h2⟩|⟨v,rfl,h2⟩
 ·exact⟨0,rfl,.inl ⟨rfl,h2⟩⟩
 exact⟨v,rfl,.inr h2⟩
structure ADP (q:R4):Prop where
 kind:1<=q.Kind/\q.Kind<=6
 vol:1<=q.Vol/\q.Vol<=9
 text:(L q.Text).length<=64
 sec:0<=q.Sector/\q.Sector<=15
 of_:0<=q.Of/\q.Of<=9
 cl:q.Kind=4->1<=q.Of
 no:q.Kind≠4->q.Of=0
 tx:q.Kind≠1->L q.Text=[]
theorem WB (q:R4):∃v,Nt q=some v/\(v=true->ADP q):=by
 unfold Nt;simp only[EP,Aa];by_cases h1:1<=q.Kind/\q.Kind<=6
 ·rw[Ad h1];by_cases h2:1<=q.Vol/\q.Vol<=9
  ·rw[Ad h2];by_cases h3:FO q.Text>64
   ·rw[Ad h3];exact⟨_,rfl,by simp⟩
   rw[Af h3];rw[B8]at h3;simp only[Ah,Ac];have ht:(cond (q.Kind !=1) (some<|!(seq q.Text<|bs [])) (some false):Option Bool)=some (decide<|q.Kind≠1/\L q.Text≠ []):=by
    by_cases e:q.Kind=1
    ·rw[show(q.Kind !=1)=false by simp[e],Af λhh=>hh.1 e];rfl
    rw[show(q.Kind !=1)=true by simpa using e,Rt,EU];by_cases e2:L q.Text=[]
    ·rw[Ad e2,Af λhh=>hh.2 e2];rfl
    rw[Af e2,Ad<|show q.Kind≠1/\L q.Text≠ []from⟨e,e2⟩];rfl
   rw[ht];simp only[Aa];by_cases h4:q.Kind≠1/\L q.Text≠ []
   ·rw[Ad h4];exact⟨_,rfl,by simp⟩
   rw[Af h4];simp only[Ac]
   have a:q.Kind≠1->L q.Text=[]:=λhk=>Classical.byContradiction λhh=>h4 ⟨hk,hh⟩
   by_cases h5:q.Kind=4
   ·rw[show(q.Kind==4)=true by simpa using h5];simp only[Ae];by_cases h6:q.Sector=0
    ·rw[show(q.Sector==0)=true by simpa using h6];refine⟨_,rfl,λhh=>?_⟩;rw[A6]at hh;exact⟨h1,h2,by omega,by omega,by omega,λ_=>hh.1,λhk=>absurd h5 hk,a⟩
    rw[show(q.Sector==0)=false by simpa using h6];exact⟨_,rfl,by simp⟩
   rw[show(q.Kind==4)=false by simpa using h5];simp only[Ac];by_cases h6:q.Of=0
   ·rw[show(q.Of !=0)=false by simp[h6]];simp only[Ac];by_cases h7:q.Kind=3\/q.Kind=5
    ·have:(cond (q.Kind==3) (some true) (some<|q.Kind==5):Option Bool)=some true:=by
      rcases h7 with e|e<;>rw[e]<;>rfl
     rw[this];refine⟨_,rfl,λhh=>?_⟩;rw[Ce]at hh;exact⟨h1,h2,by omega,by omega,by omega,λhk=>absurd hk h5,λ_=>h6,a⟩
    have:(cond (q.Kind==3) (some true) (some<|q.Kind==5):Option Bool)=some false:=by
     rw[show(q.Kind==3)=false by rw[Dh];omega,show(q.Kind==5)=false by rw[Dh];omega];rfl
    rw[this];refine⟨_,rfl,λhh=>?_⟩;rw[A6]at hh;exact⟨h1,h2,by omega,hh,by omega,λhk=>absurd hk h5,λ_=>h6,a⟩
   rw[show(q.Of !=0)=true by simpa using h6];exact⟨_,rfl,by simp⟩
  rw[Af h2];exact⟨_,rfl,by simp⟩
 rw[Af h1];exact⟨_,rfl,by simp⟩
def zQ (d:AA) (r:List Aq) (q:R4) (x:Cz) (a:ByteArray):Prop:=GJ x=true/\x.Kind≠1/\x.Vol=q.Vol/\((L a=[]/\(x.Kind=4->E5 (By d.Store) x.Chunk/\C4 r x.Chunk=some q.Text))\/(x.Kind=4/\x.Chunk=d.Store.Next/\L a≠ []/\T7 a=some q.Text/\∀c,E5 (By d.Store) c->C4 r c≠some q.Text))
theorem Wr (h:HD d r) (q:R4):∃a text no,Fi d q=some (a,text,no)/\((a=[]/\text=bs [])\/(no=0/\∃x,a=[x]/\zQ d r q x text))/\(no≠0->a=[]):=by
 have j:=h.st.len;have b:=h.st.nx;obtain⟨v,a1,a2⟩:=WB q;unfold Fi;rw[a1];simp only[Aa]
 cases v with
 |false=>exact⟨_,_,_,rfl,.inl ⟨rfl,rfl⟩,λ_=>rfl⟩
 |true=>
  have hq:=a2 rfl;simp only[Ah,Ac];have g:=hq.kind;obtain⟨w,hw⟩:∃w,Dr d.Store q.Vol=some w:=by
   rcases Ej d.Store (by omega) q.Vol with⟨e,_⟩|⟨k,_,e,_⟩<;>exact⟨_,e⟩
  rw[hw];simp only[Aa];by_cases h34:q.Kind=3\/q.Kind=4
  ·have:(cond (q.Kind==3) (some true) (some<|q.Kind==4):Option Bool)=some true:=by
    rcases h34 with e|e<;>rw[e]<;>rfl
   rw[this];simp only[Aa,Ae]
   cases decide (w>=0)with
   |true=>exact⟨_,_,_,rfl,.inl ⟨rfl,rfl⟩,λ_=>rfl⟩
   |false=>
    simp only[Ac];obtain⟨j2,i⟩:∃j2,(cond (q.Kind==4) ((Dr d.Store q.Of).bind λv3=>some<|decide<|v3<0) (some false):Option Bool)=some j2:=by
     cases q.Kind==4 with
     |false=>exact⟨_,rfl⟩
     |true=>
      rcases Ej d.Store (by omega) q.Of with⟨e,_⟩|⟨k,_,e,_⟩<;>rw[e]<;>exact⟨_,rfl⟩
    rw[i];simp only[Aa]
    cases j2 with
    |true=>exact⟨_,_,_,rfl,.inl ⟨rfl,rfl⟩,λ_=>rfl⟩
    |false=>
     simp only[Ac]
     cases decide (ln d.Store.Vols>=3)with
     |true=>exact⟨_,_,_,rfl,.inl ⟨rfl,rfl⟩,λ_=>rfl⟩
     |false=>
      refine⟨_,_,_,rfl,.inr ⟨rfl,_,rfl,ADd hq.vol hq.of_,by simp,rfl,.inl ⟨EU _,λhh=>by simp at hh⟩⟩,λhh=>absurd rfl hh⟩
  have:(cond (q.Kind==3) (some true) (some<|q.Kind==4):Option Bool)=some false:=by
   rw[show(q.Kind==3)=false by rw[Dh];omega,show(q.Kind==4)=false by rw[Dh];omega];rfl
  rw[this];simp only[Aa,Ac]
  cases decide (w>=0)with
  |false=>exact⟨_,_,_,rfl,.inl ⟨rfl,rfl⟩,λ_=>rfl⟩
  |true=>
   simp only[Ah,Ac]
   cases k1:(q.Kind==1)with
   |true=>
    simp only[Ae];obtain⟨live,l1,l2,l3,l4⟩:=Hx h.st;obtain⟨c,f1,f2⟩:=Ro h l4 q.Text;rw[l1,Aa,f1];simp only[Aa]
    rcases f2 with⟨rfl,f2⟩|⟨f2,f3⟩
    ·obtain⟨z,z1,z2,z3⟩:=pA q.Text hq.text;rw[show((0:Int)==0)=true from rfl,z1];refine⟨_,_,_,rfl,.inr ⟨rfl,_,rfl,zK hq.vol (by have:=hq.sec;omega) ⟨b.1,b.2⟩,by simp,rfl,.inr ⟨rfl,rfl,?_,?_,λc hc=>f2 c<|(l3 c).2 hc⟩⟩,λhh=>absurd rfl hh⟩
     ·intro e;have e':L z=[]:=e;rw[e']at z3;simp at z3
     show T7 z=some q.Text;unfold T7;rw[z2]
    have f:=(l3 c).1 f2;have l:=YB h.st f;rw[show(c==0)=false by rw[Dh];omega];refine⟨_,_,_,rfl,.inr ⟨rfl,_,rfl,zK hq.vol (by have:=hq.sec;omega) (by omega),by simp,rfl,.inl ⟨EU _,λ_=>⟨f,f3⟩⟩⟩,λhh=>absurd rfl hh⟩
   |false=>
    simp only[Ac]
    cases k2:(q.Kind==2)with
    |true=>
     refine⟨_,_,_,rfl,.inr ⟨rfl,_,rfl,?_,by simp,rfl,.inl ⟨EU _,λhh=>by simp at hh⟩⟩,λhh=>absurd rfl hh⟩;have:=hq.vol;have:=hq.sec;unfold GJ;simp;omega
    |false=>
     simp only[Ac]
     cases k5:(q.Kind==5)with
     |true=>
      refine⟨_,_,_,rfl,.inr ⟨rfl,_,rfl,?_,by simp,rfl,.inl ⟨EU _,λhh=>by simp at hh⟩⟩,λhh=>absurd rfl hh⟩;have:=hq.vol;unfold GJ;simp;omega
     |false=>exact⟨_,_,_,rfl,.inl ⟨rfl,rfl⟩,λ_=>rfl⟩
theorem oN (h:DA l nx x=some (l',nx')) (hk:x.Kind≠1):(∀c,E5 l' c->E5 l c\/c=x.Chunk)/\nx<=nx'/\nx'<=max nx (x.Chunk+1):=by
 unfold DA at h;split at h
 ·cases h
 first
  |rw[Av hk]at h
  |skip
 split at h
 ·split at h
  ·cases h
  injection h with h
  injection h with h1 h2
  subst h1 h2;refine⟨λc hc=>?_,by omega,by omega⟩;obtain⟨h0,p,hp,hx⟩:=hc;unfold rE at hp;simp only[Ak,Bf,AE]at hp
  rcases hp with(hp|rfl)|hp
  ·exact .inl ⟨h0,p,hp.1,hx⟩
  ·simp only at hx
   have zz:c∉TH:=λhz=>by have:=D4 hz;omega
   split at hx
   ·cases hg:KY l x.Arg with
    |none=>rw[hg]at hx;exact absurd hx zz
    |some row=>
     rw[hg]at hx;unfold KY at hg;obtain⟨w,a,b⟩:=AL.1 hg;have d:=List.mem_of_find?_eq_some a;exact .inl ⟨h0,w,d,by rw[b];exact hx⟩
   exact absurd hx zz
  exact .inl ⟨h0,p,hp.1,hx⟩
 split at h
 ·cases h
 split at h
 ·injection h with h
  injection h with h1 h2
  subst h1 h2;refine⟨λc hc=>?_,by omega,by omega⟩;obtain⟨h0,p,hp,hx⟩:=hc;exact .inl ⟨h0,p,(Bf.1 hp).1,hx⟩
 injection h with h
 injection h with h1 h2
 subst h1 h2;refine⟨λc hc=>?_,by omega,by omega⟩;obtain⟨h0,p,hp,hx⟩:=hc;unfold qF at hp;obtain⟨w,hw,rfl⟩:=AF.1 hp;split at hx
 ·rcases C3 hx with hx|hx
  ·exact .inl ⟨h0,w,hw,hx⟩
  exact .inr hx
 exact .inl ⟨h0,w,hw,hx⟩
theorem rZ (h:DA l nx x=some (l',nx')) (hk:x.Kind≠1):∀p∈l',(∃p'∈l,p'.1=p.1)\/p.1=x.Vol:=by
 unfold DA at h;split at h
 ·cases h
 first
  |rw[Av hk]at h
  |skip
 split at h
 ·split at h
  ·cases h
  injection h with h
  injection h with h1 h2
  subst h1 h2;intro p hp;unfold rE at hp;simp only[Ak,Bf,AE]at hp
  rcases hp with(hp|rfl)|hp
  ·exact .inl ⟨p,hp.1,rfl⟩
  ·exact .inr rfl
  exact .inl ⟨p,hp.1,rfl⟩
 split at h
 ·cases h
 split at h
 ·injection h with h
  injection h with h1 h2
  subst h1 h2
  exact λp hp=> .inl ⟨p,(Bf.1 hp).1,rfl⟩
 injection h with h
 injection h with h1 h2
 subst h1 h2;intro p hp;unfold qF at hp;obtain⟨w,hw,rfl⟩:=AF.1 hp;refine .inl ⟨w,hw,?_⟩;split<;>rfl
theorem cQ (h:HD d r):∃v,Lx d=some v:=by
 have hr:=h.pages;have ht:1<=d.Tx/\d.Tx<=1000000001:=by
  rw[h.tx];have h1:=Zc r;refine⟨h1.2.1,h1.2.2 _ (by omega) λy hy _=>?_⟩;have:=(hr.tx y hy).2;omega
 unfold Lx
 cases(d.Base !=sb d.Tx 1)with
 |true=>exact⟨_,rfl⟩
 |false=>
  simp only[Ac];rw[h.scan.s,Aa,OD r hr];simp only[Aa];obtain⟨g1,_⟩:=QW hr;obtain⟨b,h1,_⟩:=AP (body:=λs:Int=>G7 d (Br r) s) (λ(_:Unit) i=>i) (Br r).length (λ_ _=>True) (λ_=>True)
   (λ_ i hi _=>by
    have hx:=Ab hi;simp only[G7,Ev hi,Aw,hx,Aa];rw[ad1]
    cases((Br r)[i].Num==d.Base)with
    |false=>simp
    |true=>
     simp only[Ae]
     cases a:(Br r)[i].Recs with
     |nil=>exact .inr ⟨_,rfl,trivial⟩
     |cons q m=>
      have hg:gi (q::m) 0=some q:=Aw (i:=0)
      grind)
   (λ_ _=>⟨.inl (),by simp only[G7,DT],trivial⟩) (s:=()) trivial
  rw[h1]
  cases b with
  |inl u=>exact⟨_,rfl⟩
  |inr v=>exact⟨v,rfl⟩
theorem cV (h:HD d r):∃v,L5 d=some v:=by
 have hn:=h.fl.n;obtain⟨live,l1,_,_,l4⟩:=Hx h.st;unfold L5;rw[h.scan.s,l1];simp only[Aa];rw[Nv r live d.Base h.scan.len l4,Nv r live 1000000000 h.scan.len l4];simp only[Aa]
 have a:∀b,live.foldl (dK r) (r.map<|D1 b)=CA r live b:=λ_=>rfl
 rw[a,a];obtain⟨b,h1,_⟩:=AP (body:=λs:Int×Int×Int=>Dv d r (CA r live d.Base) (CA r live 1000000000) s.1 s.2.1 s.2.2) (λ(o:Int×Int) i=>(o.1,o.2,i)) d.Flash.Blocks.length (λ_ _=>True) (λ_=>True)
  (λo i hi _=>by
   have hx:=Ab hi;have hP:=h.fl.blk _<|A5 hi;simp only[Dv,Ev hi,Aw,hx,Aa];rw[ZL r _ (i:Int) h.scan.len<|Kh _ _ _,ZL r _ (i:Int) h.scan.len<|Kh _ _ _,K9 _ hP.four,ad1];simp only[Aa,IL]
   cases(bif !d.Flash.Blocks[i].Bad then _ else false)with
   |true=>simp
   |false=>grind)
  (λo _=>⟨o.1,by simp only[Dv,DT],trivial⟩) (s:=(-1,4)) trivial
 grind
theorem HD.seqs (h:HD d r):0<=d.Seq/\d.Seq<=1000000001:=by
 rw[h.seq];have h1:=NS r;refine⟨by omega,h1.2.2 _ (by omega) λy hy=>?_⟩;have:=(h.pages.seq y hy).2;omega
theorem iB (h:∀y∈r',y.Page.Kind=2->y.Page.Tx<DC r+n):DC r'<=DC r+n:=(Zc r').2.2 _ (by have:=(Zc r).2.1;omega) h
theorem Y1 (n:Nat) (hy:y∈r) (hk:y.Page.Kind=2):y.Page.Tx<DC r+n:=by have:=(Zc r).1 y hy hk;omega
theorem fT {seq tx:Int} (h:p∈Cq seq tx T):p.Tx=tx:=by
 unfold Cq at h
 grind
theorem iJ (h:∀y∈r',y.Page.Seq<Db r+n):Db r'<=Db r+n:=(NS r').2.2 _ (by have:=(NS r).2.1;omega) h
theorem Y3 (n:Nat) (hy:y∈r):y.Page.Seq<Db r+n:=by have:=(NS r).1 y hy;omega
theorem qU {seq tx:Int} (h:p∈Cq seq tx T):p.Seq<seq+T.length:=by
 unfold Cq at h
 grind
theorem eM {c:Int} {a:ByteArray} (h:p∈Dm d c a++Cq (Jr d a) d.Tx T):p.Seq<d.Seq+1+T.length:=by
 rcases Ak.1 h with h|h
 ·unfold Dm at h
  grind
 have h1:=qU h;have h2:Jr d a<=d.Seq+1:=by unfold Jr;split<;>omega
 omega
theorem OJ {seq tx:Int} (h:p∈Cq seq tx T):p.Kind=2:=by
 unfold Cq at h
 grind
def AC4 (m:Flash) (s:Bc) (g:Flash):Prop:=BD g/\YW m g/\((s.Kind=1/\KE 0 g.Blocks=KE 0 m.Blocks)\/(s.Kind=2/\KE 0 g.Blocks=(KE 0 m.Blocks).filter λy=>y.Block !=s.Block))
def gN (f:Flash) (ss:List Bc) (k:Nat) (g:Flash):Prop:=∃m,Steps f (ss.take k) m/\(g=m\/∃s,ss[k]?=some s/\Uk m s/\AC4 m s g)
theorem Tz:∀{f:Flash} {a:List Bc} {g m:Flash},Steps f a g->Steps f a m->g=m
 |f,[],g,m,h,k=>by rw[show g=f from h,show m=f from k]
 |f,s::a,g,m,h,k=>Tz h.2 k.2
theorem wV {m:Flash} {a b:List Bc} (h:gN f (a++b) k g) (hs:Steps f a m):(k<a.length/\gN f a k g)\/(a.length<=k/\gN m b (k-a.length) g):=by
 obtain⟨x,h1,h2⟩:=h;by_cases e:k<a.length
 ·left;rw[FQ<|by omega]at h1;rw[Bj e]at h2;exact⟨e,x,h1,h2⟩
 right;rw[Xq,AM<|by omega]at h1;rw[Bp<|by omega]at h2;obtain⟨y,y1,y2⟩:=(NH _ _ _ _).1 h1;rw[Tz y1 hs]at y2;exact⟨by omega,x,y2,h2⟩
structure Js (n:Nat) (d:AA) (r:List Aq) (d':AA) (r':List Aq):Prop where
 good:JT d' r'
 ab:By d'.Store=By d.Store
 nx:d'.Store.Next=d.Store.Next
 pg:∀y∈r',y.Page.Kind=1->∃z∈r,z.Page.Kind=1/\z.Page.Tx=y.Page.Tx/\z.Page.Text=y.Page.Text
 tx:DC r'<=DC r+n
 wear:∀w:Int,GP d.Flash w->GP d'.Flash (w+n)
 text:∀c,E5 (By d.Store) c->C4 r' c=C4 r c
 sq:Db r'<=Db r+200*n
structure As (d:AA) (r:List Aq) (d':AA) (r':List Aq):Prop where
 good:JT d' r'
 ab:By d'.Store=By d.Store
 nx:d'.Store.Next=d.Store.Next
 tx:DC r'<=DC r+1
 wear:∀w:Int,GP d.Flash w->GP d'.Flash (w+1)
 text:∀c,E5 (By d.Store) c->C4 r' c=C4 r c
theorem As.torn {b:List Aq} (h:As d a e b) (hg:BD g) (hp:KE 0 g.Blocks=KE 0 e.Flash.Blocks) (hw:YW e.Flash g):∃x,CR g=some (x,true)/\x.Flash=g/\As d a x b:=by
 obtain⟨x,u1,u2,u3⟩:=La hg (r:=b) (by rw[hp];exact h.good.dev.sr);obtain⟨e1,e2,_⟩:=Ht h.good.dev u2 rfl;exact⟨x,u1,u3,⟨⟨u2,h.good.core,by rw[e1];exact h.good.data⟩,by rw[e1,h.ab],by rw[e2,h.nx],h.tx,λw hh=>by rw[u3];exact hw _<|h.wear w hh,h.text⟩⟩
theorem Yy (h:YW f g) (w:Int) (hw:GP f w):GP g (w+n):=λb hb=>by have:=h w hw b hb;omega
theorem Js.refl (h:JT d r):Js n d r d r:=⟨h,rfl,rfl,λy hy hk=>⟨y,hy,hk,rfl,rfl⟩,by omega,Yy λ_ h=>h,λ_ _=>rfl,by omega⟩
theorem Js.trans {g:AA} {b c:List Aq} (h:Js n d a e b) (k:Js m e b g c):Js (n+m) d a g c:=⟨k.good,by rw[k.ab,h.ab],by rw[k.nx,h.nx],λy hy hk=>by
 obtain⟨z,z1,z2,z3,z4⟩:=k.pg y hy hk;obtain⟨w,w1,w2,w3,w4⟩:=h.pg z z1 z2
 grind,by have:=h.tx;have:=k.tx;omega,λw hw=>by
 have:=k.wear _<|h.wear w hw
 grind,λc hc=>by rw[k.text c (by rw[h.ab];exact hc),h.text c hc],by have:=h.sq;have:=k.sq;omega⟩
theorem Js.mono {b:List Aq} (h:Js n d a e b) (hm:n<=m):Js m d a e b:={h with
 tx:=by have:=h.tx;omega
 wear:=λw hw x hx=>by have:=h.wear w hw x hx;omega
 sq:=by have:=h.sq;omega}
theorem Js.torn {b:List Aq} (h:Js n d a e b) (hg:BD g) (hp:KE 0 g.Blocks=KE 0 e.Flash.Blocks) (hw:YW e.Flash g):∃x,CR g=some (x,true)/\x.Flash=g/\Js n d a x b:=by
 obtain⟨x,u1,u2,u3⟩:=La hg (r:=b) (by rw[hp];exact h.good.dev.sr);obtain⟨e1,e2,_⟩:=Ht h.good.dev u2 rfl;exact⟨x,u1,u3,⟨⟨u2,h.good.core,by rw[e1];exact h.good.data⟩,by rw[e1,h.ab],by rw[e2,h.nx],h.pg,h.tx,λw hh=>by rw[u3];exact hw _<|h.wear w hh,h.text,h.sq⟩⟩
def Pg (n:Nat) (d:AA) (r:List Aq) (steps:List Bc):Prop:=(∃m,Steps d.Flash steps m)/\∀k g,k<=steps.length->gN d.Flash steps k g->∃x rx,CR g=some (x,true)/\x.Flash=g/\Js n d r x rx
theorem fP {steps:List Bc} (h1:∀s∈steps,s.Kind=1) (hc:∀k,k<=steps.length->∃x rx,Steps d.Flash (steps.take k) x.Flash/\CR x.Flash=some (x,true)/\Js n d r x rx):Pg n d r steps:=by
 refine⟨?_,λk g hk hg=>?_⟩
 ·obtain⟨x,rx,c1,_⟩:=hc steps.length (Au _)
  grind
 obtain⟨x,rx,c1,c2,c3⟩:=hc k hk;obtain⟨m,m1,m2⟩:=hg;have:=Tz m1 c1;subst this
 rcases m2 with rfl|⟨s,s1,_,s2,s3,⟨_,s4⟩|⟨s4,_⟩⟩
 ·grind
 ·obtain⟨y,y1,y2,y3⟩:=c3.torn s2 s4 s3
  grind
 grind
theorem Pg.full {steps:List Bc} (h:JT d r) (hc:Pg n d r steps) (hl:steps.length<=1000000):∃x rx,Hw d steps=some x/\Steps d.Flash steps x.Flash/\Js n d r x rx:=by
 obtain⟨⟨m,hm⟩,hk⟩:=hc;obtain⟨x,rx,x1,x2,x3⟩:=hk steps.length m (Au _) ⟨m,by grind,.inl rfl⟩;exact⟨x,rx,Np h.dev hm (by omega) x1,by rw[x2];exact hm,x3⟩
theorem xU {re:List Aq} {a b:List Bc} (hk:Js n d r e re) (hs:Steps d.Flash a e.Flash) (ha:Pg n d r a) (hb:Pg m e re b):Pg (n+m) d r (a++b):=by
 refine⟨?_,λk g c hg=>?_⟩
 ·obtain⟨x,hx⟩:=hb.1;exact⟨x,(NH _ _ _ _).2 ⟨_,hs,hx⟩⟩
 rw[Ai]at c
 rcases wV hg hs with⟨e1,e2⟩|⟨e1,e2⟩
 ·obtain⟨x,rx,x1,x2,x3⟩:=ha.2 k g (by omega) e2;exact⟨x,rx,x1,x2,x3.mono<|by omega⟩
 obtain⟨x,rx,x1,x2,x3⟩:=hb.2 _ g (by omega) e2;exact⟨x,rx,x1,x2,hk.trans x3⟩
theorem ZQ (r m:List Aq) (c:Int) (h:∀y∈m,¬(y.Page.Kind=1/\y.Page.Tx=c)):KG (r++m) c=KG r c:=by
 unfold KG;rw[AN,Bq.2 λy hy hh=>h y hy<|Sm.1 hh,A3]
theorem cH (h:JT d r) (hw:GP d.Flash 999999999):∃steps ok,LA d=some (steps,ok)/\steps.length<=200/\(ok=false->steps=[])/\(ok=true->Pg 1 d r steps):=by
 have hv:=h.dev.st.vs;obtain⟨dead,d1,d2,d3⟩:=ZA h.dev;unfold LA;rw[d1];simp only[Aa]
 cases hd:dead with
 |cons b m=>
  rw[Ad (by rw[Bz,A7];omega:ln (b::m)>0),show gi (b::m) 0=some b from Aw (i:=0)];simp only[Ae,Aa];refine⟨_,_,rfl,by simp,(λhh=>by cases hh),λ_=>?_⟩;obtain⟨x,x1,x2,x3⟩:=d3 b (by rw[hd];simp);have hc:AAR d.Flash b:=⟨x,x1,x2,λe=>by have:=hw x<|Ar (Da x1).2;omega⟩;have hs:Uk d.Flash (Bc.mk 2 b 0<|bs []):= .inr ⟨rfl,hc⟩;obtain⟨w1,w2⟩:=Xt h.dev.fl hc;have he:Lm d.Flash (Bc.mk 2 b 0<|bs [])=Vc d.Flash b:=by rfl
  have wp:∀g,BD g->KE 0 g.Blocks=((KE 0 d.Flash.Blocks).filter λy=>y.Block !=b)->(∀w:Int,GP d.Flash w->GP g (w+1))->∃x rx,CR g=some (x,true)/\x.Flash=g/\Js 1 d r x rx:=by
   intro g g1 g2 g3;obtain⟨d',u1,u2,u3,u4,u5,_,u6⟩:=ABn h x3 g1 g2;exact⟨d',_,u1,u2,u3,u4,u5,λy hy hk=>⟨y,(Bf.1 hy).1,hk,rfl,rfl⟩,iB λy hy hk=>Y1 _ (Bf.1 hy).1 hk,by rw[u2];exact g3,u6,iJ (n:=200*1) λy hy=>Y3 _ (Bf.1 hy).1⟩
  refine⟨⟨_,hs,rfl⟩,λk g hk hg=>?_⟩;obtain⟨q,q1,q2⟩:=hg
  cases k with
  |zero=>
   rw[show q=d.Flash from q1]at q2
   rcases q2 with rfl|⟨s,s1,_,s2,s3,⟨s4,_⟩|⟨_,s4⟩⟩
   ·obtain⟨x,u1,u2,u3⟩:=(Js.refl (n:=1) h).torn h.dev.fl rfl λ_ hh=>hh
    grind
   ·grind
   simp only[EA,Al]at s1;rw[<-s1]at s4
   exact wp g s2 s4 λw hh y hy=>by have:=s3 w hh y hy;omega
  |succ k=>
   have q1':Steps d.Flash [Bc.mk 2 b 0<|bs []] q:=by simpa using q1
   have e:q=Vc d.Flash b:=by rw[show q=Lm d.Flash (Bc.mk 2 b 0<|bs [])from q1'.2,he]
   rcases q2 with rfl|⟨s,s1,_⟩
   ·rw[e]
    exact wp _ w1 w2 λw hh=>by rw[<-he];exact eY hh (by omega)<|.inr<|GO _
   simp at s1
 |nil=>
  rw[show decide (ln ([]:List Int)>0)=false from rfl];simp only[Ac];obtain⟨v,v1⟩:=cQ h.dev;rw[v1];simp only[Aa]
  cases v with
  |false=>
   simp only[AD,Ae];unfold M9;rw[VA h.dev.st];simp only[Aa];obtain⟨b1,b2⟩:=gU hv
   rcases Rk h.dev.fl h.dev.seqs (Ld (By d.Store) d.Store.Next) (by unfold Ld;simp) b2 b1 (bs [])with w|⟨steps,T,g,f,w1,w2,w3,w4,w5,w6,w7,w8,w9⟩
   ·grind
   rw[w2];simp only[Aa];have j:=(Fw w7).2;have o:(Cq (Jr d<|bs []) d.Tx T).length=T.length:=by unfold Cq;grind
   have l:Dm d f.Chunk (bs [])=[]:=by rfl
   rw[l,A4,o]at j;refine⟨_,_,rfl,by omega,(λhh=>by cases hh),λ_=>fP (Rm w7) λk hk=>?_⟩;obtain⟨m,d',r',c1,c2,c3,c4,c5,rfl,cw,c6,c7,c8,c9⟩:=Wz h b1 w3 w4 w5 w6 w7 w9 (λhh=>absurd (EU _) hh) k hk;have a:By d'.Store=By d.Store/\d'.Store.Next=d.Store.Next:=by
    by_cases e:k<steps.length
    ·obtain⟨e1,e2,_⟩:=Ht h.dev c4 (by rw[c8 e]);exact⟨e1,e2⟩
    obtain⟨q,hq⟩:=(c9<|by omega).1;have hB:dM (Tx.mk d.Tx q<|Ld (By d.Store) d.Store.Next)=true:=rfl;have a:=c4.ab;rw[hq,SM,Az hB]at a;have:LF [Tx.mk d.Tx q<|Ld (By d.Store) d.Store.Next]=(By d.Store,d.Store.Next):=by
     show(CL [] 1<|Ld (By d.Store) d.Store.Next).getD ([],1)=_;rw[gV hv];rfl
    grind
   have hX:∀y∈(Ck steps<|Dm d f.Chunk (bs [])++Cq (Jr d<|bs []) d.Tx T).take k,y.Page.Kind=2/\y.Page.Tx=d.Tx:=λy hy=>by
    have cP:=MC _ _ _ y hy;rw[l,A4]at cP;exact⟨OJ cP,fT cP⟩
   refine⟨d',_,by rw[c5];exact c1,by rw[c5];exact c3,⟨c4,c6,by rw[a.1];exact c7⟩,a.1,a.2,λy hy hk=>?_,iB λy hy hk=>?_,by rw[c5];exact Yy (n:=1) cw,λc hc=>?_,iJ (n:=200*1) λy hy=>?_⟩
   ·grind
   ·rcases Ak.1 hy with hh|hh
    ·exact Y1 _ hh hk
    rw[(hX y hh).2,h.dev.tx];omega
   ·unfold C4;rw[ZQ _ _ _ λy hy hh=>by grind]
   rcases Ak.1 hy with hh|hh
   ·exact Y3 _ hh
   have:=eM<|MC _ _ _ y hh;rw[h.dev.seq]at this;omega
  |true=>
   simp only[Ah,Ac];obtain⟨vi,vi1⟩:=cV h.dev;rw[vi1];simp only[Aa]
   cases decide (vi<0)with
   |true=>grind
   |false=>
    simp only[Ac]
    rcases dC h.dev h.few vi with w|⟨steps,ps,g,w1,w2,w3,w4,w5,w6,w7⟩
    ·grind
    rw[w1];refine⟨steps,true,rfl,by omega,(λhh=>by cases hh),λ_=>fP (Rm w2) λk hk=>?_⟩;obtain⟨m,d',c1,c2,c3,c4,c5,c6,_,cw,c7⟩:=AAi h w2 w4 w5 w6 k;refine⟨d',_,by rw[c4];exact c1,by rw[c4];exact c3,c5,c6.ab,c6.nx,λy hy hk=>?_,iB λy hy hk=>?_,by rw[c4];exact Yy (n:=1) cw,c7,iJ (n:=200*1) λy hy=>?_⟩
    ·rcases Ak.1 hy with hh|hh
     ·grind
     obtain⟨⟨_,_,z,z1,z2⟩,_⟩:=w6 _<|MC _ _ _ _ hh;obtain⟨a1,a2,a3⟩:=VM z1
     grind
    ·rcases Ak.1 hy with hh|hh
     ·exact Y1 _ hh hk
     have:=(w6 _<|MC _ _ _ _ hh).1.1;omega
    rcases Ak.1 hy with hh|hh
    ·exact Y3 _ hh
    have:=w7 _<|MC _ _ _ _ hh;rw[h.dev.seq]at this;omega
theorem LW (h:BD f):∃v:Int,M1 f=some v:=by
 obtain⟨v,v1,_⟩:=T4 f h.cap (by have:=h.few;omega);exact⟨v,v1⟩
theorem UV (h:JT d r) (hw:GP d.Flash 999999000) (most:Int):∃d' all r',Hy d most=some (d',all)/\Js 20 d r d' r'/\all.length<=4000/\Steps d.Flash all d'.Flash/\Pg 20 d r all:=by
 unfold Hy;rw[Ms h.dev];simp only[Aa]
 have l:∀{n:Nat} {a:List Bc},n<=20->Pg n d r a->Pg 20 d r a:=λhn hc=>⟨hc.1,λk g hk hg=>by
  obtain⟨x,rx,x1,x2,x3⟩:=hc.2 k g hk hg
  exact⟨x,rx,x1,x2,x3.mono hn⟩⟩
 obtain⟨b,h1,d',all,r',h2,h3,h4,h5,h6⟩:=AP (body:=λs:List Bc×Int×List Block×List Vol×List B5×Int×Int×Int×Int=>EH most s.1 s.2.1 s.2.2.1 s.2.2.2.1 s.2.2.2.2.1 s.2.2.2.2.2.1 s.2.2.2.2.2.2.1 s.2.2.2.2.2.2.2.1 s.2.2.2.2.2.2.2.2)
  (λ(o:List Bc×AA) i=>(o.1,i,o.2.Flash.Blocks,o.2.Store.Vols,o.2.Store.Arena.Knots,o.2.Store.Next,o.2.Seq,o.2.Tx,o.2.Base)) 20
  (λi o=>o.1.length<=200*i/\∃r',Js i d r o.2 r'/\Steps d.Flash o.1 o.2.Flash/\Pg i d r o.1)
  (λb=>∃d' all r',(b= .inr (d',all)\/b= .inl (all,d'.Flash.Blocks,d'.Store.Vols,d'.Store.Arena.Knots,d'.Store.Next,d'.Seq,d'.Tx,d'.Base))/\Js 20 d r d' r'/\all.length<=4000/\Steps d.Flash all d'.Flash/\Pg 20 d r all)
  (λo i hi hs=>by
   obtain⟨all,e⟩:=o;obtain⟨j,r',hg,c,f⟩:=hs;simp only at j hg c f;have m:AA.mk (Flash.mk e.Flash.Blocks) (Store.mk e.Store.Vols (Arena.mk e.Store.Arena.Knots) e.Store.Next) e.Seq e.Tx e.Base=e:=rfl;have p:Flash.mk e.Flash.Blocks=e.Flash:=rfl;simp only[EH];rw[m,p];obtain⟨v,v1⟩:=LW hg.good.dev.fl;rw[v1,Ad (by omega:(i:Int)<20)];simp only[Ae,Aa,IL]
   cases(bif decide ((i:Int)<most)then decide (v<12)else false)with
   |false=>
    simp only[Ac];exact .inr ⟨_,rfl,e,all,r',.inr rfl,hg.mono (by omega),by omega,c,l (by omega) f⟩
   |true=>
    simp only[Ae];obtain⟨steps,ok,c1,c2,_,c3⟩:=cH hg.good (λx hx=>by have:=hg.wear _ hw x hx;omega);rw[c1];simp only[Aa]
    cases ok with
    |false=>
     simp only[AD,Ae];exact .inr ⟨_,rfl,e,all,r',.inl rfl,hg.mono (by omega),by omega,c,l (by omega) f⟩
    |true=>
     obtain⟨d',r2,k1,k2,k3⟩:=(c3 rfl).full hg.good (by omega);simp only[Ah,Ac];rw[k1,Aa,BS (by omega),ad1]
     exact .inl ⟨(all++steps,d'),rfl,by simp;omega,r2,hg.trans k3,(NH _ _ _ _).2 ⟨_,c,k2⟩,xU hg c f<|c3 rfl⟩)
  (λo hs=>by
   obtain⟨all,e⟩:=o;obtain⟨j,r',hg,c,f⟩:=hs;refine⟨.inl (all,e.Flash.Blocks,e.Store.Vols,e.Store.Arena.Knots,e.Store.Next,e.Seq,e.Tx,e.Base),?_,e,all,r',.inr rfl,hg,by simpa using j,c,f⟩;simp only[EH]
   grind) (s:=([],d)) ⟨by simp,r,Js.refl h,rfl,⟨⟨_,rfl⟩,λk g hk hg=>by
   obtain⟨q,q1,q2⟩:=hg;rw[List.take_nil]at q1;rw[show q=d.Flash from q1]at q2
   rcases q2 with rfl|⟨s,s1,_⟩
   ·obtain⟨x,u1,u2,u3⟩:=(Js.refl (n:=0) h).torn h.dev.fl rfl λ_ hh=>hh
    grind
   simp at s1⟩⟩
 rw[h1]
 rcases h2 with rfl|rfl
 ·grind
 exact⟨d',all,r',rfl,h3,h4,h5,h6⟩
theorem zE {r:Int} (h:k<16):(EZ K r)[k]?=some (Ry K r k):=by unfold EZ;exact HI h
theorem m7 (h:CC s) (vol:Int) (hk:k<16):∃c,LB s vol (k:Int)=some c/\((KY (By s) vol=none/\c=0)\/∃a,KY (By s) vol=some a/\a[k]?=some c/\0<=c/\(c≠0->E5 (By s) c)):=by
 have hl:=h.len;unfold LB
 rcases Ej s (by omega) vol with⟨e,e2⟩|⟨i,v,e,e2,e3,_⟩
 ·rw[e];exact⟨0,rfl,.inl ⟨LN.1 e2,rfl⟩⟩
 rw[e];simp only[Aa];have hm:=Ar e2;have hr:=h.root _<|AF.2 ⟨v,hm,rfl⟩;rw[cF,Aw,e2,Aa,Z5 _ (by have:=h.few;omega) h.ar hr hk];have hg:=PP h.asc hm;rw[e3]at hg;have h0:=oU h.ar hr _<|bL hk;exact⟨_,rfl,.inr ⟨_,hg,zE hk,h0,λb=>⟨by omega,_,AF.2 ⟨v,hm,rfl⟩,bL hk⟩⟩⟩
theorem Xz (h:JT d r) (vol:Int) (hk:k<16):(KY (By d.Store) vol=none/\GR r d.Store vol (k:Int)=some (bs [],false))\/
  ∃a c,KY (By d.Store) vol=some a/\a[k]?=some c/\LB d.Store vol (k:Int)=some c/\((c=0/\GR r d.Store vol (k:Int)=some (bs [],true))\/(0<c/\E5 (By d.Store) c/\∃u,C4 r c=some u/\GR r d.Store vol (k:Int)=some (u,true))):=by
 have hl:=h.dev.st.len;obtain⟨c,c1,c2⟩:=m7 h.dev.st vol hk;unfold GR;rw[c1]
 rcases Ej d.Store (by omega) vol with⟨e,e2⟩|⟨i,v,e,e2,e3,_⟩
 ·rw[e];exact .inl ⟨LN.1 e2,rfl⟩
 have hg:=PP h.dev.st.asc<|Ar e2;rw[e3]at hg
 rcases c2 with⟨c2,_⟩|⟨a,c2,c3,c4,c5⟩
 ·grind
 rw[e];simp only[Aa];rw[cF];right;refine⟨a,c,c2,c3,rfl,?_⟩;by_cases e0:c=0
 ·grind
 rw[show(c==0)=false by simpa using e0];simp only[Ac];have b:=c5 e0;obtain⟨u,hu⟩:=h.data.data c b;obtain⟨w,ok,t1,t2⟩:=mQ h.dev.pages c
 grind
theorem UR (h:HD d r) {q:R4} {a:List Cz} {b:ByteArray} (hp:Fi d q=some (a,b,0)):ADP q:=by
 obtain⟨v,a1,a2⟩:=WB q
 cases v with
 |true=>exact a2 rfl
 |false=>
  unfold Fi at hp
  grind
def pJ (r r':List Aq) (c:Int) (a:ByteArray):Prop:=(∀y∈r',y.Page.Kind=1->(∃z∈r,z.Page.Kind=1/\z.Page.Tx=y.Page.Tx/\z.Page.Text=y.Page.Text)\/(L a≠ []/\y.Page.Tx=c/\y.Page.Text=a))/\DC r'<=DC r+1/\Db r'<=Db r+10
theorem tE (h:JT d r) {q:R4} {a:ByteArray} (hx:zQ d r q x a):DO d [x] a=some ([],false)\/∃steps d' r',DO d [x] a=some (steps,true)/\steps.length<=10/\Hw d steps=some d'/\JT d' r'/\
  (By d'.Store,d'.Store.Next)=(DA (By d.Store) d.Store.Next x).getD (By d.Store,d.Store.Next)/\d.Store.Next<=d'.Store.Next/\d'.Store.Next<=d.Store.Next+1/\pJ r r' x.Chunk a/\YW d.Flash d'.Flash/\Steps d.Flash steps d'.Flash/\((∀c,E5 (By d.Store) c->C4 r' c=C4 r c)/\(L a≠ []->C4 r' x.Chunk=T7 a))/\1<=steps.length/\∀k g,k<steps.length->gN d.Flash steps k g->∃y ry,CR g=some (y,true)/\y.Flash=g/\As d r y ry/\pJ r ry x.Chunk a:=by
 obtain⟨x1,x2,xv,x3⟩:=hx;have h7:=h.dev.st.nx
 have i:∀z∈ [x],GJ z=true:=λz hz=>by grind
 rcases Rk h.dev.fl h.dev.seqs [x] (by simp) (by simp) i a with w|⟨steps,T,g,b,w1,w2,w3,w4,w5,w6,w7,w8,w9⟩
 ·exact .inl w
 right;have j:b=x:=by simpa using w1.symm
 subst j;have o:=(Fw w7).2;have h2:(Cq (Jr d a) d.Tx T).length=T.length:=by unfold Cq;grind
 have h8:(Dm d b.Chunk a).length<=1:=by unfold Dm;split<;>simp
 rw[Ai,h2]at o
 have t:L a≠ []->¬E5 (By d.Store) b.Chunk:=λht h3=>by
  rcases x3 with⟨x3,_⟩|⟨_,x4,_⟩
  ·exact ht x3
  have:=YB h.dev.st h3;omega
 have tk:∀k c,E5 (By d.Store) c->C4 (r++(Ck steps<|Dm d b.Chunk a++Cq (Jr d a) d.Tx T).take k) c=C4 r c:=λk c hc=>by
  unfold C4;rw[ZQ _ _ _ λz hz hh=>?_];have h4:=MC _ _ _ z hz
  rcases Ak.1 h4 with hh2|hh2
  ·unfold Dm at hh2
   grind
  have:=OJ hh2;omega
 have tn:L a≠ []->C4 (r++(Ck steps<|Dm d b.Chunk a++Cq (Jr d a) d.Tx T).take steps.length) b.Chunk=T7 a:=λe=>by
  rw[AM (by unfold Ck;grind),show Dm d b.Chunk a=[Page.mk 1 d.Seq b.Chunk 0 1 a] by unfold Dm;rw[Av e]]
  cases steps with
  |nil=>grind
  |cons s ss=>
   show C4 (r++Aq.mk s.Block s.Leaf (Page.mk 1 d.Seq b.Chunk 0 1 a)::Ck ss (Cq (Jr d a) d.Tx T)) b.Chunk=_;unfold C4;rw[List.append_cons,fY _ _ (λy hy=>by have:=OJ (MC ss _ _ y (by rw[AW];exact hy));omega),ME,Az ⟨rfl,rfl⟩];rfl
 have fw:∀k,pJ r (r++(Ck steps<|Dm d b.Chunk a++Cq (Jr d a) d.Tx T).take k) b.Chunk a:=λk=>by
  have cP:∀y∈r++(Ck steps<|Dm d b.Chunk a++Cq (Jr d a) d.Tx T).take k,y∈r\/y.Page∈Dm d b.Chunk a++Cq (Jr d a) d.Tx T:=λy hy=>(Ak.1 hy).imp id<|MC _ _ _ y
  refine⟨λy hy hk=>?_,iB (n:=1) λy hy hk=>?_,iJ (n:=10) λy hy=>?_⟩
  ·rcases cP y hy with hh|hh
   ·grind
   rcases Ak.1 hh with hh|hh
   ·unfold Dm at hh;by_cases e:L a=[]
    ·grind
    grind
   have:=OJ hh;omega
  ·rcases cP y hy with hh|hh
   ·exact Y1 _ hh hk
   rcases Ak.1 hh with hh|hh
   ·unfold Dm at hh
    grind
   rw[fT hh,h.dev.tx];omega
  rcases cP y hy with hh|hh
  ·exact Y3 _ hh
  have:=eM hh;rw[h.dev.seq]at this;omega
 have cut:∀k g,k<steps.length->gN d.Flash steps k g->∃y ry,CR g=some (y,true)/\y.Flash=g/\As d r y ry/\pJ r ry b.Chunk a:=λk g hk hg=>by
  obtain⟨m,y,ry,c1,c2,c3,c4,c5,hr',cw,c6,c7,c8,_⟩:=Wz h i w3 w4 w5 w6 w7 w9 t k (by omega);obtain⟨e1,e2,_⟩:=Ht h.dev c4 (by rw[c8 hk]);subst hr';have h5:As d r y (r++(Ck steps<|Dm d b.Chunk a++Cq (Jr d a) d.Tx T).take k):=⟨⟨c4,c6,by rw[e1];exact c7⟩,e1,e2,(fw k).2.1,by rw[c5];exact Yy (n:=1) cw,tk k⟩;obtain⟨q,q1,q2⟩:=hg;have:=Tz q1 c1;subst this
  rcases q2 with rfl|⟨s,s1,_,s2,s3,⟨_,s4⟩|⟨s4,_⟩⟩
  ·grind
  ·obtain⟨z,z1,z2,z3⟩:=h5.torn s2 (by rw[c5];exact s4) (by rw[c5];exact s3)
   grind
  have:=Rm w7 s<|Ar s1;omega
 obtain⟨m,d',r',c1,c2,c3,c4,c5,hr',cw,c6,c7,_,c9⟩:=Wz h i w3 w4 w5 w6 w7 w9 t steps.length<|Au _;rw[<-c5]at cw;rw[AW]at c1;have u:Steps d.Flash steps d'.Flash:=by rw[c5];exact c1
 have v:pJ r r' b.Chunk a:=by rw[hr'];exact fw _
 have tt:(∀c,E5 (By d.Store) c->C4 r' c=C4 r c)/\(L a≠ []->C4 r' b.Chunk=T7 a):=by grind
 obtain⟨⟨qn,hq⟩,c10⟩:=c9 rfl;have hB:¬dM (Tx.mk d.Tx qn [b])=true:=by
  unfold dM;simpa using x2
 have f:=c4.ab;rw[hq,SM,Av hB,ZU,<-h.dev.ab]at f;have h6:CL (By d.Store) d.Store.Next [b]=DA (By d.Store) d.Store.Next b:=by rfl
 simp only[h6]at f;have h0:=Np h.dev c1 (by omega) c3
 cases l:DA (By d.Store) d.Store.Next b with
 |none=>
  rw[l]at f;have e1:By d'.Store=By d.Store:=BE Prod.fst f;have e2:d'.Store.Next=d.Store.Next:=BE Prod.snd f;exact⟨steps,d',r',w2,by omega,h0,⟨c4,c6,by rw[e1];exact c7⟩,by rw[e1,e2];rfl,by omega,by omega,v,cw,u,tt,by omega,cut⟩
 |some p=>
  obtain⟨l',nx'⟩:=p;rw[l]at f;have e1:By d'.Store=l':=BE Prod.fst f;have e2:d'.Store.Next=nx':=BE Prod.snd f;obtain⟨v1,v2,v3⟩:=oN l x2
  have hz:∀c,E5 l' c->c=b.Chunk->b.Kind≠4->False:=λc hc h9 hk=>by
   have:b.Chunk=0:=by
    have hb:=x1;unfold GJ at hb
    grind
   have:=hc.1;omega
  have h1:b.Chunk<=d.Store.Next:=by
   by_cases hk:b.Kind=4
   ·rcases x3 with⟨_,x4⟩|⟨_,x4,_⟩
    ·have:=YB h.dev.st (x4 hk).1;omega
    omega
   have hb:=x1;unfold GJ at hb
   grind
  refine⟨steps,d',r',w2,by omega,h0,⟨c4,c6,?_⟩,by rw[e1,e2];rfl,by omega,by omega,v,cw,u,tt,by omega,cut⟩;rw[e1]
  rcases x3 with⟨x3,x4⟩|⟨x3,x4,x5,x6,x7⟩
  ·refine c7.mono λc hc=>?_
   grind
  exact(c10 _ x6 x5 x7).mono v1
def ABb (r r':List Aq) (nx:Int) (a:ByteArray):Prop:=(∀y∈r',y.Page.Kind=1->(∃z∈r,z.Page.Kind=1/\z.Page.Tx=y.Page.Tx/\z.Page.Text=y.Page.Text)\/(y.Page.Tx=nx/\T7 y.Page.Text=some a))/\DC r'<=DC r+21/\Db r'<=Db r+4010
def ADO (d d':AA) (v:Int):Prop:=∀p∈By d'.Store,(∃p'∈By d.Store,p'.1=p.1)\/p.1=v
theorem Js.q (h:Js n d r e r') (hn:n<=20) (nx:Int) (t:ByteArray):ABb r r' nx t:=⟨λy hy hk=> .inl (h.pg y hy hk),by have:=h.tx;omega,by have:=h.sq;omega⟩
theorem MF (h:By d'.Store=By d.Store) (v:Int):ADO d d' v:=λp hp=> .inl ⟨p,by rw[<-h];exact hp,rfl⟩
theorem ACt (h:JT d r) (hw:GP d.Flash 999999000) (q:R4):∃d' steps t no r',Nq d q=some (d',steps,t,no)/\JT d' r'/\d.Store.Next<=d'.Store.Next/\d'.Store.Next<=d.Store.Next+1/\ABb r r' d.Store.Next q.Text/\ADO d d' q.Vol/\∀w:Int,GP d.Flash w->GP d'.Flash (w+20):=by
 have a:Js 20 d r d r:=Js.refl h;unfold Nq;rw[Ms h.dev,Qq h.dev];simp only[Aa,Ah,Ac];obtain⟨o,v,no,p1,p2,p3⟩:=Wr h.dev q;rw[p1];simp only[Aa]
 cases f:(no !=0)with
 |true=>exact⟨_,_,_,_,r,rfl,h,by omega,by omega,a.q (by omega) _ _,MF rfl _,a.wear⟩
 |false=>
  have g:no=0:=by simpa using f
  subst g;have hq:=UR h.dev p1;simp only[Ac]
  cases h0:(q.Kind==6)with
  |true=>
   simp only[Ae];obtain⟨k,hk⟩:∃k:Nat,q.Sector=(k:Int):=⟨_,(Bk hq.sec.1).symm⟩;unfold M2;rw[h.dev.scan.s,hk];simp only[Aa]
   rcases Xz h q.Vol (k:=k) (by have:=hq.sec;omega)with⟨_,e⟩|⟨h1,c,_,_,_,⟨_,e⟩|⟨_,_,u,_,e⟩⟩
   ·rw[e];exact⟨_,_,_,_,r,rfl,h,by omega,by omega,a.q (by omega) _ _,MF rfl _,a.wear⟩
   ·rw[e];exact⟨_,_,_,_,r,rfl,h,by omega,by omega,a.q (by omega) _ _,MF rfl _,a.wear⟩
   rw[e];exact⟨_,_,_,_,r,rfl,h,by omega,by omega,a.q (by omega) _ _,MF rfl _,a.wear⟩
  |false=>
   simp only[Ac];obtain⟨v5,i⟩:=LW h.dev.fl;rw[i];simp only[Aa];have clean:∃e all re,(cond (decide<|v5<12) ((Hy d 20).bind λv6=>some (v6.2,v6.1.Flash.Blocks,v6.1.Store.Vols,v6.1.Store.Arena.Knots,v6.1.Store.Next,v6.1.Seq,v6.1.Tx,v6.1.Base)) (some ([],d.Flash.Blocks,d.Store.Vols,d.Store.Arena.Knots,d.Store.Next,d.Seq,d.Tx,d.Base)):Option (List Bc×List Block×List Vol×List B5×Int×Int×Int×Int))=some (all,Flash.Blocks<|AA.Flash e,e.Store.Vols,e.Store.Arena.Knots,e.Store.Next,e.Seq,e.Tx,e.Base)/\Js 20 d r e re/\all.length<=4000:=by
    cases decide (v5<12)with
    |false=>grind
    |true=>
     obtain⟨e,all,re,k1,k2,k3,_⟩:=UV h hw 20
     grind
   obtain⟨e,all,re,k1,k5,k4⟩:=clean;have k2:=k5.good;rw[k1];simp only[Aa];have j:AA.mk (Flash.mk e.Flash.Blocks) (Store.mk e.Store.Vols (Arena.mk e.Store.Arena.Knots) e.Store.Next) e.Seq e.Tx e.Base=e:=rfl;have l:Flash.mk e.Flash.Blocks=e.Flash:=rfl;rw[j,l];obtain⟨recs2,text2,no2,s1,s2,_⟩:=Wr k2.dev q;rw[s1];simp only[Aa];obtain⟨v9,m⟩:=LW k2.dev.fl;rw[m];have h2:=k5.nx
   rcases s2 with⟨rfl,rfl⟩|⟨_,x,rfl,s2⟩
   ·have hw:DO e [] (bs [])=some ([],true):=rfl;rw[hw];simp only[Aa,Ah,Ac]
    cases decide (v9<8)with
    |true=>exact⟨_,_,_,_,re,rfl,k2,by omega,by omega,k5.q (by omega) _ _,MF k5.ab _,k5.wear⟩
    |false=>
     simp only[Ac];obtain⟨d',u1,u2,u3⟩:=La k2.dev.fl k2.dev.sr;obtain⟨e1,e2,_⟩:=Ht k2.dev u2 rfl;rw[Np k2.dev (steps:=[]) rfl (by simp) u1,Aa,BS (by simp;omega)];exact⟨_,_,_,_,re,rfl,⟨u2,k2.core,by rw[e1];exact k2.data⟩,by omega,by omega,k5.q (by omega) _ _,MF (by rw[e1,k5.ab]) _,by rw[u3];exact k5.wear⟩
   rcases tE k2 s2 with w|⟨steps,d',r',w1,w2,w3,w4,w7,w5,w6,w8,w9,_⟩
   ·rw[w];exact⟨_,_,_,_,re,rfl,k2,by omega,by omega,k5.q (by omega) _ _,MF k5.ab _,k5.wear⟩
   rw[w1];simp only[Aa,Ah,Ac]
   cases decide (v9<8)with
   |true=>exact⟨_,_,_,_,re,rfl,k2,by omega,by omega,k5.q (by omega) _ _,MF k5.ab _,k5.wear⟩
   |false=>
    simp only[Ac];rw[w3,Aa,BS<|by omega];refine⟨_,_,_,_,r',rfl,w4,by omega,by omega,⟨λy hy hk=>?_,by have:=w8.2.1;have:=k5.tx;omega,by have:=w8.2.2;have:=k5.sq;omega⟩,λp hp=>?_,λw hh=>w9 _<|k5.wear w hh⟩
    ·rcases w8.1 y hy hk with⟨z,z1,z2,z3,z4⟩|⟨t1,t2,t3⟩
     ·obtain⟨w,a1,a2,a3,a4⟩:=k5.pg z z1 z2
      grind
     obtain⟨_,_,_,s3⟩:=s2
     grind
    have e1:=BE Prod.fst w7;simp only at e1;rw[e1]at hp
    cases b:DA (By e.Store) e.Store.Next x with
    |none=>
     rw[b]at hp;exact .inl ⟨p,by rw[<-k5.ab];exact hp,rfl⟩
    |some lp=>
     rw[b]at hp;obtain⟨l',nx'⟩:=lp;have n:p∈l':=hp
     rcases rZ b s2.2.1 p n with⟨p',q1,q2⟩|hh
     ·exact .inl ⟨p',by rw[<-k5.ab];exact q1,q2⟩
     exact .inr<|by rw[hh,s2.2.2.1]
structure MV (c:BY):Prop where
 i0:0<=c.i_
 i1:c.i_<=(c.b_.length:Int)
 len:c.b_.length<=1048576
theorem AAW (a:Int):0<=ban .i64 a 255/\ban .i64 a 255<=255:=by
 unfold ban;have h:(BitVec.ofInt IntKind.i64.bits a&&&BitVec.ofInt IntKind.i64.bits 255).toNat<=255:=by
  rw[BitVec.toNat_and];refine JD Nat.and_le_right ?_;exact Nat.le_of_eq rfl
 rw[Px (by omega)<|by omega];omega
theorem cI (h:MV c):∃v c',Kc c=some (v,c')/\MV c'/\0<=v/\v<=255:=by
 have:=h.i0;have:=h.i1;have:=h.len;unfold Kc;by_cases e:c.i_<ln c.b_
 ·rw[Ad e,Ae,KX h.i0 (by rw[Bz]at e;exact e)];rw[Bz]at e;rw[Aa,Cy (a:=c.i_) (by omega)<|by omega];exact⟨_,_,rfl,⟨by show 0<=c.i_+1;omega,by show c.i_+1<=(c.b_.length:Int);omega,h.len⟩,AAW _⟩
 rw[Af e,Ac];exact⟨_,_,rfl,⟨h.i0,h.i1,h.len⟩,AAW _⟩
theorem AD3 {a n:Int} (h0:0<=a) (hn:0<n):∃v,rm .i64 a n=some v/\0<=v/\v<n:=by
 unfold rm;rw[Av (by omega),Ll h0];exact⟨_,rfl,Int.emod_nonneg _ (by omega),Int.emod_lt_of_pos _ hn⟩
theorem T6 (h:MV c) (n:Int):∃v c',DS c n=some (v,c')/\MV c'/\0<=v/\(0<n->v<n):=by
 unfold DS;by_cases h0:n<=0
 ·rw[Ad h0];exact⟨_,_,rfl,h,by omega,λhh=>by omega⟩
 rw[Af h0,Ac];by_cases h1:n<=256
 ·rw[Ad h1,Ae];obtain⟨v,c',k1,k2,k3,k4⟩:=cI h;rw[k1];obtain⟨w,w1,w2,w3⟩:=AD3 (n:=n) k3 (by omega);rw[Aa,w1];exact⟨_,_,rfl,k2,w2,λ_=>w3⟩
 rw[Af h1,Ac];obtain⟨v1,c1,a1,a2,a3,a4⟩:=cI h;obtain⟨v2,c2,b1,b2,b3,b4⟩:=cI a2;obtain⟨v3,c3,d1,d2,d3,d4⟩:=cI b2;obtain⟨v4,c4,e1,e2,e3,e4⟩:=cI d2;rw[a1,Aa,b1,Aa,d1,Aa,e1,Aa,PH (by omega) (by omega),PH (by omega) (by omega),PH (by omega) (by omega),Cy (a:=v1*16777216) (b:=v2*65536) (by omega) (by omega),Cy (a:=v1*16777216+v2*65536) (b:=v3*256) (by omega) (by omega),Cy (a:=v1*16777216+v2*65536+v3*256) (b:=v4) (by omega)<|by omega];obtain⟨w,w1,w2,w3⟩:=AD3 (a:=v1*16777216+v2*65536+v3*256+v4) (n:=n) (by omega) (by omega);rw[w1];exact⟨_,_,rfl,e2,w2,λ_=>w3⟩
theorem NI (h:MV c) (hn:0<n):∃(v:Nat) (c':BY),DS c (n:Int)=some ((v:Int),c')/\MV c'/\v<n:=by
 obtain⟨v,c',k1,k2,k3,k4⟩:=T6 h (n:Int);have:=k4 (by omega);exact⟨v.toNat,c',by rw[Bk k3];exact k1,k2,by omega⟩
theorem xI {l:List Int} (h:MV c) (hl:0<l.length):∃v c',No c l=some (v,c')/\MV c'/\v∈l:=by
 unfold No;obtain⟨v,c',k1,k2,k3⟩:=NI h hl;rw[Bz,k1,Aa,Aw,Ab k3];exact⟨_,_,rfl,k2,A5 k3⟩
theorem ADF {l:List ByteArray} (h:MV c) (hl:0<l.length):∃v c',P9 c l=some (v,c')/\MV c'/\v∈l:=by
 unfold P9;obtain⟨v,c',k1,k2,k3⟩:=NI h hl;rw[Bz,k1,Aa,Aw,Ab k3];exact⟨_,_,rfl,k2,A5 k3⟩
theorem AA7 (h:MV c) (n:Int):∃v c',Kb c n=some (v,c')/\MV c':=by
 unfold Kb;obtain⟨v,c',k1,k2,_⟩:=T6 h n;rw[k1];exact⟨_,_,rfl,k2⟩
theorem OY (h:MV c):MV (BY.mk c.b_ c.i_ c.h_):=h
theorem AC1 (h:code.length<=1048576):∃c,RM code=some c/\MV c:=by
 unfold RM;obtain⟨b,h1,_⟩:=AP (body:=λs:Int×Int=>Mx code s.1 s.2) (λ(o:Int) i=>(o,i)) code.length (λ_ _=>True) (λ_=>True)
  (λo i hi _=>by
   have hx:=Ab hi;simp only[Mx,KH,Ad hi,Ae,Aa,Aw,hx];rw[ad1 (i:=i)<|by omega]
   cases decide ((i:Int)<4000)with
   |true=>exact .inl ⟨_,rfl,trivial⟩
   |false=>exact .inr ⟨_,rfl,trivial⟩)
  (λo _=>⟨o,by simp only[Mx,KH,FH,LQ,Ac,Aa],trivial⟩) (s:=ad 36501<|ln code) trivial
 rw[h1];exact⟨_,rfl,⟨GO _,by show(0:Int)<=_;omega,h⟩⟩
def ten:List ByteArray:=[bs [],bs [97],bs [98,98],bs [97,98,99,100,97,98,99,100,97,98,99,100],bs [104,101,108,108,111],bs [104,101,108,108,111,32,104,101,108,108,111,32,104,101,108,108,111],bs [122,122,122,122,122,122,122,122,122,122,122,122],bs [113,49],bs [113,50],bs [113,51]]
theorem ADA (h:MV c):∃v c',SO c=some (v,c')/\MV c'/\v∈ten:=by
 unfold SO;obtain⟨v,c',k1,k2,k3⟩:=ADF h (l:=ten) (by simp[ten]);have e:P9 c ten=some (v,c'):=k1;unfold ten at e;rw[e];exact⟨_,_,rfl,k2,k3⟩
structure ABe (q:R4):Prop where
 kind:1<=q.Kind/\q.Kind<=6
 vol:1<=q.Vol/\q.Vol<=3
 rest:(q.Kind=1/\q.Text∈ten/\(0<=q.Sector/\q.Sector<=15)/\q.Of=0)\/(q.Kind≠1/\L q.Text=[]/\(((q.Kind=2\/q.Kind=6)/\(0<=q.Sector/\q.Sector<=15)/\q.Of=0)\/(q.Sector=0/\((q.Kind=4/\1<=q.Of/\q.Of<=9)\/((q.Kind=3\/q.Kind=5)/\q.Of=0)))))
theorem AA8 (h:MV c) (d:AA) (hv:d.Store.Vols.length<=3) (j:∀v∈d.Store.Vols,1<=v.Id/\v.Id<=3):∃q c',P7 c d=some (q,c')/\MV c'/\ABe q:=by
  unfold P7;obtain⟨k,c1,a1,a2,a3⟩:=xI h (l:=[1,1,1,1,1,1,2,3,4,5,6]) (by simp);rw[a1];simp only[Aa];obtain⟨v2,c2,b1,b2,b3,b4⟩:=T6 a2 3;have m:1<=k/\k<=6:=by simp at a3;omega
  have s:ad 1 v2=1+v2:=Cy (by omega) (by omega);have u:=b4 (by omega);rw[b1];simp only[Aa]
  have J1:∃x y c3,(cond ((ln d.Store.Vols)==0) (some (3,ad 1 v2,c2.b_,c2.i_,c2.h_)) ((cond (k !=3) (cond (k !=4) ((Kb c2 8).bind λv3=>
 some (!v3.1,v3.2.b_,v3.2.i_,v3.2.h_))<|some (false,c2.b_,c2.i_,c2.h_)) (some (false,c2.b_,c2.i_,c2.h_)):Option (Bool×List Int×Int×Int)).bind λj2=>
 cond j2.1 ((DS (BY.mk j2.2.1 j2.2.2.1 j2.2.2.2)<|ln d.Store.Vols).bind λv4=>
 (gi d.Store.Vols v4.1).bind λx1=>
 some (k,x1.Id,v4.2.b_,v4.2.i_,v4.2.h_)) (some (k,ad 1 v2,j2.2.1,j2.2.2.1,j2.2.2.2))):Option (Int×Int×List Int×Int×Int))=some (x,y,BY.b_ c3,c3.i_,c3.h_)/\MV c3/\(1<=x/\x<=6)/\1<=y/\y<=3:=by
   cases hz:(ln d.Store.Vols==0)with
   |true=>exact⟨_,_,c2,rfl,b2,by omega,by omega,by omega⟩
   |false=>
    simp only[Ac];have n:0<d.Store.Vols.length:=by
     rw[Dh,Bz]at hz;omega
    have J2:∃b c3,(cond (k !=3) (cond (k !=4) ((Kb c2 8).bind λv3=>some (!v3.1,v3.2.b_,v3.2.i_,v3.2.h_))<|some (false,c2.b_,c2.i_,c2.h_)) (some (false,c2.b_,c2.i_,c2.h_)):Option (Bool×List Int×Int×Int))=some (b,BY.b_ c3,c3.i_,c3.h_)/\MV c3:=by
     cases(k !=3)with
     |false=>exact⟨_,c2,rfl,b2⟩
     |true=>
      cases(k !=4)with
      |false=>exact⟨_,c2,rfl,b2⟩
      |true=>
       obtain⟨v3,c3,d1,d2⟩:=AA7 b2 8;simp only[Ae];rw[d1];exact⟨_,c3,rfl,d2⟩
    obtain⟨b,c3,e1,e2⟩:=J2;rw[e1];simp only[Aa]
    cases b with
    |false=>exact⟨_,_,c3,rfl,e2,m,by omega,by omega⟩
    |true=>
     simp only[Ae];obtain⟨v4,c4,f1,f2,f3⟩:=NI (OY e2) n;rw[Bz,f1,Aa,Aw,Ab f3];exact⟨_,_,c4,rfl,f2,m,j _<|A5 f3⟩
  obtain⟨x,y,c3,j1,j1c,jx,jy⟩:=J1;rw[j1];simp only[Aa];have J3:∃b c4,(cond (x==5) ((Kb (BY.mk c3.b_ c3.i_ c3.h_) 3).bind λv8=>some (!v8.1,v8.2.b_,v8.2.i_,v8.2.h_)) (some (false,c3.b_,c3.i_,c3.h_)):Option (Bool×List Int×Int×Int))=some (b,BY.b_ c4,c4.i_,c4.h_)/\MV c4:=by
   cases(x==5)with
   |false=>exact⟨_,c3,rfl,j1c⟩
   |true=>
    obtain⟨v8,c4,d1,d2⟩:=AA7 (OY j1c) 3;simp only[Ae];rw[d1];exact⟨_,c4,rfl,d2⟩
  obtain⟨b,c4,j3,j3c⟩:=J3;rw[j3];simp only[Aa,IL];have a:1<=(bif b then(1:Int)else x)/\(bif b then(1:Int)else x)<=6:=by cases b<;>simp<;>omega
  generalize (bif b then(1:Int)else x)=j4 at a
  cases o:(j4==1)with
  |true=>
   simp only[Ae];obtain⟨t,c5,t1,t2,t3⟩:=ADA<|OY j3c;rw[t1];simp only[Aa];obtain⟨v10,c6,u1,u2,u3,u4⟩:=T6 t2 16;rw[u1];have:=u4 (by omega);have hj:=Ce.1 o;exact⟨_,_,rfl,u2,⟨a,jy,.inl ⟨hj,t3,by show 0<=v10/\v10<=15;omega,rfl⟩⟩⟩
  |false=>
   simp only[Ac];have e:j4≠1:=by simpa using o
   have p:(cond (j4==2) (j4==2)<|j4==6)=decide (j4=2\/j4=6):=by
    by_cases e2:j4=2
    ·rw[e2];rfl
    rw[show(j4==2)=false by simpa using e2,Ac];by_cases e6:j4=6
    ·rw[e6];rfl
    rw[show(j4==6)=false by simpa using e6,Af<|by omega]
   rw[p];by_cases g:j4=2\/j4=6
   ·rw[Ad g];simp only[Ae];obtain⟨v11,c6,u1,u2,u3,u4⟩:=T6 (OY j3c) 16;rw[u1];have:=u4 (by omega);exact⟨_,_,rfl,u2,⟨a,jy,.inr ⟨e,EU _,.inl ⟨g,by show 0<=v11/\v11<=15;omega,rfl⟩⟩⟩⟩
   rw[Af g];simp only[Ac]
   cases f:(j4==4)with
   |true=>
    simp only[Ae];obtain⟨v12,c6,u1,u2,u3,u4⟩:=T6 (OY j3c) 3;have h44:=Ce.1 f;have:=u4 (by omega);rw[u1];simp only[Aa]
    cases r:d.Store.Vols with
    |nil=>
     rw[show decide (ln ([]:List Vol)>0)=false from rfl];exact⟨_,_,rfl,u2,⟨a,jy,.inr ⟨e,EU _,.inr ⟨rfl,.inl ⟨h44,by show 1<=ad 1 v12/\ad 1 v12<=9;rw[Cy];omega⟩⟩⟩⟩⟩
    |cons v vs=>
     rw[Ad (by rw[Bz,A7];omega:ln (v::vs)>0),show gi (v::vs) 0=some v from Aw (i:=0)];have:=j v (by rw[r];simp);exact⟨_,_,rfl,u2,⟨a,jy,.inr ⟨e,EU _,.inr ⟨rfl,.inl ⟨h44,by show 1<=v.Id/\v.Id<=9;omega⟩⟩⟩⟩⟩
   |false=>
    have h44:j4≠4:=by simpa using f
    exact⟨_,_,rfl,OY j3c,⟨a,jy,.inr ⟨e,EU _,.inr ⟨rfl,.inr ⟨by show j4=3\/j4=5;omega,rfl⟩⟩⟩⟩⟩
theorem AAT (h:3<=n/\n<=10):BD (Flash.mk (List.replicate n (Block.mk false 0 Ov))):=by
 refine⟨by simpa using h,λb hb=>?_⟩;rw[D4 hb];exact o5 ⟨by omega,by omega⟩
theorem iZ (h:3<=n/\n<=10):Qp (n:Int)=some (Flash.mk (List.replicate n (Block.mk false 0 Ov)),true):=by
 unfold Qp;rw[EP,Ad<|by omega];simp only[Aa,Ah,Ac];have q:=rC (body:=λs:Int×List Block=>Jy (n:Int) s.1 s.2) n (λ_=>Block.mk false 0 Ov)
  (λi a hi ho=>by
   simp only[Jy]
   rw[cT,Tb,Aa,BS (by simp;omega),Aa,ad1])
  (λa=>by simp only[Jy];rw[cF])
 rw[q,Aa,Nh,CS]
theorem fR:∀(n:Nat) (i:Int),KE i (List.replicate n (Block.mk false 0 Ov))=[]
 |0,i=>rfl
 |n+1,i=>by
  rw[GG,KE,fR n (i+1),ZI i 0 _ (λy hy=>by rw[D4 hy];simp)];rfl
theorem pN (h:3<=n/\n<=10):∃d,OF (n:Int)=some (d,true)/\JT d []/\By d.Store=[]/\d.Store.Next=1/\d.Flash=Flash.mk (List.replicate n (Block.mk false 0 Ov)):=by
 have hP:=AAT h;have b:SR (KE 0 (Flash.mk<|List.replicate n<|Block.mk false 0 Ov).Blocks) []:=by
  rw[fR];exact⟨List.Pairwise.nil,λ_=>rfl⟩
 obtain⟨d,u1,u2,u3⟩:=La hP b;have a:=u2.ab;have:LF (De<|Br [])=([],1):=rfl;rw[this]at a
 injection a with e1 e2
 refine⟨d,?_,⟨u2,⟨⟨by simp,by simp,by simp,by simp,by simp,by simp⟩,List.Pairwise.nil,⟨λy hy=>by cases hy⟩⟩,?_⟩,e1,e2,u3⟩
 ·unfold OF;rw[iZ h];simp only[Aa,Ah,Ac];rw[u1];rfl
 rw[e1];refine⟨λc hc=>?_,λc c' hc=>?_⟩
 ·obtain⟨_,p,hp,_⟩:=hc;cases hp
 obtain⟨_,p,hp,_⟩:=hc;cases hp
structure ABc (d:AA) (r:List Aq):Prop where
 ids:∀p∈By d.Store,1<=p.1/\p.1<=3
 pg:∀y∈r,y.Page.Kind=1->y.Page.Tx<=13/\∃s∈ten,T7 y.Page.Text=some s
structure Ext (d:AA) (r:List Aq):Prop extends ABc d r where
 tx:DC r<=1000
 sq:Db r<=100000
 wear:GP d.Flash 1000
theorem ABe.text {q:R4} (h:ABe q):q.Text∈ten:=by
 rcases h.rest with⟨_,h2,_⟩|⟨_,h2,_⟩
 ·exact h2
 rw[show q.Text=bs []from Lg (by rw[h2,EU])];simp[ten]
theorem ABc.step {q:R4} (h:ABc d r) (hq:ABe q) (hn:d.Store.Next<=13) (hf:ABb r r' d.Store.Next q.Text) (hi:ADO d d' q.Vol):ABc d' r':=by
 refine⟨λp hp=>?_,λy hy hk=>?_⟩
 ·rcases hi p hp with⟨p',h1,h2⟩|h1
  ·rw[<-h2];exact h.ids p' h1
  rw[h1];exact hq.vol
 rcases hf.1 y hy hk with⟨z,z1,z2,z3,z4⟩|⟨h1,h2⟩
 ·have:=h.pg z z1 z2;rw[z3,z4]at this;exact this
 exact⟨by omega,_,hq.text,h2⟩
theorem XG (h:MV c):∃d c' r,Mu c=some (d,c')/\MV c'/\JT d r/\d.Store.Next<=13/\Ext d r:=by
 unfold Mu;obtain⟨v,c1,a1,a2,a3⟩:=NI h (n:=4) (by omega);rw[show((4:Nat):Int)=4 from rfl]at a1;rw[a1,Aa,Cy,show(5:Int)+(v:Int)=((5+v:Nat):Int) by omega];obtain⟨d0,b1,b2,b3,b4,b5⟩:=pN (n:=5+v) (by omega);rw[b1];simp only[Aa];obtain⟨a,h1,d,cc,r,h2,h3,h4,h5,h6⟩:=AP (body:=λs:Int×List Block×List Vol×List B5×Int×Int×Int×Int×List Int×Int×Int=>Iq s.1 s.2.1 s.2.2.1 s.2.2.2.1 s.2.2.2.2.1 s.2.2.2.2.2.1 s.2.2.2.2.2.2.1 s.2.2.2.2.2.2.2.1 s.2.2.2.2.2.2.2.2.1 s.2.2.2.2.2.2.2.2.2.1 s.2.2.2.2.2.2.2.2.2.2)
  (λ(o:AA×BY) i=>(i,o.1.Flash.Blocks,o.1.Store.Vols,o.1.Store.Arena.Knots,o.1.Store.Next,o.1.Seq,o.1.Tx,o.1.Base,o.2.b_,o.2.i_,o.2.h_)) 12
  (λi o=>MV o.2/\(∃r,JT o.1 r/\ABc o.1 r/\DC r<=1+21*i/\Db r<=1+4010*i/\GP o.1.Flash (20*i))/\o.1.Store.Next<=1+i)
  (λa=>∃d cc r,a=(d.Flash.Blocks,d.Store.Vols,d.Store.Arena.Knots,d.Store.Next,d.Seq,d.Tx,d.Base,BY.b_ cc,cc.i_,cc.h_)/\MV cc/\JT d r/\d.Store.Next<=13/\Ext d r)
  (λo i hi hs=>by
   obtain⟨e,cu⟩:=o;obtain⟨k1,⟨r,k2,kx,kt,kq,kw⟩,k3⟩:=hs;simp only at k1 k2 k3 kx kw;have f:AA.mk (Flash.mk e.Flash.Blocks) (Store.mk e.Store.Vols (Arena.mk e.Store.Arena.Knots) e.Store.Next) e.Seq e.Tx e.Base=e:=rfl;simp only[Iq];rw[f];obtain⟨w,c3,w1,w2,w3⟩:=NI (OY k1) (n:=12) (by omega);rw[show((12:Nat):Int)=12 from rfl]at w1;rw[w1];simp only[Aa];by_cases b:(i:Int)<(w:Int)
   ·rw[Ad b,Ae];obtain⟨q,c4,q1,q2,q3⟩:=AA8 w2 e k2.dev.st.len λv hv=>kx.ids (v.Id,EZ e.Store.Arena.Knots v.Root)<|AF.2 ⟨v,hv,rfl⟩;rw[q1];simp only[Aa];obtain⟨d',steps,t,no,r',s1,s2,s3,s4,s5,s6,s7⟩:=ACt k2 (λx hx=>by have:=kw x hx;omega) q;rw[s1,Aa,ad1];exact .inl ⟨(d',c4),rfl,q2,⟨r',s2,kx.step q3 (by omega) s5 s6,by have:=s5.2.1;omega,by have:=s5.2.2;omega,λx hx=>by have:=s7 _ kw x hx;omega⟩,by show d'.Store.Next<=_;omega⟩
   rw[Af b,Ac]
   exact .inr ⟨_,rfl,e,c3,r,rfl,w2,k2,by omega,⟨kx,by omega,by omega,λx hx=>by have:=kw x hx;omega⟩⟩)
  (λo hs=>by
   obtain⟨e,cu⟩:=o;obtain⟨k1,⟨r,k2,kx,kt,kq,kw⟩,k3⟩:=hs;simp only at k1 k2 k3 kx kw;simp only[Iq];obtain⟨w,c3,w1,w2,w3⟩:=NI (OY k1) (n:=12) (by omega);rw[show((12:Nat):Int)=12 from rfl]at w1;rw[show((12:Nat):Int)=12 from rfl,w1,Aa,cF]
   exact⟨_,rfl,e,c3,r,rfl,w2,k2,by omega,⟨kx,by omega,by omega,λx hx=>by have:=kw x hx;omega⟩⟩) (s:=(d0,c1)) ⟨a2,⟨[],b2,⟨λp hp=>(by rw[b3]at hp;cases hp),λy hy=>by cases hy⟩,by simp[DC],by simp[Db],λx hx=>by
    rw[b5]at hx;rw[D4 hx]
    exact GO _⟩,by show d0.Store.Next<=_;omega⟩
 rw[h1,h2];exact⟨d,cc,r,rfl,h3,h4,h5,h6⟩
theorem lL (h:code.length<=1048576):∃d r,Ns code=some d/\JT d r/\d.Store.Next<=13/\Ext d r:=by
 unfold Ns;obtain⟨c,c1,c2⟩:=AC1 h;obtain⟨d,c',r,d1,d2,d3,d4⟩:=XG c2;rw[c1,Aa,d1];exact⟨d,r,rfl,d3,d4⟩
theorem xE (d:AA) (h:eB d.Flash r) (hs:Lp d.Store<=1048576) (id:Int) (k:Nat) (hk:k<16):∃u ok,GR r d.Store id (k:Int)=some (u,ok)/\Sy d id (k:Int)=some (u,ok):=by
 unfold Lp YQ at hs;have hl:=RA (z:=Vb) (l:=d.Store.Arena.Knots);have ha:Rg d.Store.Arena:=by unfold Rg;omega
 unfold GR Sy;obtain⟨v,h1,h2,h3⟩:=Ve d.Store id (by omega);rw[h1,h2];simp only[Aa]
 cases decide (v<0)with
 |true=>exact⟨_,_,rfl,rfl⟩
 |false=>
  simp only[Ac];obtain⟨c,c1,c2⟩:=tB d.Store (by omega) ha id k hk;rw[c1,c2];simp only[Aa]
  cases c==0 with
  |true=>exact⟨_,_,rfl,rfl⟩
  |false=>
   simp only[Ac];obtain⟨u,ok,t1,t2⟩:=Ww h c;rw[t1,t2];exact⟨_,_,rfl,rfl⟩
theorem yA (h:CC s):Lp s<=1048576:=by
 have h1:=h.len;have h2:=h.small;have a:∀l:List B5,(∀k∈l,k.Kids.length=4)->(l.map Vb).sum=4*l.length:=by
  intro l
  induction l with
  |nil=>intro _;rfl
  |cons k l ih=>
   intro hl;rw[BJ,FI,ih (λx hx=>hl x<|by simp[hx]),A7];have:=hl k (by simp);unfold Vb;omega
 have:=a s.Arena.Knots (λk hk=>by
  obtain⟨i,hi,rfl⟩:=AC hk;have:=(GE.1 h.ar i hi).1;rw[Oh hi]at this
  exact this)
 unfold Lp YQ zl;omega
theorem rI (h:JT d r) (vol:Int) (hk:k<16):Sy d vol (k:Int)=GR r d.Store vol (k:Int):=by
 obtain⟨u,ok,h1,h2⟩:=xE d h.dev.scan (yA h.dev.st) vol k hk;rw[h1,h2]
theorem aN (h:CC s) {live:List Int} (hl:FB s=some live):KT s=some live:=by
 obtain⟨l,e1,e2,_,_⟩:=Xp s (by have:=h.len;omega)<|kY h;rw[hl]at e1
 injection e1 with e1
 rw[e1];exact e2
theorem pG (h:HD d r) {live:List Int} (hl:FB d.Store=some live) (l2:asc live) (l4:live.length<=16777216) (a b:Int):Z3 d.Flash d.Store a b=some ((cn r.length (λj=>(CA r live a)[j]?.getD false&&bk r b j):Nat):Int)/\H4 d.Flash d.Store a b=some ((cn r.length (λj=>(CA r live a)[j]?.getD false&&bk r b j):Nat):Int):=by
 obtain⟨n,n1,n2⟩:=Yf h.scan d.Store (aN h.st hl) l2 l4 a b;have c:=ZL r (CA r live a) b h.scan.len<|Kh _ _ _;have e:CA r live a=live.foldl (dK r) (r.map<|D1 a):=rfl;rw[e]at c;rw[n1]at c
 injection c with c
 refine⟨?_,by rw[n2,c];rfl⟩;unfold Z3;rw[h.scan.s,hl];simp only[Aa];rw[Nv r live _ h.scan.len l4];simp only[Aa];rw[n1];simp only[Aa];rw[c];rfl
theorem ACb (h:HD d r) (hy:y∈r):J5 y.Page:=by
 obtain⟨b,x,g1,g2,_,g3⟩:=h.scan.page y hy;obtain⟨_,k1⟩:=Da g1;obtain⟨_,k2⟩:=Da g2;have hx:=h.fl.text b (Ar k1) x<|Ar k2;obtain⟨p,ok,m1,_,_,m2⟩:=IP x.Text (by omega);rw[g3]at m1
 injection m1 with m1
 injection m1 with m1 m3
 obtain⟨v,q1,q2⟩:=Us p;have hp:=m2 m3.symm;rw[hp]at q1
 injection q1 with q1
 rw[m1];exact q2.1 q1.symm
theorem AEG (hc:JR g) (ss:List Bc) (hs:ss.length<=1000) (p:Page) (b:Int):
  (∃s g',DW g ss p=some (g',ss++ [s],true)/\JR g'/\Df (Gk.mk g ss) p b=some (if(s.Block==b)=true then(false,Gk.mk g ss)else(true,Gk.mk g' (ss++ [s]))))\/
  (∃g' st,DW g ss p=some (g',st,false)/\∃w,Df (Gk.mk g ss) p b=some (false,w)):=by
 obtain⟨t,ok,t1,t2⟩:=Yc p;obtain⟨bb,l,room,p1,p2,p3⟩:=cC g hc;unfold DW Df;rw[t1,t2,p1,p2];simp only[Aa]
 cases ok with
 |false=>exact .inr ⟨g,ss,rfl,_,rfl⟩
 |true=>
  cases room with
  |false=>exact .inr ⟨g,ss,rfl,_,rfl⟩
  |true=>
   obtain⟨g2,v,g1,g3,g4⟩:=Xs g (Bc.mk 1 bb l t) hc;have a:JR g2:=by
    rcases g4 with⟨_,rfl⟩|⟨_,g4⟩
    ·exact hc
    exact g4.cap
   simp only[Ah,Ac,Aa,g1,g3];rw[BS (by simp only[A8];omega)]
   cases v with
   |true=>
    refine .inl ⟨Bc.mk 1 bb l t,g2,rfl,a,?_⟩
    cases hb:(bb==b)with
    |true=>simp only[Ae,BO]
    |false=>simp only[Ac,Aa];rfl
   |false=>
    refine .inr ⟨g2,_,rfl,?_⟩
    cases hb:(bb==b)with
    |true=>exact⟨_,by simp only[Ae];rfl⟩
    |false=>exact⟨_,by simp only[Ac,Aa];rfl⟩
abbrev MvS:=Int×List Bc×List Block
def dJ (sq:Int) (y:Aq):Page:=Page.mk 1 sq y.Page.Tx 0 1 y.Page.Text
noncomputable def mv (b:Int):List Aq->MvS->Option (Option MvS)
 |[],o=>some (some o)
 |y::ys,o=>(DW (Flash.mk o.2.2) o.2.1 (dJ o.1 y)).bind λv=>if v.2.2=true then(match v.2.1.getLast? with
  |some s=>if(s.Block==b)=true then some none else mv b ys (o.1+1,v.2.1,v.1.Blocks)
  |none=>some none)else some none
theorem AAg (b:Int):∀(xs ys:List Aq) (o:MvS),mv b (xs++ys) o=(mv b xs o).bind λq=>match q with
  |some o'=>mv b ys o'
  |none=>some none
 |[],ys,o=>rfl
 |x::xs,ys,o=>by
  simp only[B4,mv]
  cases DW (Flash.mk o.2.2) o.2.1 (dJ o.1 x)with
  |none=>rfl
  |some v=>
   simp only[Aa];split
   ·split
    ·split
     ·rfl
     exact AAg b xs ys _
    rfl
   rfl
def MvI (m:Nat) (o:MvS):Prop:=JR (Flash.mk o.2.2)/\o.2.1.length<=m/\0<=o.1/\o.1<=1000000001+m
theorem qY {o:MvS} (h:MvI m o) (hm:m<=1000):
  (∃s g',DW (Flash.mk o.2.2) o.2.1 (dJ o.1 y)=some (g',o.2.1++ [s],true)/\(s.Block==b)=false/\(∀ys,mv b (y::ys) o=mv b ys (o.1+1,o.2.1++ [s],g'.Blocks))/\MvI (m+1) (o.1+1,o.2.1++ [s],g'.Blocks)/\Df (Gk.mk (Flash.mk o.2.2) o.2.1) (dJ o.1 y) b=some (true,Gk.mk g' (o.2.1++ [s])))\/
  ((∀ys,mv b (y::ys) o=some none)/\(∃w,Df (Gk.mk (Flash.mk o.2.2) o.2.1) (dJ o.1 y) b=some (false,w))/\((∃s g',DW (Flash.mk o.2.2) o.2.1 (dJ o.1 y)=some (g',o.2.1++ [s],true)/\(s.Block==b)=true)\/∃g' st,DW (Flash.mk o.2.2) o.2.1 (dJ o.1 y)=some (g',st,false))):=by
 obtain⟨h1,h2,h3,h4⟩:=h
 rcases AEG h1 o.2.1 (by omega) (dJ o.1 y) b with⟨s,g',a1,a2,a3⟩|⟨g',st,a1,w,a2⟩
 ·cases hb:(s.Block==b)with
  |true=>
   rw[hb]at a3;exact .inr ⟨λys=>by simp only[mv,a1,Aa,BO,HU,hb],⟨_,a3⟩,.inl ⟨s,g',a1,hb⟩⟩
  |false=>
   rw[hb]at a3;refine .inl ⟨s,g',a1,hb,λys=>by simp only[mv,a1,Aa,BO,HU,hb,BA,Fq],⟨a2,?_,?_,?_⟩,by rw[a3];rfl⟩
   ·rw[Ai,A8];omega
   ·show 0<=o.1+1;omega
   show o.1+1<=_;omega
 exact .inr ⟨λys=>by simp[mv,a1],⟨w,a2⟩,.inr ⟨g',st,a1⟩⟩
theorem AAf:∀(xs:List Aq) {m:Nat} {o:MvS},MvI m o->m+xs.length<=1000->∃v,mv b xs o=some v/\∀o',v=some o'->MvI (m+xs.length) o'
 |[],m,o,h,_=>⟨some o,rfl,λo' e=>by injection e with e;subst e;exact h⟩
 |x::xs,m,o,h,hm=>by
  rw[A7]at hm
  rcases qY (b:=b) (y:=x) h (by omega)with⟨s,g',a1,a2,a3,a4,a5⟩|⟨a1,_⟩
  ·obtain⟨v,v1,v2⟩:=AAf xs a4 (by omega)
   exact⟨v,by rw[a3,v1],λo' e=>by
    have:=v2 o' e;rw[A7,show m+(xs.length+1)=m+1+xs.length by omega]
    exact this⟩
  exact⟨none,a1 xs,λo' e=>by cases e⟩
def Lw (b i:Int) (nd:List Bool) (r:List Aq):List Aq:=((nd.zip r).filter λq=>q.1&&(q.2.Block==b)&&(q.2.Leaf==i)).map Prod.snd
theorem tQ (hr:r.length<=40) (hk:∀y∈r,y.Page.Kind=1->y.Page.Count=1/\y.Page.Part=0) (d:nd.length=r.length) (hn:∀(j:Nat) y,r[j]?=some y->nd[j]?=some true->y.Page.Kind=1) (b i:Int):∀(n j:Nat),j+n=r.length->∀{m:Nat} {o:MvS},MvI m o->m+n<=1000->
  Ap (λs:List Bc×Int×Int×List Block=>EN b r nd i s.1 s.2.1 s.2.2.1 s.2.2.2) (o.2.1,o.1,(j:Int),o.2.2)=(mv b (Lw b i (nd.drop j) (r.drop j)) o).map λq=>match q with
   |some o'=> .inl (o'.2.1,o'.1,o'.2.2)
   |none=> .inr (.inr (.inr ([],false)))
 |0,j,hj,m,o,ho,hm=>by
  rw[A0];simp only[EN,KH];rw[cF,List.drop_of_length_le (by omega),List.drop_of_length_le (by omega)];rfl
 |n+1,j,hj,m,o,ho,hm=>by
  have a:j<r.length:=by omega
  have hx:=Ab a;have c:=Ab (show j<nd.length by omega);have hd:nd.drop j=nd[j]::nd.drop (j+1):=AS (by omega);have e:r.drop j=r[j]::r.drop (j+1):=AS a
  have go:∀{m':Nat} {o':MvS},MvI m' o'->m'+n<=1000->_:=λ{m' o'} h1 h2=>tQ hr hk d hn b i n (j+1) (by omega) (m:=m') (o:=o') h1 h2
  rw[A0];simp only[EN,Ev a,Aw,hx,c,Aa];rw[ad1,hd,e];have es:Lw b i (nd[j]::nd.drop (j+1)) (r[j]::r.drop (j+1))=if(nd[j]&&(r[j].Block==b)&&(r[j].Leaf==i))=true then r[j]::Lw b i (nd.drop<|j+1) (r.drop<|j+1)else Lw b i (nd.drop<|j+1) (r.drop<|j+1):=by
   simp only[Lw,List.zip_cons_cons,List.filter_cons];split<;>simp
  rw[es]
  cases f:nd[j]with
  |false=>
   simp only[AD,Ae,Aa,Bool.false_and,BA,Fq];exact go ho<|by omega
  |true=>
   simp only[Ah,Ac,CZ]
   cases hb:(r[j].Block==b)with
   |false=>
    simp only[bne,hb,AD,Ae,Aa,Bool.false_and,BA,Fq];exact go ho<|by omega
   |true=>
    simp only[bne,hb,Ah,Ac,Aa,CZ]
    cases g:(r[j].Leaf==i)with
    |false=>
     simp only[AD,Ae,BA,Fq];exact go ho<|by omega
    |true=>
     simp only[Ah,Ac,BO];have h1:=hn j r[j] hx (by rw[c,f]);obtain⟨h2,h3⟩:=hk r[j] (A5 a) h1;have ep:Page.mk r[j].Page.Kind o.1 r[j].Page.Tx r[j].Page.Part r[j].Page.Count r[j].Page.Text=dJ o.1 r[j]:=by rw[h1,h2,h3];rfl
     rw[ep];obtain⟨c1,c2,c3,c4⟩:=ho
     rcases qY (b:=b) (y:=r[j]) ⟨c1,c2,c3,c4⟩ (by omega)with⟨s,g',a1,a2,a3,a4,_⟩|⟨a1,_,⟨s,g',a2,a3⟩|⟨g',st,a2⟩⟩
     ·rw[a1,a3];simp only[Aa,Ah,Ac];rw[Bz,Ai,A8,Cm,show((o.2.1.length+1:Nat):Int)-1=(o.2.1.length:Int) by omega,Fv];simp only[Aa,a2,Ac];rw[Cy];exact go a4<|by omega
     ·rw[a2,a1];simp only[Aa,Ah,Ac];rw[Bz,Ai,A8,Cm,show((o.2.1.length+1:Nat):Int)-1=(o.2.1.length:Int) by omega,Fv];simp only[Aa,a3,Ae];rfl
     rw[a2,a1];simp only[Aa,AD,Ae];rfl
def kX (l:List Aq):Prop:=l.Pairwise λx y=>x.Page.Tx≠y.Page.Tx
theorem aZ {l:List Aq} {p:Aq->Bool} (hl:kX l) (hu:∀x∈l,∀y∈l,p x=true->p y=true->x=y) (hy:y∈l) (hp:p y=true):l.filter p=[y]:=by
 induction l with
 |nil=>cases hy
 |cons x l ih=>
  have h1:=C0.1 hl
  have hu':∀a∈l,∀c∈l,p a=true->p c=true->a=c:=λa ha c hc=>hu a (FR _ ha) c<|FR _ hc
  cases hx:p x with
  |true=>
   have e:x=y:=hu x (by simp) y hy hx hp;subst e;rw[CM hx,Bq.2];intro z hz b;have:=hu x (by simp) z (FR _ hz) hx b;exact h1.1 z hz<|by rw[this]
  |false=>
   rw[DI<|by simp[hx]]
   rcases CO.1 hy with rfl|hy
   ·rw[hp]at hx;cases hx
   exact ih h1.2 hu' hy
theorem yZ {c:List Aq} (ha:kX a) (hc:kX c) (hm:∀y,y∈a↔y∈c) (hu:∀x∈a,∀y∈a,x.Leaf=y.Leaf->x=y):BW BF a c:=by
 intro k
 have e1:∀x,(BF x==k)=true↔x.Leaf=k:=λx=>by rw[Ce];rfl
 by_cases h:∃y∈a,y.Leaf=k
 ·obtain⟨y,y1,y2⟩:=h
  rw[aZ ha (λx hx z hz p q=>hu x hx z hz<|by rw[(e1 x).1 p,(e1 z).1 q]) y1<|(e1 y).2 y2,
   aZ hc (λx hx z hz p q=>hu x ((hm x).2 hx) z ((hm z).2 hz)<|by rw[(e1 x).1 p,(e1 z).1 q]) ((hm y).1 y1) ((e1 y).2 y2)]
 rw[Bq.2 λx hx p=>h ⟨x,hx,(e1 x).1 p⟩,Bq.2 λx hx p=>h ⟨x,(hm x).2 hx,(e1 x).1 p⟩]
def HW (r:List Aq) (b:Int) (live:List Int):List Aq:=live.filterMap λc=>match P2 c r r.length with
 |some j=>if bk r b j=true then r[j]? else none
 |none=>none
theorem W5 (r:List Aq) (b:Int) (a:List Int) (c:Int):HW r b (a++ [c])=HW r b a++HW r b [c]:=by unfold HW;rw[List.filterMap_append]
theorem ABx (h:eB f r) {live:List Int} (a:KT s=some live) (hl:live.length<=16777216) (b:Int):Tf f s b=some (HW r b live):=by
 unfold Tf;rw[a];simp only[Aa];obtain⟨u,h1,h2⟩:=AP (body:=λq:List Aq×Int=>H0 f b live q.1 q.2) (λ(u:List Aq) i=>(u,i)) live.length (λi u=>u=HW r b (live.take i)) (λu=>u=HW r b live)
  (λu i hi hu=>by
   have hg:live[i]?=some live[i]:=Ab hi;obtain⟨o,o1,o2⟩:=Xe f r h.i h.len h.srt live[i];have ho:o=P2 live[i] r r.length:=WP o2<|P1 _ _ _<|Au _;have d:u.length<=i:=by
    rw[hu];have:=List.length_filterMap_le (λc=>match P2 c r r.length with|some j=>if bk r b j=true then r[j]? else none|none=>none)<|live.take i;rw[AU]at this;unfold HW;omega
   have et:live.take (i+1)=live.take i++ [live[i]]:=by rw[Ao hi]
   refine .inl ?_;simp only[H0,Ev hi,Aw,hg,Aa,o1]
   cases ht:P2 live[i] r r.length with
   |none=>
    rw[ht]at ho;subst ho;simp only[F8,Ac,Aa];rw[ad1];refine⟨_,rfl,?_⟩;rw[et,W5,<-hu];simp[HW,ht]
   |some j=>
    rw[ht]at ho;subst ho;obtain⟨hj,_⟩:=NM (Au _) ht;have hr:=Ab hj;simp only[TE,Ae,Aa,KZ]
    cases hb:bk r b j with
    |true=>
     have hb':((r[j]?.getD Pq).Block==b)=true:=hb;rw[hb'];simp only[Ae];rw[BS (by simp only[A8];omega),ad1];refine⟨_,rfl,?_⟩;rw[et,W5,<-hu];simp[HW,ht,hb,hr]
    |false=>
     have hb':((r[j]?.getD Pq).Block==b)=false:=hb;rw[hb'];simp only[Ac];rw[ad1];refine⟨_,rfl,?_⟩;rw[et,W5,<-hu]
     simp[HW,ht,hb])
  (λu hu=>⟨u,by simp only[H0,DT],by rw[hu,AW]⟩) (s:=[]) (by simp[HW])
 rw[h1,h2];rfl
theorem SK {live:List Int} (hy:y∈HW r b live):∃c∈live,∃j,P2 c r r.length=some j/\r[j]?=some y/\y.Block=b/\y.Page.Kind=1/\y.Page.Tx=c:=by
 obtain⟨c,c1,c2⟩:=List.mem_filterMap.1 hy
 cases ht:P2 c r r.length with
 |none=>rw[ht]at c2;cases c2
 |some j=>
  rw[ht]at c2;simp only at c2;split at c2
  ·rename_i hb;obtain⟨_,z,z1,z2⟩:=NM (Au _) ht;rw[z1]at c2
   injection c2 with c2
   subst c2;simp only[bk,z1,Bi,Ce]at hb;simp only[Jb,Aj,Ce]at z2;exact⟨c,c1,j,ht,z1,hb,z2.1,z2.2⟩
  cases c2
theorem e8 (r:List Aq) (b:Int):∀{live:List Int},live.Nodup->kX (HW r b live)
 |[],_=>List.Pairwise.nil
 |c::live,h=>by
  obtain⟨h1,h2⟩:=Dj.1 h;have ih:=e8 r b h2;unfold HW;rw[List.filterMap_cons];split
  ·exact ih
  rename_i y hy;refine C0.2 ⟨λz hz e=>?_,ih⟩;obtain⟨c',q1,j,q2,q3,q4,q5,q6⟩:=SK (r:=r) (b:=b) (live:=live) hz
  obtain⟨c'',p1,j2,p2,p3,p4,p5,p6⟩:=SK (r:=r) (b:=b) (live:=[c]) (y:=y) (by
   unfold HW;rw[List.filterMap_cons,hy]
   simp)
  rw[AE]at p1;subst p1;exact h1 (by rw[<-p6,e,q6];exact q1)
def P6 (b:Int) (nd:List Bool) (r:List Aq):List Aq:=Lw b 0 nd r++(Lw b 1 nd r++(Lw b 2 nd r++Lw b 3 nd r))
theorem Vw {i:Int}:y∈Lw b i nd r↔(∃j:Nat,r[j]?=some y/\nd[j]?=some true)/\y.Block=b/\y.Leaf=i:=by
 unfold Lw;simp only[AF,Bf,Aj,Ce];constructor
 ·rintro⟨⟨n,z⟩,⟨h1,⟨h2,h3⟩,h4⟩,rfl⟩;obtain⟨j,hj⟩:=List.getElem?_of_mem h1;rw[List.getElem?_zip_eq_some]at hj;simp only at h2 h3 h4;exact⟨⟨j,hj.2,by rw[hj.1,h2]⟩,h3,h4⟩
 rintro⟨⟨j,h1,h2⟩,h3,h4⟩;exact⟨(true,y),⟨Ar<|List.getElem?_zip_eq_some.2 ⟨h2,h1⟩,⟨rfl,h3⟩,h4⟩,rfl⟩
theorem mH (hn:∀(j:Nat) y,r[j]?=some y->nd[j]?=some true->P2 y.Page.Tx r r.length=some j) (b i:Int):kX (Lw b i nd r):=by
 unfold Lw kX;rw[Ku]
 have h0:(nd.zip r).Pairwise λp q=>p.1=true->q.1=true->p.2.Page.Tx≠q.2.Page.Tx:=by
  rw[Dq];intro x y hx hy a p q e;have a1:=(List.getElem?_zip_eq_some (l₁:=nd) (l₂:=r)).1<|Ab hx;have a2:=(List.getElem?_zip_eq_some (l₁:=nd) (l₂:=r)).1<|Ab hy;have b1:=hn x _ a1.2 (by rw[a1.1,p]);have b2:=hn y _ a2.2 (by rw[a2.1,q]);rw[e,b2]at b1
  injection b1 with b1
  omega
 have h1:=h0.filter λq=>q.1&&(q.2.Block==b)&&(q.2.Leaf==i);refine(List.pairwise_iff_forall_sublist.2 λ{p q} hs=>?_);have hp:=List.pairwise_iff_forall_sublist.1 h1 hs;have mp:p∈(nd.zip r).filter (λq=>q.1&&(q.2.Block==b)&&(q.2.Leaf==i)):=hs.subset (by simp);have mq:q∈(nd.zip r).filter (λq=>q.1&&(q.2.Block==b)&&(q.2.Leaf==i)):=hs.subset (by simp);have tp:=(Bf.1 mp).2;have tq:=(Bf.1 mq).2;simp only[Aj]at tp tq;exact hp tp.1.1 tq.1.1
end Go.TI
