/- A block that goes bad is not written any more. No condition; no program is in sight. -/
import Derived.Test.YtiaanofedbfeeabGreatBBP2
set_option linter.unusedVariables false
set_option linter.unusedSimpArgs false
namespace Go.TI
open Go
variable {r r' a:List Ar} {d e d':A9} {y:Ar} {n k m j:Nat} {c:BT} {g f:Flash} {s:Store} {P:Int->Prop} {T:List ByteArray} {b nx nx':Int} {l l':Vs} {p:Page} {x:Cy} {code:List Int} {nd:List Bool} {ps:List Page} {K:Ks}
theorem Z5 (hf:BE f) (ps:List Page) (rt:Bool) (c:ps.length<=9) (a:List Page) (ss0:List Bh) (g0:Flash) (ok0:Bool) (h0:ok0=true->Jl f ss0 a g0/\BE g0/\ss0.length<=1):
  ∃ss ok,Ap (λs:List Bh×Bool×Int×List Block=>Cc (ps,rt) s.1 s.2.1 s.2.2.1 s.2.2.2) (ss0,ok0,0,g0.Blocks)=some (ss,ok)/\(ok=true->ok0=true/\∃g,Jl f ss (a++ps) g/\BE g/\∀p∈ps,J6 p):=by
 obtain⟨b,h1,h2⟩:=AS (body:=λs:List Bh×Bool×Int×List Block=>Cc (ps,rt) s.1 s.2.1 s.2.2.1 s.2.2.2) (λ(o:List Bh×Bool×List Block) i=>(o.1,o.2.1,i,o.2.2)) ps.length
  (λi o=>o.2.1=true->ok0=true/\Jl f o.1 (a++ps.take i) (Flash.mk o.2.2)/\BE (Flash.mk o.2.2)/\o.1.length<=i+1/\∀p∈ps.take i,J6 p)
  (λb=>b.2=true->ok0=true/\∃g,Jl f b.1 (a++ps) g/\BE g/\∀p∈ps,J6 p)
  (λo i hi hs=>by
   obtain⟨ss,ok,bl⟩:=o;have hx:=Ab hi;simp only[Cc,KH,Ad hi,Ae,Aa]
   cases ok with
   |false=>
    simp only[Ac];exact .inr ⟨_,rfl,λhh=>by cases hh⟩
   |true=>
    obtain⟨k0,k1,k2,k3,k4⟩:=hs rfl;simp only at k1 k2 k3;simp only[Ae,Aw,hx,Aa];refine .inl ?_
    rcases zG k2 k1 (by omega) ps[i]with⟨s,g',q1,q2,q3,q4,_⟩|q
    ·rw[q1];simp only[Aa];rw[ad1];refine⟨(ss++ [s],true,g'.Blocks),rfl,λ_=>⟨k0,?_,q3,by simp;omega,λp hp=>?_⟩⟩
     ·rw[Ao hi,<-Ax];exact q2
     rw[Ao hi,Al,AE]at hp
     rcases hp with hp|rfl
     ·exact k4 p hp
     exact q4
    rw[q];simp only[Aa];rw[ad1]
    exact⟨(ss,false,bl),rfl,λhh=>by cases hh⟩)
  (λo hs=>⟨(o.1,o.2.1),by simp only[Cc,KH,FE,LP,Ac,Aa],λhh=>by
   obtain⟨k0,k1,k2,_,k4⟩:=hs hh;rw[Bc]at k1 k4
   exact⟨k0,_,k1,k2,k4⟩⟩) (s:=(ss0,ok0,g0.Blocks)) (λhh=>by
    obtain⟨a1,a2,a3⟩:=h0 hh
    exact⟨hh,by rw[Jh,A4];exact a1,a2,by simpa using a3,λp hp=>by simp at hp⟩)
 exact⟨b.1,b.2,h1,h2⟩
def Dm (d:A9) (c:Int) (a:ByteArray):List Page:=if L a=[]then []else [Page.mk 1 d.Seq c 0 1 a]
def Jn (d:A9) (a:ByteArray):Int:=if L a=[]then d.Seq else d.Seq+1
theorem Rf (hf:BE d.Flash) (k:0<=d.Seq/\d.Seq<=1000000001) (b:List Cy) (i:b≠ []) (hr:b.length<=1000) (j:∀r∈b,GL r=true) (a:ByteArray):
  DS d b a=some ([],false)\/∃steps T g c,b[b.length-1]?=some c/\DS d b a=some (steps,true)/\1<=T.length/\T.length<=9/\Pr T=Hr b/\(∀t∈T,(L t).length<=90)/\
   Jl d.Flash steps (Dm d c.Chunk a++Ct (Jn d a) d.Tx T) g/\BE g/\∀p∈Dm d c.Chunk a++Ct (Jn d a) d.Tx T,J6 p:=by
 have l:0<b.length:=MS.2 i;obtain⟨c,h⟩:∃c,b[b.length-1]?=some c:=⟨_,Ab<|by omega⟩;unfold DS;rw[show(ln b==0)=false by rw[Df,B4];omega];simp only[Ac];have first:∃ss0 g0 ok0,(cond (!(seq a<|bs [])) (((gi b<|sb (ln b) 1).bind λx1=>(DW d.Flash []<|Page.mk 1 d.Seq x1.Chunk 0 1 a).bind λv1=>some (v1.2.1,v1.2.2,v1.1.Blocks):Option (List Bh×Bool×List Block)).bind λj2=>some (j2.1,ad d.Seq 1,j2.2.1,j2.2.2)) (some ([],d.Seq,true,d.Flash.Blocks)):Option (List Bh×Int×Bool×List Block))=some (ss0,Jn d a,ok0,Flash.Blocks g0)/\(ok0=true->Jl d.Flash ss0 (Dm d c.Chunk a) g0/\BE g0/\ss0.length<=1/\∀p∈Dm d c.Chunk a,J6 p):=by
  by_cases ht:L a=[]
  ·have:seq a (bs [])=true:=by rw[Lu,A5];exact Lf (by rw[ht,EY])
   rw[this];refine⟨[],d.Flash,true,?_,λ_=>⟨?_,hf,by simp,?_⟩⟩
   ·unfold Jn;rw[Ay ht];rfl
   ·unfold Dm;rw[Ay ht];rfl
   unfold Dm;rw[Ay ht];intro p hp;cases hp
  have:seq a (bs [])=false:=by
   rw[Lu,DI];intro e;exact ht<|by rw[e,EY]
  rw[this];simp only[AD,Ae];rw[B4,Cj,show(b.length:Int)-1=((b.length-1:Nat):Int) by omega,Aw,h,Aa,C6];have e1:Jn d a=d.Seq+1:=by unfold Jn;rw[Av ht]
  have e2:Dm d c.Chunk a=[Page.mk 1 d.Seq c.Chunk 0 1 a]:=by unfold Dm;rw[Av ht]
  rw[e1,e2]
  rcases zG (f:=d.Flash) (ss:=[]) (ps:=[]) hf rfl (by simp) (Page.mk 1 d.Seq c.Chunk 0 1 a)with⟨s,g',q1,q2,q3,q4,_⟩|q
  ·rw[q1];refine⟨_,g',true,rfl,λ_=>⟨q2,q3,by simp,λp hp=>?_⟩⟩;rw[AE]at hp;rw[hp];exact q4
  rw[q];exact⟨_,d.Flash,false,rfl,λhh=>by cases hh⟩
 obtain⟨ss0,g0,ok0,e0,h0⟩:=first
 rw[e0];simp only[Aa];obtain⟨T,t1,t2,t3,_,t4⟩:=wP (Jn d a) d.Tx b hr j
 rcases t4 with⟨t4,t5,t6,t7,t8,t9⟩|⟨t4,_⟩
 ·rw[t4];simp only[Aa];obtain⟨ss,ok,q1,q2⟩:=Z5 hf (Ct (Jn d a) d.Tx T) true (by unfold Ct;rw[TA];exact t5) (Dm d c.Chunk a) ss0 g0 ok0 λhh=>⟨(h0 hh).1,(h0 hh).2.1,(h0 hh).2.2.1⟩;rw[q1];simp only[Aa]
  cases ok with
  |false=>exact .inl rfl
  |true=>
   obtain⟨k0,g,k1,k2,k3⟩:=q2 rfl;refine .inr ⟨ss,T,g,c,h,rfl,t1,t5,t2,t3,k1,k2,λp hp=>?_⟩
   rcases Al.1 hp with hp|hp
   ·exact(h0 k0).2.2.2 p hp
   exact k3 p hp
 rw[t4];simp only[Aa];obtain⟨ss,ok,q1,q2⟩:=Z5 hf [] false (by simp) (Dm d c.Chunk a) ss0 g0 ok0 λhh=>⟨(h0 hh).1,(h0 hh).2.1,(h0 hh).2.2.1⟩;rw[q1];simp only[Aa];cases ok<;>exact .inl rfl
def KF (r:List Ar) (c:Int):Option Ar:=(r.filter<|IZ c).getLast?
noncomputable def T1 (t:ByteArray):Option ByteArray:=match Gr t with
 |some (s,true)=>some s
 |_=>none
noncomputable def C5 (r:List Ar) (c:Int):Option ByteArray:=(KF r c).bind λy=>T1 y.Page.Text
theorem Sk {c:Int}:IZ c y=true↔y.Page.Kind=1/\y.Page.Tx=c:=by
 unfold IZ;rw[Ak,Cd,Cd]
theorem VD {c:Int} (h:KF r c=some y):y∈r/\y.Page.Kind=1/\y.Page.Tx=c:=by
 have:=List.mem_of_getLast? h;rw[Bf,Sk]at this;exact this
theorem ME (r:List Ar) (y:Ar) (c:Int):KF (r++ [y]) c=if y.Page.Kind=1/\y.Page.Tx=c then some y else KF r c:=by
 unfold KF;rw[AO];by_cases e:y.Page.Kind=1/\y.Page.Tx=c
 ·rw[Ay e,CN<|Sk.2 e,JX,HW]
 rw[Av e,DK λhh=>e<|Sk.1 hh,JX,A4]
theorem fH (r m:List Ar) (h:∀y∈m,y.Page.Kind≠1) (c:Int):KF (r++m) c=KF r c:=by
 unfold KF;rw[AO,Br.2 λy hy hh=>h y hy (Sk.1 hh).1,A4]
theorem aF {α:Type} {y:α} (l:List α) (p:α->Bool) (h:l.getLast? =some y) (hp:p y=true):(l.filter p).getLast? =some y:=by
 rcases Hx l with e|⟨m,x,e⟩
 ·rw[e]at h;cases h
 rw[Hy]at e;rw[e,HW]at h
 injection h with h
 subst h;rw[e,AO,CN hp,JX,HW]
theorem nC {c:Int} (p:Ar->Bool) (h:KF r c=some y) (hp:p y=true):KF (r.filter p) c=some y:=by
 unfold KF at h⊢;rw[E7];have:r.filter (λa=>IZ c a&&p a)=(r.filter<|IZ c).filter p:=by
  rw[E7];congr 1;funext a;exact Bool.and_comm _ _
 rw[this];exact aF _ p h hp
theorem ZA {c:Int} {o:Option Nat} (h:Rq c r r.length o):KF r c=o.bind λj=>r[j]? :=by
 cases o with
 |none=>
  unfold KF;have:r.filter (IZ c)=[]:=by
   rw[Br];intro y hy;obtain⟨j,hj,rfl⟩:=AC hy;have:=h j r[j] hj<|Ab hj;rw[this];simp
  rw[this];rfl
 |some j=>
  obtain⟨h1,⟨y,h2,h3⟩,h4⟩:=h;simp only[Aa,h2];unfold KF;obtain⟨e1,e2⟩:=JS h2;rw[e1,AO,CN h3];have:(r.drop<|j+1).filter (IZ c)=[]:=by
   rw[Br];intro z hz;obtain⟨k,hk,rfl⟩:=AC hz;rw[Cb]at hk;rw[UP];have:=h4 (j+1+k) _ (by omega) (by omega) (Ab<|by omega);rw[this];simp
  rw[this,HW]
theorem qD (hr:r.length<=1048576) (c:Int):∃y ok,Mu r c=some (y,ok)/\KF r c=(if ok=true then some y else none):=by
 obtain⟨o,h1,h2⟩:=fG r hr c;have h3:=ZA h2
 cases o with
 |none=>exact⟨_,false,h1,h3⟩
 |some j=>
  obtain⟨_,⟨y,k1,_⟩,_⟩:=h2;refine⟨y,true,?_,by rw[h3];simp only[Aa,k1];rfl⟩;rw[h1];simp only[KZ,k1,Bl];rfl
theorem mE (hr:GG r) (c:Int):∃u ok,Lx r c=some (u,ok)/\C5 r c=(if ok=true then some u else none):=by
 obtain⟨y,ok,h1,h2⟩:=qD hr.len c;unfold Lx C5;rw[h1,h2]
 cases ok with
 |false=>exact⟨_,_,rfl,rfl⟩
 |true=>
  have hy:=(VD (by rw[h2];rfl)).1;obtain⟨u,ok2,k1,_,_⟩:=TT y.Page.Text (by have:=hr.text y hy;omega);simp only[Aa,Ah,Ac,BQ];rw[k1];unfold T1;rw[k1]
  cases ok2 with
  |false=>exact⟨_,_,rfl,rfl⟩
  |true=>exact⟨_,_,rfl,rfl⟩
structure JJ (r:List Ar):Prop where
 pages:GG r
 inc:r.Pairwise λx y=>x.Page.Seq<y.Page.Seq
 mu:o7 r
def E6 (l:Vs) (c:Int):Prop:=0<c/\∃p∈l,c∈p.2
structure Hi (r:List Ar) (P:Int->Prop):Prop where
 data:∀c,P c->∃s,C5 r c=some s
 dist:∀c c',P c->P c'->C5 r c=C5 r c'->c=c'
theorem Hi.mono {Q:Int->Prop} (h:Hi r P) (hq:∀c,Q c->P c):Hi r Q:=⟨λc hc=>h.data c<|hq c hc,λc c' hc hc'=>h.dist c c' (hq c hc)<|hq c' hc'⟩
theorem Hi.congr (h:Hi r P) (he:∀c,P c->C5 r' c=C5 r c):Hi r' P:=⟨λc hc=>by rw[he c hc];exact h.data c hc,λc c' hc hc' e=>h.dist c c' hc hc' (by rw[<-he c hc,<-he c' hc'];exact e)⟩
theorem Hi.metas {m:List Ar} (h:Hi r P) (hm:∀y∈m,y.Page.Kind≠1):Hi (r++m) P:=h.congr λc _=>by unfold C5;rw[fH r m hm]
theorem pE (h:Hi r P) (hy:¬P y.Page.Tx):Hi (r++ [y]) P:=h.congr λc hc=>by
 unfold C5;rw[ME,Av λhh=>hy (by rw[hh.2];exact hc)]
theorem pF (h:Hi r P) (hy:T1 y.Page.Text=C5 r y.Page.Tx):Hi (r++ [y]) P:=h.congr λc hc=>by
 by_cases e:y.Page.Kind=1/\y.Page.Tx=c
 ·have:C5 (r++ [y]) c=T1 y.Page.Text:=by unfold C5;rw[ME,Ay e];rfl
  rw[this,hy,e.2]
 unfold C5;rw[ME,Av e]
theorem wW {s:ByteArray} (h:Hi r P) (hk:y.Page.Kind=1) (hn:¬P y.Page.Tx) (ht:T1 y.Page.Text=some s) (hs:∀c,P c->C5 r c≠some s):Hi (r++ [y]) (λc=>P c\/c=y.Page.Tx):=by
 have b:C5 (r++ [y]) y.Page.Tx=some s:=by unfold C5;rw[ME,Ay ⟨hk,rfl⟩];exact ht
 have a:∀c,P c->C5 (r++ [y]) c=C5 r c:=λc hc=>by unfold C5;rw[ME,Av λhh=>hn (by rw[hh.2];exact hc)]
 refine⟨λc hc=>?_,λc c' hc hc' e=>?_⟩
 ·rcases hc with hc|rfl
  ·rw[a c hc];exact h.data c hc
  exact⟨s,b⟩
 rcases hc with hc|rfl<;>rcases hc' with hc'|rfl
 ·exact h.dist c c' hc hc' (by rw[<-a c hc,<-a c' hc'];exact e)
 ·rw[a c hc,b]at e;exact absurd e<|hs c hc
 ·rw[a c' hc',b]at e;exact absurd e.symm<|hs c' hc'
 rfl
theorem JJ.filter (h:JJ r) (p:Ar->Bool):JJ (r.filter p):=by
 refine⟨⟨by have:=CL p r;have:=h.pages.len;omega,λy hy=>h.pages.text y (Bf.1 hy).1,λy hy=>h.pages.seq y (Bf.1 hy).1,λy hy=>h.pages.tx y (Bf.1 hy).1,λy hy=>h.pages.cnt y (Bf.1 hy).1,λy hy=>h.pages.part y (Bf.1 hy).1⟩,h.inc.filter _,⟨λy hy z hz=>h.mu.uniq y (Bf.1 hy).1 z (Bf.1 hz).1⟩⟩
theorem JJ.add (h:JJ r) (hl:r.length<=1000000) (hb:J6 y.Page) (hs:Db r<=y.Page.Seq) (hm:y.Page.Kind=2->∀z∈r,z.Page.Kind=2->z.Page.Tx=y.Page.Tx->z.Page.Part≠y.Page.Part):JJ (r++ [y]):=by
 obtain⟨b1,b2,b3,b4,b5,b6,b7⟩:=hb
 have all:∀{P:Ar->Prop},(∀z∈r,P z)->P y->∀z∈r++ [y],P z:=λh1 h2 z hz=>by
  rw[Al,AE]at hz
  rcases hz with hz|rfl
  ·exact h1 z hz
  exact h2
 refine⟨⟨by simp;omega,all h.pages.text b6,all h.pages.seq b2,all h.pages.tx b3,all h.pages.cnt b4,all h.pages.part b5⟩,?_,⟨λu hu v hv k1 k2 e1 e2=>?_⟩⟩
 ·rw[AR];refine⟨h.inc,Ji _ _,λu hu v hv=>?_⟩;rw[AE]at hv;rw[hv];have:=(NT r).1 u hu;omega
 rw[Al,AE]at hu hv
 rcases hu with hu|rfl<;>rcases hv with hv|rfl
 ·exact h.mu.uniq u hu v hv k1 k2 e1 e2
 ·exact absurd e2<|hm k2 u hu k1 e1
 ·exact absurd e2.symm<|hm k1 v hv k2 e1.symm
 rfl
theorem eM (h:Db r<=y.Page.Seq):Db (r++ [y])=y.Page.Seq+1:=by rw[Ys,Ay h]
theorem JJ.metas {t:Int} (h:JJ r) (ht:∀y∈r,y.Page.Kind=2->y.Page.Tx<t):∀(m:List Ar) (k:Nat),r.length+m.length<=1000000->(∀(i:Nat) y,m[i]?=some y->y.Page.Kind=2/\y.Page.Tx=t/\y.Page.Part=i/\y.Page.Seq=Db r+i/\J6 y.Page)->k<=m.length->JJ (r++m.take k)/\Db (r++m.take k)=Db r+k
 |m,0,_,_,_=>by simpa using h
 |m,k+1,hl,hm,hk=>by
  obtain⟨ih1,ih2⟩:=JJ.metas h ht m k hl hm (by omega);have hx:m[k]?=some m[k]:=Ab (by omega);obtain⟨k1,k2,k3,k4,k5⟩:=hm k _ hx;rw[Ao (by omega),<-Ax];refine⟨JJ.add ih1 (by simp;omega) k5 (by rw[ih2,k4];omega) λ_ z hz a b=>?_,?_⟩
  ·rcases Al.1 hz with hz|hz
   ·have:=ht z hz a;omega
   obtain⟨j,hj,rfl⟩:=AC hz;rw[AW]at hj;rw[HX];obtain⟨_,_,q3,_⟩:=hm j _ (Ab<|by omega);omega
  rw[eM (by rw[ih2,k4];omega),k4];omega
theorem tS (i:Int):∀(k:Int) (l:List Leaf),(X4 i k l).length<=l.length
 |_,[]=>Au _
 |k,x::l=>by
  rw[X4,Ai,A7];have:=tS i (k+1) l;have:(pg i k x).length<=1:=by
   unfold pg;split
   ·split<;>simp
   simp
  omega
theorem tU:∀(i:Int) (l:List Block),(Jq i l).length<=nl l
 |_,[]=>Au _
 |i,b::l=>by
  rw[Jq,Ai];have:=tU (i+1) l;have:=tS i 0 b.Leaves;unfold nl at*;rw[BJ,FG];omega
theorem ADv (hf:BE f) (h:SR (Jq 0 f.Blocks) r):r.length<=40:=by
 have h1:=tU 0 f.Blocks;have h2:=hf.few;have h3:=h.2.len;omega
theorem LO:∀{ss:List Bh} {ps:List Page} {i:Nat} {y:Ar},(Cn ss ps)[i]?=some y->ps[i]?=some y.Page
 |[],_,i,y,h=>by simp[Cn]at h
 |s::ss,[],i,y,h=>by simp[Cn]at h
 |s::ss,p::ps,0,y,h=>by
  simp only[Cn,List.zipWith_cons_cons,DJ,An]at h;rw[<-h];rfl
 |s::ss,p::ps,i+1,y,h=>by
  simp only[Cn,List.zipWith_cons_cons,List.getElem?_cons_succ]at h⊢;exact LO h
theorem UD {ss:List Bh} (h:ss.length=ps.length):(Cn ss ps).length=ps.length:=by unfold Cn;rw[List.length_zipWith];omega
theorem XD (ss:List Bh) (ps:List Page) (k:Nat):Cn (ss.take k) (ps.take k)=(Cn ss ps).take k:=by unfold Cn;rw[List.take_zipWith]
theorem oL:∀(T:List ByteArray),(∀t∈T,(L t).length<=90)->(Pr T).length<=90*T.length
 |[],_=>by simp[Pr]
 |t::T,h=>by
  have:=oL T (λx hx=>h x<|by simp[hx]);have:=h t (by simp);simp only[Pr,Kx,Ai,A7]at*;omega
theorem fJ {r1 m:List Ar} (h:JJ r1) (hl:r1.length<=1000) {a:List Cy} (g:1<=T.length) (j:T.length<=9) (c:∀t∈T,(L t).length<=90) (d:Pr T=Hr a) (l:∀r∈a,GL r=true) (hm:∀(i:Nat) y,m[i]?=some y->(Ct (Db r1) (DC r1) T)[i]?=some y.Page) (o:m.length=T.length) (n:∀p∈Ct (Db r1) (DC r1) T,J6 p) (k:Nat) (hk:k<=T.length):
  JJ (r1++m.take k)/\(∀y∈m.take k,y.Page.Kind≠1)/\(k<T.length->Bs (r1++m.take k)=Bs r1)/\(k=T.length->∃q,Bs (r1++m.take k)=Bs r1++ [Tx.mk (DC r1) q a]):=by
 have e:∀(i:Nat) y,m[i]?=some y->∃t,T[i]?=some t/\y.Page=Page.mk 2 (Db r1+i) (DC r1) i T.length t:=by
  intro i y hy;have:=hm i y hy;unfold Ct at this;rw[Li]at this;obtain⟨t,h1,h2⟩:=AM.1 this;exact⟨t,h1,h2.symm⟩
 have b:=YR r1
 obtain⟨c1,_⟩:=JJ.metas h b.1 m k (by omega) (λi y hy=>by
  obtain⟨t,_,h2⟩:=e i y hy;have hb:=n y.Page<|Aq<|hm i y hy;rw[h2]at hb⊢
  exact⟨rfl,rfl,rfl,rfl,hb⟩)<|by omega
 have hN:gK (m.take k) (DC r1) T.length T:=by
  refine⟨by rw[AW];omega,⟨g,j⟩,rfl,λi y hy=>?_⟩;have f:=(Ag.1 hy).1;rw[AW]at f;rw[List.getElem?_take_of_lt<|by omega]at hy;obtain⟨t,h1,h2⟩:=e i y hy;rw[h2];exact⟨rfl,rfl,rfl,rfl,h1⟩
 obtain⟨g1,g2⟩:=rC r1 (λy hy=>(h.pages.tx y hy).1) b.1 b.2.1 hN;refine⟨c1,λy hy=>by rw[(hN.all hy).1];omega,λhh=>g1 (by rw[AW];omega),λhh=>g2 (by rw[AW];omega) a ?_⟩;rw[d];refine qE l ?_;have:=oL T c;rw[d]at this;omega
structure JI (d:A9) (r:List Ar):Prop where
 dev:HY d r
 core:JJ r
 data:Hi r (E6 (By d.Store))
theorem JI.few (h:JI d r):r.length<=40:=ADv h.dev.fl h.dev.sr
theorem JE (hg:BE g) (a:SR (Jq 0 g.Blocks) r):∃d,CK g=some (d,true)/\HY d r/\d.Flash=g:=by
 obtain⟨d,r',h1,h2,h3⟩:=Vy hg;have:r'=r:=by
  have h4:=h2.sr;rw[h3]at h4;exact h4.uniq a
 subst this;exact⟨d,h1,h2,h3⟩
theorem TR (seq tx:Int) (T:List ByteArray):G3 seq (Ct seq tx T):=by
 have a:∀(l:List ByteArray) (i:Nat) (n:Int),n<=seq+i->G3 n (l.mapIdx λj t=>Page.mk 2 (seq+(i+j:Nat)) tx (i+j:Nat) T.length t):=by
  intro l
  induction l with
  |nil=>intro i n _;trivial
  |cons x l ih=>
   intro i n hn;rw[List.mapIdx_cons];refine⟨by simpa using hn,?_⟩;have:=ih (i+1) (seq+(i:Int)+1) (by omega);simp only[HV]
   have e:(λj t=>Page.mk 2 (seq+((i+1+j:Nat):Int)) tx ((i+1+j:Nat):Int) T.length t)=λj (t:ByteArray)=>Page.mk 2 (seq+((i+(j+1):Nat):Int)) tx ((i+(j+1):Nat):Int) T.length t:=by
    funext j t;rw[show i+1+j=i+(j+1) by omega]
   rw[e]at this;exact this
 have:=a T 0 seq (by omega);unfold Ct;simpa using this
theorem rM (c:Int) (a:ByteArray) (tx:Int) (T:List ByteArray):G3 d.Seq (Dm d c a++Ct (Jn d a) tx T):=by
 unfold Dm Jn;by_cases e:L a=[]
 ·rw[Ay e,Ay e,A6];exact TR _ _ _
 rw[Av e,Av e];exact⟨GQ _,TR _ _ _⟩
theorem MC (ss:List Bh) (ps:List Page) (k:Nat):∀y∈(Cn ss ps).take k,y.Page∈ps:=by
 intro y hy;obtain⟨i,hi,rfl⟩:=AC<|List.mem_of_mem_take hy;exact Aq<|LO<|Ab hi
def GR (f:Flash) (n:Int):Prop:=∀b∈f.Blocks,b.Wear<=n
theorem sV {l:List Block} {n:Int} {x:Block} (h:∀y∈l,y.Wear<=n) (hx:x.Wear<=n):∀y∈si l b x,y.Wear<=n:=by
 intro y hy;by_cases e:0<=b
 ·obtain⟨c,rfl⟩:∃c:Nat,b=(c:Int):=⟨_,(AY e).symm⟩;rw[E8]at hy
  rcases Cf hy with hy|rfl
  ·exact h y hy
  exact hx
 unfold si at hy
 first
  |(rw[Av<|by omega]at hy;exact h y hy)
  |(
   rcases Cf hy with hy|rfl
   ·exact h y hy
   exact hx)
theorem eE {s:Bh} {n m:Int} (h:GR f n) (hm:n<=m) (hs:s.Kind=1\/n+1<=m):GR (Ka f s) m:=by
 have h0:∀y∈f.Blocks,y.Wear<=m:=λy hy=>by have:=h y hy;omega
 unfold Ka Uv TC GR;by_cases e:s.Kind=1
 ·rw[Ay e]
  cases hg:gi f.Blocks s.Block with
  |none=>exact h0
  |some x=>exact sV h0<|h0 x<|Aq (CQ hg).2
 rw[Av e]
 cases hg:gi f.Blocks s.Block with
 |none=>exact h0
 |some x=>exact sV h0 (by have:=h x<|Aq (CQ hg).2;show x.Wear+1<=m;omega)
theorem UI {n:Int}:∀{f:Flash} {ss:List Bh} {ps:List Page} {g:Flash},Jl f ss ps g->GR f n->GR g n
 |f,[],[],g,h,hw=>by rw[show g=f from h];exact hw
 |f,s::ss,p::ps,g,h,hw=>UI h.2.2.2 (eE hw (GQ _) (.inl h.1))
 |f,[],q::ps,g,h,_=>h.elim
 |f,s::ss,[],g,h,_=>h.elim
theorem Rh:∀{f:Flash} {ss:List Bh} {ps:List Page} {g:Flash},Jl f ss ps g->∀s∈ss,s.Kind=1
 |f,[],[],g,h,s,hs=>by cases hs
 |f,s::ss,p::ps,g,h,x,hs=>by
  rcases CC.1 hs with rfl|hs
  ·exact h.1
  exact Rh h.2.2.2 x hs
 |f,[],q::ps,g,h,_,_=>h.elim
 |f,s::ss,[],g,h,_,_=>h.elim
def YL (f g:Flash):Prop:=∀n,GR f n->GR g n
theorem Wn (h:JI d r) {o:List Cy} (x:∀r∈o,GL r=true) {a:ByteArray} {b:Cy} {steps:List Bh} (z:1<=T.length) (h0:T.length<=9) (h1:Pr T=Hr o) (w:∀t∈T,(L t).length<=90) (hp:Jl d.Flash steps (Dm d b.Chunk a++Ct (Jn d a) d.Tx T) g) (l:∀p∈Dm d b.Chunk a++Ct (Jn d a) d.Tx T,J6 p) (h2:L a≠ []->¬E6 (By d.Store) b.Chunk) (k:Nat) (hk:k<=steps.length):
  ∃m d' r',Steps d.Flash (steps.take k) m/\BE m/\CK m=some (d',true)/\HY d' r'/\d'.Flash=m/\r'=r++(Cn steps (Dm d b.Chunk a++Ct (Jn d a) d.Tx T)).take k/\YL d.Flash m/\JJ r'/\Hi r' (E6 (By d.Store))/\
   (k<steps.length->Bs r'=Bs r)/\(k=steps.length->(∃q,Bs r'=Bs r++ [Tx.mk d.Tx q o])/\∀s,T1 a=some s->L a≠ []->(∀c,E6 (By d.Store) c->C5 r c≠some s)->Hi r' (λc=>E6 (By d.Store) c\/c=b.Chunk)):=by
 obtain⟨a8,f⟩:=Fw hp;obtain⟨m,hm⟩:=UJ k hp;obtain⟨h3,_⟩:=Fw hm;have h4:=YE h.dev.fl h3;have a7:=h.few
 have h5:∀y∈r,y.Page.Seq<d.Seq:=λy hy=>by rw[h.dev.seq];exact(NT r).1 y hy
 have h6:=rM (d:=d) b.Chunk a d.Tx T;have ascT:∀(ps:List Page) (n:Int) (k:Nat),G3 n ps->G3 n (ps.take k):=by
  intro ps
  induction ps with
  |nil=>intro n k _;simp[G3]
  |cons p ps ih=>
   intro n k ha
   cases k with
   |zero=>trivial
   |succ k=>exact⟨ha.1,ih _ k ha.2⟩
 have h7:=bM h.dev.fl h.dev.sr hm h5<|ascT _ _ k h6;rw[XD]at h7;obtain⟨d',u1,u2,u3⟩:=JE h4 h7;refine⟨m,d',r++(Cn steps<|Dm d b.Chunk a++Ct (Jn d a) d.Tx T).take k,h3,h4,u1,u2,u3,rfl,λ_=>UI hm,?_⟩;have v:(Ct (Jn d a) d.Tx T).length=T.length:=by unfold Ct;rw[TA]
 have u:=UD f;by_cases e:L a=[]
 ·
  have e1:Dm d b.Chunk a=[]:=by unfold Dm;rw[Ay e]
  have e2:Jn d a=d.Seq:=by unfold Jn;rw[Ay e]
  rw[e1,e2,A6]at u f l⊢;rw[e2]at v;rw[h.dev.seq,h.dev.tx]at u f l v⊢;obtain⟨a1,a2,a3,a4⟩:=fJ h.core (by omega) z h0 w h1 x (m:=Cn steps<|Ct (Db r) (DC r) T) (λi y hy=>LO hy) (by omega) l k (by omega);exact⟨a1,h.data.metas a2,λhh=>a3 (by omega),λhh=>⟨a4 (by omega),λs _ h9=>absurd e h9⟩⟩
 have e1:Dm d b.Chunk a=[Page.mk 1 d.Seq b.Chunk 0 1 a]:=by unfold Dm;rw[Av e]
 have e2:Jn d a=d.Seq+1:=by unfold Jn;rw[Av e]
 rw[e1,e2]at u f l⊢;rw[e2]at v;rw[D6]at u f l⊢;rw[A7]at f u
 match hsteps:steps,f with
 |[],f=>simp at f
 |s0::ss,f=>
  have ef:Cn (s0::ss) (Page.mk 1 d.Seq b.Chunk 0 1 a::Ct (d.Seq+1) d.Tx T)=Ar.mk s0.Block s0.Leaf (Page.mk 1 d.Seq b.Chunk 0 1 a)::Cn ss (Ct (d.Seq+1) d.Tx T):=rfl;rw[ef]
  cases k with
  |zero=>
   rw[Jh,A4];exact⟨h.core,h.data,λ_=>rfl,λhh=>by simp at hh⟩
  |succ k=>
   rw[MR];generalize a0:Ar.mk s0.Block s0.Leaf (Page.mk 1 d.Seq b.Chunk 0 1 a)=y0;have j:y0.Page=Page.mk 1 d.Seq b.Chunk 0 1 a:=by rw[<-a0]
   have c1:JJ (r++ [y0]):=JJ.add h.core (by omega) (by rw[j];exact l _<|by simp) (by rw[j,h.dev.seq];exact GQ _) (λhh=>by rw[j]at hh;simp at hh);have g1:Bs (r++ [y0])=Bs r:=XC r (by rw[j];simp);have s1:Db (r++ [y0])=d.Seq+1:=by rw[eM (by rw[j,h.dev.seq];exact GQ _),j]
   have t1:DC (r++ [y0])=d.Tx:=by rw[UZ,Av (by rw[j];simp),h.dev.tx]
   have h8:∀p∈Ct (d.Seq+1) d.Tx T,J6 p:=λp hp=>l p<|by simp[hp]
   have a5:(Cn ss<|Ct (d.Seq+1) d.Tx T).length=T.length:=by rw[UD (by simp at f;omega),v]
   rw[List.append_cons];obtain⟨a1,a2,a3,a4⟩:=fJ c1 (by simp;omega) z h0 w h1 x (m:=Cn ss<|Ct (d.Seq+1) d.Tx T) (by rw[s1,t1];exact λi y hy=>LO hy) a5 (by rw[s1,t1];exact h8) k (by simp at hk f;omega);have dz:Hi (r++ [y0]) (E6<|By d.Store):=pE h.data (by rw[j];exact h2 e);rw[g1,t1]at a4;rw[g1]at a3;have a9:ss.length=T.length:=by simp at f;omega
   refine⟨a1,dz.metas a2,λhh=>a3 (by simp at hh;omega),λhh=>⟨a4 (by simp at hh;omega),λs hs _ a6=>?_⟩⟩;have:=wW h.data (y:=y0) (s:=s) (by rw[j]) (by rw[j];exact h2 e) (by rw[j];exact hs) a6;rw[j]at this;exact this.metas a2
theorem kI (h:CB s):Rb s.Arena:=by unfold Rb;have:=h.few;omega
theorem zU (h:CB s) (x:Int):x∈Nv s s.Vols.length↔∃p∈By s,x∈p.2:=by
 unfold Nv By;rw[Bc];simp only[List.mem_flatten,AG]
 have a:∀v∈s.Vols,(JM s.Arena v.Root).getD []=Fe s.Arena.Knots v.Root:=λv hv=>by
  rw[Oc _ (by have:=h.few;omega) h.ar<|h.root _<|AG.2 ⟨v,hv,rfl⟩];rfl
 constructor
 ·rintro⟨l,⟨v,hv,rfl⟩,hx⟩;rw[a v hv]at hx;exact⟨_,⟨v,hv,rfl⟩,hx⟩
 rintro⟨p,⟨v,hv,rfl⟩,hx⟩;exact⟨_,⟨v,hv,rfl⟩,by rw[a v hv];exact hx⟩
theorem H3 (h:CB s):∃l,F8 s=some l/\asc l/\(∀x,x∈l↔E6 (By s) x)/\l.length<=16777216:=by
 have:=h.len;obtain⟨l,h1,h2,h3⟩:=Xy s (by omega)<|kI h;refine⟨l,h1,h2.1,λx=>?_,h3⟩;rw[h2.2 x,zU h];unfold E6;exact And.comm
theorem Y0 {c:Int} (h:CB s) (hc:E6 (By s) c):0<c/\c<s.Next:=by
 obtain⟨h0,p,hp,hx⟩:=hc;unfold By at hp;obtain⟨v,hv,rfl⟩:=AG.1 hp;exact⟨h0,h.lt _ (AG.2 ⟨v,hv,rfl⟩) c hx⟩
def C9 (r:List Ar) (live:List Int) (a:Int):List Bool:=live.foldl (cU r)<|r.map<|D3 a
theorem Kl (r:List Ar) (live:List Int) (a:Int):(C9 r live a).length=r.length:=by unfold C9;rw[aI,Bg]
theorem PC (r:List Ar) (live:List Int) (a:Int) (hy:r[j]?=some y):(C9 r live a)[j]?=some (D3 a y||live.any (λc=>P1 c r r.length==some j)):=by
 unfold C9;rw[ZD,AP,hy];rfl
theorem ABk {c:Int} (h:P1 c r r.length=some j):KF r c=r[j]? :=by
 rw[ZA<|Pz c r r.length<|Au _,h];rfl
theorem ABM {c:Int} (h:KF r c=some y):∃j,P1 c r r.length=some j/\r[j]?=some y:=by
 have:=ZA<|Pz c r r.length<|Au _;rw[h]at this
 cases ht:P1 c r r.length with
 |none=>rw[ht]at this;cases this
 |some j=>rw[ht]at this;exact⟨j,rfl,this.symm⟩
theorem uP {p:Nat->Bool} (h:cn n p=0):∀j,j<n->p j=false:=by
 intro j hj;unfold cn at h;have:=List.length_eq_zero_iff.1 h;rw[Br]at this;have:=this j<|Hm.2 hj;simpa using this
theorem ABD {live:List Int} {a b:Int} (h:cn r.length (λj=>(C9 r live a)[j]?.getD false&&bk r b j)=0):∀y∈r,y.Block=b->(y.Page.Kind=2->y.Page.Tx<a)/\∀c∈live,KF r c≠some y:=by
 intro y hy hb;obtain⟨j,hj,rfl⟩:=AC hy;have hx:=Ab hj;have h1:=uP h j hj;rw[PC r live a hx]at h1;have h2:bk r b j=true:=by unfold bk;rw[hx];simpa using hb
 rw[h2,lD,Bl,Rk]at h1;refine⟨λhk=>?_,λc hc hn=>?_⟩
 ·have:=h1.1;unfold D3 at this;rw[show(r[j].Page.Kind==2)=true by simpa using hk,Dn,DI]at this;omega
 
 obtain⟨i,i1,i2⟩:=ABM hn;have h3:=h1.2;rw[O8]at h3;have h4:=h3 c hc;rw[i1]at h4;by_cases e:i=j
 ·rw[e]at h4;simp at h4
 
 have hi:=(Ag.1 i2).1;have h5:=uP h i hi;rw[PC r live a i2]at h5;have h6:bk r b i=true:=by unfold bk;rw[i2];simpa using hb
 rw[h6,lD,Bl,Rk,O8]at h5;have:=h5.2 c hc;rw[i1]at this;simp at this
theorem Zv (h:HY d r):∃l,IU d=some l/\l.length<=10/\∀b∈l,∃x,gi d.Flash.Blocks b=some x/\x.Bad=false/\∀y∈r,y.Block=b->(y.Page.Kind=2->y.Page.Tx<d.Base)/\∀c,E6 (By d.Store) c->KF r c≠some y:=by
 obtain⟨live,l1,l2,l3,l4⟩:=H3 h.st;have hn:=h.fl.n;unfold IU;rw[h.scan.s,l1];simp only[Aa];rw[Nw r live d.Base h.scan.len l4];simp only[Aa];have e:live.foldl (cU r) (r.map<|D3 d.Base)=C9 r live d.Base:=rfl;rw[e];obtain⟨b,q1,q2⟩:=AS (body:=λs:List Int×Int=>Ex d r (C9 r live d.Base) s.1 s.2) (λ(o:List Int) i=>(o,i)) d.Flash.Blocks.length
  (λi o=>o.length<=i/\∀b∈o,∃x,gi d.Flash.Blocks b=some x/\x.Bad=false/\∀y∈r,y.Block=b->(y.Page.Kind=2->y.Page.Tx<d.Base)/\∀c,E6 (By d.Store) c->KF r c≠some y)
  (λo=>o.length<=10/\∀b∈o,∃x,gi d.Flash.Blocks b=some x/\x.Bad=false/\∀y∈r,y.Block=b->(y.Page.Kind=2->y.Page.Tx<d.Base)/\∀c,E6 (By d.Store) c->KF r c≠some y)
  (λo i hi ho=>by
   have hx:=Ab hi;have hP:=h.fl.blk _<|A3 hi;obtain⟨nbl,_,bl⟩:=oO d.Flash.Blocks[i] (by rw[hP.four];omega);simp only[Ex,Ez hi,Aw,hx,Aa];rw[bl,Z7 r _ (i:Int) h.scan.len<|Kl _ _ _,ad1];simp only[Aa];refine .inl ?_
   cases a:d.Flash.Blocks[i].Bad with
   |true=>exact⟨o,rfl,by omega,ho.2⟩
   |false=>
    simp only[AD,Ae]
    cases g:(!(!decide (nbl<ln d.Flash.Blocks[i].Leaves)))with
    |false=>exact⟨o,rfl,by omega,ho.2⟩
    |true=>
     simp only[Ae,Aa]
     cases hz:((((cn r.length (λj=>(C9 r live d.Base)[j]?.getD false&&bk r (i:Int) j):Nat)):Int)==0)with
     |false=>exact⟨o,rfl,by omega,ho.2⟩
     |true=>
      simp only[Ae];have:=ho.1;rw[BP (by simp;omega)];refine⟨_,rfl,by simp;omega,λb hb=>?_⟩;rw[Al,AE]at hb
      rcases hb with hb|rfl
      ·exact ho.2 b hb
      refine⟨_,by rw[Aw];exact hx,a,λy hy f=>?_⟩;have hz':cn r.length (λj=>(C9 r live d.Base)[j]?.getD false&&bk r (i:Int) j)=0:=by
       rw[Cd]at hz;omega
      obtain⟨a1,a2⟩:=ABD hz' y hy f
      exact⟨a1,λc hc=>a2 c<|(l3 c).2 hc⟩)
  (λo ho=>⟨o,by simp only[Ex,Ec],by omega,ho.2⟩) (s:=[]) ⟨by simp,λb hb=>by cases hb⟩
 rw[q1];exact⟨b,rfl,q2⟩
theorem G7 (h:HY d r) (h':HY d' r') (e:Dc (Bs r')=Dc (Bs r)):By d'.Store=By d.Store/\d'.Store.Next=d.Store.Next/\d'.Base=d.Base:=by
 have h1:=h'.ab;rw[e,<-h.ab]at h1
 injection h1 with h1 h2
 exact⟨h1,h2,by rw[h'.base,h.base,e]⟩
theorem ABf (h:JI d r) (hb:∀y∈r,y.Block=b->(y.Page.Kind=2->y.Page.Tx<d.Base)/\∀c,E6 (By d.Store) c->KF r c≠some y) (hg:BE g) (hp:Jq 0 g.Blocks=(Jq 0 d.Flash.Blocks).filter λy=>y.Block !=b):
  ∃d',CK g=some (d',true)/\d'.Flash=g/\JI d' (r.filter λy=>y.Block !=b)/\By d'.Store=By d.Store/\d'.Store.Next=d.Store.Next/\d'.Base=d.Base/\∀c,E6 (By d.Store) c->C5 (r.filter λy=>y.Block !=b) c=C5 r c:=by
 have f:SR (Jq 0 g.Blocks) (r.filter λy=>y.Block !=b):=by rw[hp];exact h.dev.sr.filter _
 obtain⟨d',u1,u2,u3⟩:=JE hg f
 have hs:=gV r h.core.pages h.core.mu (λy=>y.Block !=b) (λy hy hk ht=>by
  have:y.Block≠b:=λe=>by
   have:=(hb y hy e).1 hk;rw[h.dev.base]at this;omega
  simpa using this)
 obtain⟨e1,e2,e3⟩:=G7 h.dev u2 hs
 have ht:∀c,E6 (By d.Store) c->C5 (r.filter λy=>y.Block !=b) c=C5 r c:=λc hc=>by
  obtain⟨s,a⟩:=h.data.data c hc;unfold C5 at a⊢
  cases hn:KF r c with
  |none=>rw[hn]at a;cases a
  |some y=>
   have hy:=(VD hn).1
   have:KF (r.filter λy=>y.Block !=b) c=some y:=nC _ hn (by
    have:y.Block≠b:=λe=>(hb y hy e).2 c hc hn
    simpa using this)
   rw[this]
 refine⟨d',u1,u3,⟨u2,h.core.filter _,?_⟩,e1,e2,e3,ht⟩;rw[e1];exact h.data.congr ht
def GO (id:Int):Nat->List Int->List Cy
 |_,[]=>[]
 |k,x::row=>(if x>0 then [Cy.mk 4 id k x]else [])++GO id (k+1) row
def Qa (p:Int×List Int):List Cy:=Cy.mk 2 p.1 0 0::GO p.1 0 p.2
def Lc (l:Vs) (nx:Int):List Cy:=Cy.mk 1 0 nx 0::l.flatMap Qa
theorem Qm (id x:Int):∀(k:Nat) (a:List Int),GO id k (a++ [x])=GO id k a++(if x>0 then [Cy.mk 4 id (k+a.length:Nat) x]else [])
 |k,[]=>by simp[GO]
 |k,y::a=>by
  rw[B5,GO,Qm id x (k+1) a,GO,Ax,A7,show k+1+a.length=k+(a.length+1) by omega]
theorem X1 (id:Int):∀(k:Nat) (a:List Int),(GO id k a).length<=a.length
 |_,[]=>Au _
 |k,x::a=>by
  rw[GO,Ai,A7];have:=X1 id (k+1) a;split<;>simp<;>omega
theorem iR (K:Ks) (r:Int):(Fe K r).length=16:=by unfold Fe;simp
theorem nZ:∀(l:Vs),(∀p∈l,p.2.length=16)->(l.flatMap Qa).length<=17*l.length
 |[],_=>Au _
 |p::l,h=>by
  have:=nZ l (λq hq=>h q<|by simp[hq]);have h2:=X1 p.1 0 p.2;have h3:=h p (by simp);rw[Kx,Ai,A7];unfold Qa at*;rw[A7];omega
theorem Vz (h:CB s):LB s=some (Lc (By s) s.Next):=by
 have hl:=h.len;unfold LB;obtain⟨b,h1,h2⟩:=AS (body:=λq:List Cy×Int=>Eh s q.1 q.2) (λ(o:List Cy) i=>(o,i)) s.Vols.length (λi o=>o=Lc ((By s).take i) s.Next/\o.length<=1+17*i) (λo=>o=Lc (By s) s.Next)
  (λo i hi ho=>by
   have hx:=Ab hi;have hr:=h.root _<|AG.2 ⟨s.Vols[i],A3 hi,rfl⟩;have d:=ho.2;have et:(By s).take (i+1)=(By s).take i++ [(s.Vols[i].Id,Fe s.Arena.Knots s.Vols[i].Root)]:=by
    rw[Ei];unfold By;rw[AP,hx];rfl
   simp only[Eh,Ez hi,Aw,hx,Aa];rw[BP (by simp;omega),Aa,Oc _ (by have:=h.few;omega) h.ar hr];simp only[Aa];obtain⟨u,u1,u2,u3⟩:=AS (body:=λq:List Cy×Int=>Eg s (i:Int) (Fe s.Arena.Knots s.Vols[i].Root) q.1 q.2) (λ(l:List Cy) k=>(l,k)) (Fe s.Arena.Knots s.Vols[i].Root).length
    (λk u=>u=o++ [Cy.mk 2 s.Vols[i].Id 0 0]++GO s.Vols[i].Id 0 ((Fe s.Arena.Knots s.Vols[i].Root).take k)/\u.length<=o.length+1+k) (λu=>u=o++ [Cy.mk 2 s.Vols[i].Id 0 0]++GO s.Vols[i].Id 0 (Fe s.Arena.Knots s.Vols[i].Root)/\u.length<=o.length+17)
    (λu k hk hu=>by
     obtain⟨a,f⟩:=hu;have c:=Ab hk;have g:=iR s.Arena.Knots s.Vols[i].Root;have etk:=Ao hk;simp only[Eg,Ez hk,Aw,c,hx,Aa];rw[ad1];refine .inl ?_;by_cases e:(Fe s.Arena.Knots s.Vols[i].Root)[k]>0
     ·rw[Ad e,Ae,BP (by simp;omega)];refine⟨_,rfl,?_,by simp;omega⟩;rw[etk,Qm,Ay e,a,AW,show 0+min k (Fe s.Arena.Knots s.Vols[i].Root).length=k by omega];simp only[Ax]
     rw[Af e,Ac];refine⟨u,rfl,?_,by omega⟩
     rw[etk,Qm,Av e,a,A4])
    (λu hu=>⟨u,by simp only[Eg,Ec],by rw[hu.1,Bc],by have:=iR s.Arena.Knots s.Vols[i].Root;have:=hu.2;omega⟩) (s:=o++ [Cy.mk 2 s.Vols[i].Id 0 0]) ⟨by simp[GO],by simp⟩
   rw[u1,Aa,ad1];refine .inl ⟨u,rfl,?_,by omega⟩;rw[et,u2,ho.1];unfold Lc;rw[R8]
   simp[Qa])
  (λo ho=>⟨o,by simp only[Eh,Ec],by rw[ho.1,AN (by rw[IK];exact Au _)]⟩) (s:=[Cy.mk 1 0 s.Next 0]) ⟨rfl,by simp⟩
 rw[h1,h2];rfl
structure VsP (l:Vs) (nx:Int):Prop where
 len:l.length<=3
 nxt:1<=nx/\nx<=1000000000
 ids:∀p∈l,1<=p.1/\p.1<=9
 asc:l.Pairwise λp q=>p.1<q.1
 row:∀p∈l,p.2.length=16
 num:∀p∈l,∀x∈p.2,0<=x/\x<nx
theorem oH {r:Int} (hK:CX K=true) (hr:DD K r=true):∀x∈Fe K r,0<=x:=by
 intro x hx;unfold Fe at hx;obtain⟨s,hs,rfl⟩:=AG.1 hx;rw[Hm]at hs;unfold Ru
 rcases Ca hr with e|⟨h0,h1,hl⟩
 ·rw[Ay<|by omega];omega
 rw[Av<|by omega]
 rcases Gv hK h0 h1 hl (show s/4<4 by omega)with k1|⟨k1,k2,k3⟩
 ·rw[Ay<|by omega];omega
 rw[Av<|by omega];exact AAh hK k1 (by omega) k3<|by omega
theorem CB.vs (h:CB s):VsP (By s) s.Next:=by
 have mem:∀p∈By s,∃v∈s.Vols,p=(v.Id,Fe s.Arena.Knots v.Root):=λp hp=>by
  obtain⟨v,hv,rfl⟩:=AG.1 hp;exact⟨v,hv,rfl⟩
 refine⟨by rw[IK];exact h.len,h.nx,λp hp=>?_,?_,λp hp=>?_,λp hp x hx=>?_⟩
 ·obtain⟨v,hv,rfl⟩:=mem p hp;exact h.ids v hv
 ·have:=h.asc;unfold By;rw[Kw]at this⊢;exact this
 ·obtain⟨v,hv,rfl⟩:=mem p hp;exact iR _ _
 obtain⟨v,hv,rfl⟩:=mem p hp;have hm:v.Root∈B3 s:=AG.2 ⟨v,hv,rfl⟩;exact⟨oH h.ar (h.root _ hm) x hx,h.lt _ hm x hx⟩
theorem TN {P:Vs} {id:Int} (h:∀p∈P,p.1<id) (Q:Vs):KY (P++Q) id=KY Q id:=by
 unfold KY;rw[List.find?_append,N9.2 (λp hp hh=>by have:=h p hp;simp at hh;omega),Option.none_or]
theorem zB {id k x:Int} (h1:1<=id/\id<=9) (h2:0<=k/\k<16) (h3:1<=x/\x<=1000000000):GL (Cy.mk 4 id k x)=true:=by
 unfold GL;simp;omega
theorem AC5 {id a:Int} (h1:1<=id/\id<=9) (h2:0<=a/\a<=9):GL (Cy.mk 2 id a 0)=true:=by
 unfold GL;simp;omega
theorem u0 {P:Vs} {id:Int} {a:List Int} (h:∀p∈P,p.1<id) (k:Nat) (x:Int):pV (P++ [(id,a)]) id k x=P++ [(id,a.set k x)]:=by
 unfold pV;rw[Co];congr 1
 ·conv=>rhs;rw[<-UO P]
  apply Dh;intro p hp;have:=h p hp;rw[Av<|by omega];rfl
 simp
theorem mU {P:Vs} {id nx:Int} (hP:∀p∈P,p.1<id) (a:1<=id/\id<=9) (c:nx<=1000000000):∀(todo done:List Int),done.length+todo.length=16->(∀x∈todo,0<=x/\x<nx)->CM (P++ [(id,done++List.replicate todo.length 0)]) nx (GO id done.length todo)=some (P++ [(id,done++todo)],nx)
 |[],done,hl,hx=>by simp[GO,CM]
 |x::todo,done,hl,hx=>by
  have h1:=hx x (by simp);rw[A7]at hl;have ih:=mU hP a c todo (done++ [x]) (by simp;omega) (λy hy=>hx y<|by simp[hy]);rw[Ai,A8]at ih;rw[GO];have b:(done++List.replicate (todo.length+1) 0).set done.length x=done++ [x]++List.replicate todo.length 0:=by
   rw[GH,List.set_append_right _ _<|Au _,Yi,Dr,Ax];rfl
  by_cases e:x>0
  ·rw[Ay e,D6,FC];have d:DA (P++ [(id,done++List.replicate (x::todo).length 0)]) nx (Cy.mk 4 id done.length x)=some (P++ [(id,done++ [x]++List.replicate todo.length 0)],nx):=by
    unfold DA;rw[zB a (by omega)<|by omega];simp only[JK,Fs,show¬((4:Int)=1) by omega,show¬((4:Int)=2) by omega,show¬((4:Int)=3) by omega];have hg:KY (P++ [(id,done++List.replicate (x::todo).length 0)]) id≠none:=by
     rw[TN hP];simp[KY]
    rw[Av (by
     rintro(hh|hh)
     ·exact hg hh
     omega)]
    rw[u0 hP,Be,A7,b,show max nx (x+1)=nx by omega]
   rw[d,Aa,ih,Ax];rfl
  rw[Av e,A6];have e0:x=0:=by omega
  have:done++List.replicate (x::todo).length 0=done++ [x]++List.replicate todo.length 0:=by
   rw[e0,A7,GH,Ax];rfl
  rw[this,ih,Ax];rfl
theorem wA {P:Vs} {id:Int} {a:List Int} (h:∀p∈P,p.1<id):qU P id a=P++ [(id,a)]:=by
 unfold qU;rw[GI.2 (λp hp=>by simpa using h p hp),Br.2 (λp hp=>by have:=h p hp;simp;omega),A4]
theorem dY (d:nx<=1000000000):∀(l P:Vs),(P++l).length<=3->(P++l).Pairwise (λp q=>p.1<q.1)->(∀p∈l,(1<=p.1/\p.1<=9)/\p.2.length=16/\∀x∈p.2,0<=x/\x<nx)->CM P nx (l.flatMap Qa)=some (P++l,nx)
 |[],P,_,_,_=>by simp[CM]
 |p::l,P,b,a,hall=>by
  obtain⟨h1,h2,h3⟩:=hall p<|by simp
  have c:∀q∈P,q.1<p.1:=λq hq=>by
   rw[AR]at a;exact a.2.2 q hq p<|by simp
  rw[Kx,Mp];unfold Qa;rw[FC];have f:DA P nx (Cy.mk 2 p.1 0 0)=some (P++ [(p.1,TB)],nx):=by
   unfold DA;rw[AC5 h1<|by omega];simp only[JK,Fs,BQ,show¬((2:Int)=1) by omega];have hg:KY P p.1=none:=by
    have:=TN c [];rw[A4]at this;rw[this];rfl
   rw[Av (by
    rintro(hh|hh|hh)
    ·omega
    ·exact hh hg
    simp at b;omega)]
   rw[Av (by omega),wA c]
  rw[f];simp only[Aa];have hz:TB=[]++List.replicate p.2.length 0:=by rw[h2];rfl
  have e:=mU c h1 d p.2 [] (by simpa using h2) h3;rw[<-hz,BV,A6]at e;rw[e];simp only[Aa];have hP:P++ [(p.1,p.2)]=P++ [p]:=rfl;have:=dY d l (P++ [p]) (by rw[Ax];exact b) (by rw[Ax];exact a) (λq hq=>hall q<|by simp[hq]);rw[hP,show(l.flatMap λp=>Cy.mk 2 p.1 0 0::GO p.1 0 p.2)=l.flatMap Qa from rfl,this,Ax];rfl
theorem gD (h:VsP l nx) (l0:Vs) (n0:Int):CM l0 n0 (Lc l nx)=some (l,nx):=by
 unfold Lc;rw[FC];have a:DA l0 n0 (Cy.mk 1 0 nx 0)=some ([],nx):=by
  unfold DA;have hb:GL (Cy.mk 1 0 nx 0)=true:=by
   have:=h.nxt;unfold GL;simp;omega
  rw[hb];simp only[JK,Fs,BQ];have:=h.nxt;rw[Av<|by omega]
 rw[a];simp only[Aa];have:=dY h.nxt.2 l [] (by simpa using h.len) (by simpa using h.asc) λp hp=>⟨h.ids p hp,h.row p hp,h.num p hp⟩;rw[A6]at this;exact this
theorem gC (h:VsP l nx):(∀r∈Lc l nx,GL r=true)/\(Lc l nx).length<=1000:=by
 refine⟨λr hr=>?_,?_⟩
 ·
  cases hb:GL r with
  |true=>rfl
  |false=>
   exfalso;obtain⟨i,hi,rfl⟩:=AC hr;have h1:=gD h [] 1;obtain⟨e1,e2⟩:=JS<|Ab hi;rw[e1,Mp]at h1
   cases hq:CM [] 1 ((Lc l nx).take i)with
   |none=>rw[hq]at h1;cases h1
   |some q=>
    rw[hq]at h1;simp only[Aa]at h1;rw[FC]at h1;have:DA q.1 q.2 (Lc l nx)[i]=none:=by unfold DA;rw[Ay hb]
    rw[this]at h1;cases h1
 unfold Lc;rw[A7];have:=nZ l h.row;have:=h.len;omega
structure AEX (d d':A9):Prop where
 ab:By d'.Store=By d.Store
 nx:d'.Store.Next=d.Store.Next
theorem Np (h:HY d r) {steps:List Bh} (hs:Steps d.Flash steps g) (hl:steps.length<=1048576) (hm:CK g=some (d',true)):H1 d steps=some d':=by
 unfold H1;rw[mP h.fl hs hl,Aa,hm];rfl
theorem Wd:∀{n:Int} {ps:List Page} {p:Page},G3 n ps->(∀q∈ps,q.Seq<p.Seq)->n<=p.Seq->G3 n (ps++ [p])
 |n,[],p,_,_,h=>⟨h,trivial⟩
 |n,q::ps,p,ha,hq,h=>⟨ha.1,Wd ha.2 (λx hx=>hq x (by simp[hx])) (by have:=hq q (by simp);omega)⟩
def qP (d:A9) (r:List Ar) (p:Page):Prop:=p.Kind=1/\E6 (By d.Store) p.Tx/\∃y,KF r p.Tx=some y/\p.Text=y.Page.Text
theorem ZC (h:HY d r) {live:List Int} (hl:∀x,x∈live↔E6 (By d.Store) x) (hy:r[j]?=some y) (hn:(C9 r live 1000000001)[j]?=some true):y.Page.Kind=1/\E6 (By d.Store) y.Page.Tx/\KF r y.Page.Tx=some y:=by
 rw[PC r live _ hy]at hn
 injection hn with hn
 have a:=h.pages;have ht:=a.tx y<|Aq hy;have:D3 1000000001 y=false:=by
  unfold D3;rw[Af (by omega),Bool.and_false]
 rw[this,Wl,CE]at hn;obtain⟨c,hc,b⟩:=hn;have e:P1 c r r.length=some j:=by simpa using b
 have h1:=ABk e;rw[hy]at h1;obtain⟨_,k1,k2⟩:=VD h1;rw[k2];exact⟨k1,(hl c).1 hc,h1⟩
theorem cJ (h:HY d r) (l:r.length<=40) (b:Int):Hq d b=some ([],false)\/∃steps ps g,Hq d b=some (steps,true)/\Jl d.Flash steps ps g/\BE g/\G3 d.Seq ps/\steps.length<=160/\(∀p∈ps,qP d r p/\J6 p)/\∀p∈ps,p.Seq<d.Seq+160:=by
 obtain⟨live,l1,l2,l3,l4⟩:=H3 h.st;have m:1<=d.Seq/\d.Seq<=1000000001:=by
  rw[h.seq];have h1:=NT r;refine⟨h1.2.1,h1.2.2 _ (by omega) λy hy=>?_⟩;have:=(h.pages.seq y hy).2;omega
 unfold Hq;rw[h.scan.s,l1];simp only[Aa];rw[Nw r live _ h.scan.len l4];simp only[Aa];have e:live.foldl (cU r) (r.map<|D3 1000000001)=C9 r live 1000000001:=rfl;rw[e]
 let I:Nat->(List Bh×Int×List Block)->Prop:=λn o=>∃ps,Jl d.Flash o.1 ps (Flash.mk o.2.2)/\BE (Flash.mk o.2.2)/\G3 d.Seq ps/\(∀p∈ps,p.Seq<o.2.1)/\d.Seq<=o.2.1/\o.2.1<=d.Seq+n/\o.1.length<=n/\∀p∈ps,qP d r p/\J6 p
 have I0:I (40*0) ([],d.Seq,d.Flash.Blocks):=by
  refine⟨[],rfl,h.fl,trivial,?_,?_,?_,?_,?_⟩
  ·intro p hp;cases hp
  ·exact GQ _
  ·show d.Seq<=d.Seq+((40*0:Nat):Int);omega
  ·exact Au _
  intro p hp;cases hp
 obtain⟨a,h1,h2⟩:=AS (body:=λs:List Bh×Int×Int×List Block=>ET b r (C9 r live 1000000001) s.1 s.2.1 s.2.2.1 s.2.2.2) (λ(o:List Bh×Int×List Block) i=>(o.1,o.2.1,i,o.2.2)) 4
  (λi o=>I (40*i) o) (λa=>a= .inr ([],false)\/∃steps sq bl,a= .inl steps/\I 160 (steps,sq,bl))
  (λo i hi ho=>by
   simp only[ET];rw[cT];obtain⟨q,q1,q2⟩:=AS (body:=λs:List Bh×Int×Int×List Block=>ES b r (C9 r live 1000000001) (i:Int) s.1 s.2.1 s.2.2.1 s.2.2.2) (λ(o:List Bh×Int×List Block) j=>(o.1,o.2.1,j,o.2.2)) r.length
    (λj o=>I (40*i+j) o) (λq=>q= .inr (.inr<|.inr ([],false))\/∃o,q= .inl o/\I (40*i+40) o)
    (λo j hj hs=>by
     obtain⟨ss,sq,bl⟩:=o;obtain⟨ps,p1,p2,p3,p4,p5,p6,p7,p8⟩:=hs;simp only at p1 p2 p4 p5 p6 p7;have hx:=Ab hj;have f:j<(C9 r live 1000000001).length:=by rw[Kl];exact hj
     have c:=Ab f;simp only[ES,Ez hj,Aw,hx,c,Aa];rw[ad1];have skip:I (40*i+(j+1)) (ss,sq,bl):=⟨ps,p1,p2,p3,p4,p5,by show sq<=_;omega,by show ss.length<=_;omega,p8⟩
     cases k:(C9 r live 1000000001)[j]with
     |false=>
      simp only[AD,Ae,Aa];exact .inl ⟨(ss,sq,bl),rfl,skip⟩
     |true=>
      simp only[Ah,Ac]
      cases hb:(r[j].Block !=b)with
      |true=>
       simp only[Ae,Aa];exact .inl ⟨(ss,sq,bl),rfl,skip⟩
      |false=>
       simp only[Ac,Aa]
       cases t:(r[j].Leaf !=(i:Int))with
       |true=>
        simp only[Ae,Aa];exact .inl ⟨(ss,sq,bl),rfl,skip⟩
       |false=>
        simp only[Ac,Aa];obtain⟨m1,m2,m3⟩:=ZC h l3 hx<|by rw[c,k]
        rcases zG p2 p1 (by omega) (Page.mk r[j].Page.Kind sq r[j].Page.Tx r[j].Page.Part r[j].Page.Count r[j].Page.Text)with⟨s,g',w1,w2,w3,w4,_⟩|w
        ·rw[w1];simp only[Aa,Ah,Ac];rw[B4,Ai,A8,Cj,show((ss.length+1:Nat):Int)-1=(ss.length:Int) by omega,Fv];simp only[Aa]
         cases u:(s.Block==b)with
         |true=>exact .inr ⟨_,rfl,.inl rfl⟩
         |false=>
          simp only[Ac];rw[C6];refine .inl ⟨(ss++ [s],sq+1,g'.Blocks),rfl,_,w2,w3,Wd p3 (λq hq=>p4 q hq) p5,λp hp=>?_,by show d.Seq<=sq+1;omega,by show sq+1<=_;omega,by simp;omega,λp hp=>?_⟩
          ·rw[Al,AE]at hp;show p.Seq<sq+1
           rcases hp with hp|rfl
           ·have:=p4 p hp;omega
           show sq<sq+1;omega
          rw[Al,AE]at hp
          rcases hp with hp|rfl
          ·exact p8 p hp
          exact⟨⟨m1,m2,_,m3,rfl⟩,w4⟩
        rw[w]
        exact .inr ⟨_,rfl,.inl rfl⟩)
    (λo hs=>⟨.inl (o.1,o.2.1,o.2.2),by simp only[ES,Ec],.inr ⟨o,rfl,by
     obtain⟨ps,p1,p2,p3,p4,p5,p6,p7,p8⟩:=hs
     exact⟨ps,p1,p2,p3,p4,p5,by omega,by omega,p8⟩⟩⟩) (s:=o) (by
      obtain⟨ps,p1,p2,p3,p4,p5,p6,p7,p8⟩:=ho
      exact⟨ps,p1,p2,p3,p4,p5,by omega,by omega,p8⟩)
   rw[q1]
   rcases q2 with rfl|⟨o',rfl,q2⟩
   ·exact .inr ⟨_,rfl,.inl rfl⟩
   simp only[Aa,Bz];rw[ad1]
   exact .inl ⟨o',rfl,by
    obtain⟨ps,p1,p2,p3,p4,p5,p6,p7,p8⟩:=q2
    exact⟨ps,p1,p2,p3,p4,p5,by omega,by omega,p8⟩⟩)
  (λo ho=>⟨.inl o.1,by simp only[ET];rw[cF],.inr ⟨o.1,o.2.1,o.2.2,rfl,ho⟩⟩) (s:=([],d.Seq,d.Flash.Blocks)) I0
 rw[h1]
 rcases h2 with rfl|⟨steps,sq,bl,rfl,ps,p1,p2,p3,p4,p5,p6,p7,p8⟩
 ·exact .inl rfl
 exact .inr ⟨steps,ps,_,rfl,p1,p2,p3,p7,p8,λp hp=>by have h1:p.Seq<sq:=p4 p hp;have h2:sq<=d.Seq+((160:Nat):Int):=p6;omega⟩
theorem z8 (h:JI d r) {steps:List Bh} (hp:Jl d.Flash steps ps g) (ha:G3 d.Seq ps) (hl:steps.length<=160) (hm:∀p∈ps,qP d r p/\J6 p) (k:Nat):
  ∃m d',Steps d.Flash (steps.take k) m/\BE m/\CK m=some (d',true)/\d'.Flash=m/\JI d' (r++(Cn steps ps).take k)/\AEX d d'/\d'.Base=d.Base/\YL d.Flash m/\∀c,E6 (By d.Store) c->C5 (r++(Cn steps ps).take k) c=C5 r c:=by
 have f:=(Fw hp).2;have w:=h.few
 have b:∀y∈r,y.Page.Seq<d.Seq:=λy hy=>by rw[h.dev.seq];exact(NT r).1 y hy
 obtain⟨m,a⟩:=UJ k hp;have l:=YE h.dev.fl (Fw a).1;have ascT:∀(ps:List Page) (n:Int) (k:Nat),G3 n ps->G3 n (ps.take k):=by
  intro ps
  induction ps with
  |nil=>intro n k _;simp[G3]
  |cons p ps ih=>
   intro n k ha
   cases k with
   |zero=>trivial
   |succ k=>exact⟨ha.1,ih _ k ha.2⟩
 have o:=bM h.dev.fl h.dev.sr a b<|ascT _ _ k ha;rw[XD]at o;obtain⟨d',u1,u2,u3⟩:=JE l o;have h0:=UD f;have ascG:∀(ps:List Page) (n:Int) (i:Nat) (p:Page),G3 n ps->ps[i]?=some p->n<=p.Seq/\∀j q,j<i->ps[j]?=some q->q.Seq<p.Seq:=by
  intro ps
  induction ps with
  |nil=>intro n i p _ hp;simp at hp
  |cons x ps ih=>
   intro n i p ha hp
   cases i with
   |zero=>
    simp only[DJ,An]at hp;rw[<-hp];exact⟨ha.1,λj q hj=>by omega⟩
   |succ i=>
    obtain⟨i1,i2⟩:=ih _ i p ha.2 (by simpa using hp);have:=ha.1;refine⟨by omega,λj q hj hq=>?_⟩
    cases j with
    |zero=>
     simp only[DJ,An]at hq;rw[<-hq];omega
    |succ j=>exact i2 j q (by omega)<|by simpa using hq
 have main:∀n,n<=(Cn steps ps).length->JJ (r++(Cn steps ps).take n)/\Hi (r++(Cn steps ps).take n) (E6<|By d.Store)/\Bs (r++(Cn steps ps).take n)=Bs r/\∀c,E6 (By d.Store) c->C5 (r++(Cn steps ps).take n) c=C5 r c:=by
  intro n
  induction n with
  |zero=>intro _;rw[Jh,A4];exact⟨h.core,h.data,rfl,λ_ _=>rfl⟩
  |succ n ih=>
   intro hn;obtain⟨i1,i2,i3,i4⟩:=ih (by omega);have hx:(Cn steps ps)[n]?=some (Cn steps ps)[n]:=Ab (by omega);have s:=LO hx;obtain⟨⟨m1,m2,y,m3,m4⟩,m5⟩:=hm _<|Aq s;obtain⟨a1,a2⟩:=ascG ps d.Seq n _ ha s;rw[Ao (by omega),<-Ax];have t:T1 (Cn steps ps)[n].Page.Text=C5 r (Cn steps ps)[n].Page.Tx:=by unfold C5;rw[m3,m4];rfl
   have u:Db (r++(Cn steps ps).take n)<=(Cn steps ps)[n].Page.Seq:=by
    refine(NT _).2.2 _ (m5.2.1.1) (λz hz=>?_)
    rcases Al.1 hz with hz|hz
    ·have:=b z hz;omega
    obtain⟨j,hj,rfl⟩:=AC hz;rw[AW]at hj;rw[HX];exact a2 j _ (by omega)<|LO<|Ab<|by omega
   refine⟨JJ.add i1 (by simp;omega) m5 u (λhh=>by omega),pF i2 (by rw[t,i4 _ m2]),by rw[XC _ (by omega),i3],λc hc=>?_⟩;by_cases e:(Cn steps ps)[n].Page.Kind=1/\(Cn steps ps)[n].Page.Tx=c
   ·have:C5 (r++(Cn steps ps).take n++ [(Cn steps ps)[n]]) c=T1 (Cn steps ps)[n].Page.Text:=by unfold C5;rw[ME,Ay e];rfl
    rw[this,t,e.2]
   rw[<-i4 c hc];unfold C5;rw[ME,Av e]
 have v:JJ (r++(Cn steps ps).take k)/\Hi (r++(Cn steps ps).take k) (E6<|By d.Store)/\Bs (r++(Cn steps ps).take k)=Bs r/\∀c,E6 (By d.Store) c->C5 (r++(Cn steps ps).take k) c=C5 r c:=by
  by_cases e:k<=(Cn steps ps).length
  ·exact main k e
  have:=main _<|Au _;rw[Bc]at this;rw[AN<|by omega];exact this
 obtain⟨k1,k2,k3,k4⟩:=v;obtain⟨e1,e2,e3⟩:=G7 h.dev u2 (by rw[k3]);exact⟨m,d',(Fw a).1,l,u1,u3,⟨u2,k1,by rw[e1];exact k2⟩,⟨e1,e2⟩,e3,λ_=>UI a,k4⟩
theorem Rj (h:HY d r) {live:List Int} (hl:live.length<=16777216) (t:ByteArray):∃v,Iy d.Flash live t=some v/\((v=0/\∀c∈live,C5 r c≠some t)\/(v∈live/\C5 r v=some t)):=by
 have hr:=h.pages;unfold Iy SL;rw[h.scan.s];simp only[Aa];obtain⟨b,h1,h2⟩:=AS (body:=λs:Int=>Fp r live t s) (λ(_:Unit) i=>i) live.length (λi _=>∀c∈live.take i,C5 r c≠some t) (λb=>(b= .inl ()/\∀c∈live,C5 r c≠some t)\/∃v,b= .inr v/\v∈live/\C5 r v=some t)
  (λ_ i hi hs=>by
   have hx:=Ab hi;simp only[Fp,Ez hi,Aw,hx,Aa];obtain⟨u,ok,k1,k2⟩:=mE hr live[i];rw[k1,Aa,ad1]
   have no:C5 r live[i]≠some t->∀c∈live.take (i+1),C5 r c≠some t:=λf c hc=>by
    rw[Ao hi,Al,AE]at hc
    rcases hc with hc|rfl
    ·exact hs c hc
    exact f
   cases ok with
   |false=>
    simp only[Ac,Aa];exact .inl ⟨(),by first|rfl|trivial,no (by rw[k2];simp)⟩
   |true=>
    simp only[Ae,Aa];rw[Ay rfl]at k2
    cases a:seq u t with
    |true=>
     rw[Lu,A5]at a;exact .inr ⟨_,rfl,.inr ⟨_,rfl,A3 hi,by rw[k2,a]⟩⟩
    |false=>
     rw[Lu,DI]at a;refine .inl ⟨(),rfl,no ?_⟩;rw[k2];intro e
     injection e with e
     exact a e)
  (λ_ hs=>⟨_,by simp only[Fp,Ec],.inl ⟨rfl,by rw[Bc]at hs;exact hs⟩⟩) (s:=()) (by simp)
 rw[h1]
 rcases h2 with⟨rfl,h2⟩|⟨v,rfl,h2⟩
 ·exact⟨0,rfl,.inl ⟨rfl,h2⟩⟩
 exact⟨v,rfl,.inr h2⟩
structure ADH (q:Rv):Prop where
 kind:1<=q.Kind/\q.Kind<=6
 vol:1<=q.Vol/\q.Vol<=9
 text:(L q.Text).length<=64
 sec:0<=q.Sector/\q.Sector<=15
 of_:0<=q.Of/\q.Of<=9
 cl:q.Kind=4->1<=q.Of
 no:q.Kind≠4->q.Of=0
 tx:q.Kind≠1->L q.Text=[]
theorem W0 (q:Rv):∃v,Nu q=some v/\(v=true->ADH q):=by
 unfold Nu;simp only[EB,Aa];by_cases h1:1<=q.Kind/\q.Kind<=6
 ·rw[Ad h1];by_cases h2:1<=q.Vol/\q.Vol<=9
  ·rw[Ad h2];by_cases h3:FM q.Text>64
   ·rw[Ad h3];exact⟨_,rfl,by simp⟩
   rw[Af h3];rw[B9]at h3;simp only[Ah,Ac];have ht:(cond (q.Kind !=1) (some<|!(seq q.Text<|bs [])) (some false):Option Bool)=some (decide<|q.Kind≠1/\L q.Text≠ []):=by
    by_cases e:q.Kind=1
    ·rw[show(q.Kind !=1)=false by simp[e],Af λhh=>hh.1 e];rfl
    rw[show(q.Kind !=1)=true by simpa using e,Rp,EY];by_cases e2:L q.Text=[]
    ·rw[Ad e2,Af λhh=>hh.2 e2];rfl
    rw[Af e2,Ad<|show q.Kind≠1/\L q.Text≠ []from⟨e,e2⟩];rfl
   rw[ht];simp only[Aa];by_cases h4:q.Kind≠1/\L q.Text≠ []
   ·rw[Ad h4];exact⟨_,rfl,by simp⟩
   rw[Af h4];simp only[Ac]
   have a:q.Kind≠1->L q.Text=[]:=λhk=>Classical.byContradiction λhh=>h4 ⟨hk,hh⟩
   by_cases h5:q.Kind=4
   ·rw[show(q.Kind==4)=true by simpa using h5];simp only[Ae];by_cases h6:q.Sector=0
    ·rw[show(q.Sector==0)=true by simpa using h6];refine⟨_,rfl,λhh=>?_⟩;rw[A5]at hh;exact⟨h1,h2,by omega,by omega,by omega,λ_=>hh.1,λhk=>absurd h5 hk,a⟩
    rw[show(q.Sector==0)=false by simpa using h6];exact⟨_,rfl,by simp⟩
   rw[show(q.Kind==4)=false by simpa using h5];simp only[Ac];by_cases h6:q.Of=0
   ·rw[show(q.Of !=0)=false by simp[h6]];simp only[Ac];by_cases h7:q.Kind=3\/q.Kind=5
    ·have:(cond (q.Kind==3) (some true) (some<|q.Kind==5):Option Bool)=some true:=by
      rcases h7 with e|e<;>rw[e]<;>rfl
     rw[this];refine⟨_,rfl,λhh=>?_⟩;rw[Cd]at hh;exact⟨h1,h2,by omega,by omega,by omega,λhk=>absurd hk h5,λ_=>h6,a⟩
    have:(cond (q.Kind==3) (some true) (some<|q.Kind==5):Option Bool)=some false:=by
     rw[show(q.Kind==3)=false by rw[Df];omega,show(q.Kind==5)=false by rw[Df];omega];rfl
    rw[this];refine⟨_,rfl,λhh=>?_⟩;rw[A5]at hh;exact⟨h1,h2,by omega,hh,by omega,λhk=>absurd hk h5,λ_=>h6,a⟩
   rw[show(q.Of !=0)=true by simpa using h6];exact⟨_,rfl,by simp⟩
  rw[Af h2];exact⟨_,rfl,by simp⟩
 rw[Af h1];exact⟨_,rfl,by simp⟩
def zH (d:A9) (r:List Ar) (q:Rv) (x:Cy) (a:ByteArray):Prop:=GL x=true/\x.Kind≠1/\x.Vol=q.Vol/\((L a=[]/\(x.Kind=4->E6 (By d.Store) x.Chunk/\C5 r x.Chunk=some q.Text))\/(x.Kind=4/\x.Chunk=d.Store.Next/\L a≠ []/\T1 a=some q.Text/\∀c,E6 (By d.Store) c->C5 r c≠some q.Text))
theorem Wf (h:HY d r) (q:Rv):∃a text no,EP d q=some (a,text,no)/\((a=[]/\text=bs [])\/(no=0/\∃x,a=[x]/\zH d r q x text))/\(no≠0->a=[]):=by
 have j:=h.st.len;have b:=h.st.nx;obtain⟨v,a1,a2⟩:=W0 q;unfold EP;rw[a1];simp only[Aa]
 cases v with
 |false=>exact⟨_,_,_,rfl,.inl ⟨rfl,rfl⟩,λ_=>rfl⟩
 |true=>
  have hq:=a2 rfl;simp only[Ah,Ac];have g:=hq.kind;obtain⟨w,hw⟩:∃w,Ds d.Store q.Vol=some w:=by
   rcases El d.Store (by omega) q.Vol with⟨e,_⟩|⟨k,_,e,_⟩<;>exact⟨_,e⟩
  rw[hw];simp only[Aa];by_cases h34:q.Kind=3\/q.Kind=4
  ·have:(cond (q.Kind==3) (some true) (some<|q.Kind==4):Option Bool)=some true:=by
    rcases h34 with e|e<;>rw[e]<;>rfl
   rw[this];simp only[Aa,Ae]
   cases decide (w>=0)with
   |true=>exact⟨_,_,_,rfl,.inl ⟨rfl,rfl⟩,λ_=>rfl⟩
   |false=>
    simp only[Ac];obtain⟨j2,i⟩:∃j2,(cond (q.Kind==4) ((Ds d.Store q.Of).bind λv3=>some<|decide<|v3<0) (some false):Option Bool)=some j2:=by
     cases q.Kind==4 with
     |false=>exact⟨_,rfl⟩
     |true=>
      rcases El d.Store (by omega) q.Of with⟨e,_⟩|⟨k,_,e,_⟩<;>rw[e]<;>exact⟨_,rfl⟩
    rw[i];simp only[Aa]
    cases j2 with
    |true=>exact⟨_,_,_,rfl,.inl ⟨rfl,rfl⟩,λ_=>rfl⟩
    |false=>
     simp only[Ac]
     cases decide (ln d.Store.Vols>=3)with
     |true=>exact⟨_,_,_,rfl,.inl ⟨rfl,rfl⟩,λ_=>rfl⟩
     |false=>
      refine⟨_,_,_,rfl,.inr ⟨rfl,_,rfl,AC5 hq.vol hq.of_,by simp,rfl,.inl ⟨EY _,λhh=>by simp at hh⟩⟩,λhh=>absurd rfl hh⟩
  have:(cond (q.Kind==3) (some true) (some<|q.Kind==4):Option Bool)=some false:=by
   rw[show(q.Kind==3)=false by rw[Df];omega,show(q.Kind==4)=false by rw[Df];omega];rfl
  rw[this];simp only[Aa,Ac]
  cases decide (w>=0)with
  |false=>exact⟨_,_,_,rfl,.inl ⟨rfl,rfl⟩,λ_=>rfl⟩
  |true=>
   simp only[Ah,Ac]
   cases k1:(q.Kind==1)with
   |true=>
    simp only[Ae];obtain⟨live,l1,l2,l3,l4⟩:=H3 h.st;obtain⟨c,f1,f2⟩:=Rj h l4 q.Text;rw[l1,Aa,f1];simp only[Aa]
    rcases f2 with⟨rfl,f2⟩|⟨f2,f3⟩
    ·obtain⟨z,z1,z2,z3⟩:=oU q.Text hq.text;rw[show((0:Int)==0)=true from rfl,z1];refine⟨_,_,_,rfl,.inr ⟨rfl,_,rfl,zB hq.vol (by have:=hq.sec;omega) ⟨b.1,b.2⟩,by simp,rfl,.inr ⟨rfl,rfl,?_,?_,λc hc=>f2 c<|(l3 c).2 hc⟩⟩,λhh=>absurd rfl hh⟩
     ·intro e;have e':L z=[]:=e;rw[e']at z3;simp at z3
     show T1 z=some q.Text;unfold T1;rw[z2]
    have f:=(l3 c).1 f2;have l:=Y0 h.st f;rw[show(c==0)=false by rw[Df];omega];refine⟨_,_,_,rfl,.inr ⟨rfl,_,rfl,zB hq.vol (by have:=hq.sec;omega) (by omega),by simp,rfl,.inl ⟨EY _,λ_=>⟨f,f3⟩⟩⟩,λhh=>absurd rfl hh⟩
   |false=>
    simp only[Ac]
    cases k2:(q.Kind==2)with
    |true=>
     refine⟨_,_,_,rfl,.inr ⟨rfl,_,rfl,?_,by simp,rfl,.inl ⟨EY _,λhh=>by simp at hh⟩⟩,λhh=>absurd rfl hh⟩;have:=hq.vol;have:=hq.sec;unfold GL;simp;omega
    |false=>
     simp only[Ac]
     cases k5:(q.Kind==5)with
     |true=>
      refine⟨_,_,_,rfl,.inr ⟨rfl,_,rfl,?_,by simp,rfl,.inl ⟨EY _,λhh=>by simp at hh⟩⟩,λhh=>absurd rfl hh⟩;have:=hq.vol;unfold GL;simp;omega
     |false=>exact⟨_,_,_,rfl,.inl ⟨rfl,rfl⟩,λ_=>rfl⟩
theorem n9 (h:DA l nx x=some (l',nx')) (hk:x.Kind≠1):(∀c,E6 l' c->E6 l c\/c=x.Chunk)/\nx<=nx'/\nx'<=max nx (x.Chunk+1):=by
 unfold DA at h;split at h
 ·cases h
 first
  |rw[Av hk]at h
  |skip
 split at h
 ·split at h
  ·cases h
  injection h with h
  injection h with h1 h2
  subst h1 h2;refine⟨λc hc=>?_,by omega,by omega⟩;obtain⟨h0,p,hp,hx⟩:=hc;unfold qU at hp;simp only[Al,Bf,AE]at hp
  rcases hp with(hp|rfl)|hp
  ·exact .inl ⟨h0,p,hp.1,hx⟩
  ·simp only at hx
   have zz:c∉TB:=λhz=>by have:=D5 hz;omega
   split at hx
   ·cases hg:KY l x.Arg with
    |none=>rw[hg]at hx;exact absurd hx zz
    |some row=>
     rw[hg]at hx;unfold KY at hg;obtain⟨w,a,b⟩:=AM.1 hg;have d:=List.mem_of_find?_eq_some a;exact .inl ⟨h0,w,d,by rw[b];exact hx⟩
   exact absurd hx zz
  exact .inl ⟨h0,p,hp.1,hx⟩
 split at h
 ·cases h
 split at h
 ·injection h with h
  injection h with h1 h2
  subst h1 h2;refine⟨λc hc=>?_,by omega,by omega⟩;obtain⟨h0,p,hp,hx⟩:=hc;exact .inl ⟨h0,p,(Bf.1 hp).1,hx⟩
 injection h with h
 injection h with h1 h2
 subst h1 h2;refine⟨λc hc=>?_,by omega,by omega⟩;obtain⟨h0,p,hp,hx⟩:=hc;unfold pV at hp;obtain⟨w,hw,rfl⟩:=AG.1 hp;split at hx
 ·rcases Cf hx with hx|hx
  ·exact .inl ⟨h0,w,hw,hx⟩
  exact .inr hx
 exact .inl ⟨h0,w,hw,hx⟩
theorem rJ (h:DA l nx x=some (l',nx')) (hk:x.Kind≠1):∀p∈l',(∃p'∈l,p'.1=p.1)\/p.1=x.Vol:=by
 unfold DA at h;split at h
 ·cases h
 first
  |rw[Av hk]at h
  |skip
 split at h
 ·split at h
  ·cases h
  injection h with h
  injection h with h1 h2
  subst h1 h2;intro p hp;unfold qU at hp;simp only[Al,Bf,AE]at hp
  rcases hp with(hp|rfl)|hp
  ·exact .inl ⟨p,hp.1,rfl⟩
  ·exact .inr rfl
  exact .inl ⟨p,hp.1,rfl⟩
 split at h
 ·cases h
 split at h
 ·injection h with h
  injection h with h1 h2
  subst h1 h2
  exact λp hp=> .inl ⟨p,(Bf.1 hp).1,rfl⟩
 injection h with h
 injection h with h1 h2
 subst h1 h2;intro p hp;unfold pV at hp;obtain⟨w,hw,rfl⟩:=AG.1 hp;refine .inl ⟨w,hw,?_⟩;split<;>rfl
theorem bY (h:HY d r):∃v,Lw d=some v:=by
 have hr:=h.pages;have ht:1<=d.Tx/\d.Tx<=1000000001:=by
  rw[h.tx];have h1:=YR r;refine⟨h1.2.1,h1.2.2 _ (by omega) λy hy _=>?_⟩;have:=(hr.tx y hy).2;omega
 unfold Lw
 cases(d.Base !=sb d.Tx 1)with
 |true=>exact⟨_,rfl⟩
 |false=>
  simp only[Ac];rw[h.scan.s,Aa,OI r hr];simp only[Aa];obtain⟨g1,_⟩:=QR hr;obtain⟨b,h1,_⟩:=AS (body:=λs:Int=>G8 d (Bs r) s) (λ(_:Unit) i=>i) (Bs r).length (λ_ _=>True) (λ_=>True)
   (λ_ i hi _=>by
    have hx:=Ab hi;simp only[G8,Ez hi,Aw,hx,Aa];rw[ad1]
    cases((Bs r)[i].Num==d.Base)with
    |false=>simp
    |true=>
     simp only[Ae]
     cases a:(Bs r)[i].Recs with
     |nil=>exact .inr ⟨_,rfl,trivial⟩
     |cons q m=>
      have hg:gi (q::m) 0=some q:=Aw (i:=0)
      grind)
   (λ_ _=>⟨.inl (),by simp only[G8,Ec],trivial⟩) (s:=()) trivial
  rw[h1]
  cases b with
  |inl u=>exact⟨_,rfl⟩
  |inr v=>exact⟨v,rfl⟩
theorem cB (h:HY d r):∃v,L4 d=some v:=by
 have hn:=h.fl.n;obtain⟨live,l1,_,_,l4⟩:=H3 h.st;unfold L4;rw[h.scan.s,l1];simp only[Aa];rw[Nw r live d.Base h.scan.len l4,Nw r live 1000000000 h.scan.len l4];simp only[Aa]
 have a:∀b,live.foldl (cU r) (r.map<|D3 b)=C9 r live b:=λ_=>rfl
 rw[a,a];obtain⟨b,h1,_⟩:=AS (body:=λs:Int×Int×Int=>Dy d r (C9 r live d.Base) (C9 r live 1000000000) s.1 s.2.1 s.2.2) (λ(o:Int×Int) i=>(o.1,o.2,i)) d.Flash.Blocks.length (λ_ _=>True) (λ_=>True)
  (λo i hi _=>by
   have hx:=Ab hi;have hP:=h.fl.blk _<|A3 hi;simp only[Dy,Ez hi,Aw,hx,Aa];rw[Z7 r _ (i:Int) h.scan.len<|Kl _ _ _,Z7 r _ (i:Int) h.scan.len<|Kl _ _ _,Ix _ hP.four,ad1];simp only[Aa,IJ]
   cases(bif !d.Flash.Blocks[i].Bad then _ else false)with
   |true=>simp
   |false=>grind)
  (λo _=>⟨o.1,by simp only[Dy,Ec],trivial⟩) (s:=(-1,4)) trivial
 grind
theorem HY.seqs (h:HY d r):0<=d.Seq/\d.Seq<=1000000001:=by
 rw[h.seq];have h1:=NT r;refine⟨by omega,h1.2.2 _ (by omega) λy hy=>?_⟩;have:=(h.pages.seq y hy).2;omega
theorem gQ (h:∀y∈r',y.Page.Kind=2->y.Page.Tx<DC r+n):DC r'<=DC r+n:=(YR r').2.2 _ (by have:=(YR r).2.1;omega) h
theorem Yp (n:Nat) (hy:y∈r) (hk:y.Page.Kind=2):y.Page.Tx<DC r+n:=by have:=(YR r).1 y hy hk;omega
theorem fD {seq tx:Int} (h:p∈Ct seq tx T):p.Tx=tx:=by
 unfold Ct at h
 grind
theorem g6 (h:∀y∈r',y.Page.Seq<Db r+n):Db r'<=Db r+n:=(NT r').2.2 _ (by have:=(NT r).2.1;omega) h
theorem Yr (n:Nat) (hy:y∈r):y.Page.Seq<Db r+n:=by have:=(NT r).1 y hy;omega
theorem qK {seq tx:Int} (h:p∈Ct seq tx T):p.Seq<seq+T.length:=by
 unfold Ct at h
 grind
theorem dX {c:Int} {a:ByteArray} (h:p∈Dm d c a++Ct (Jn d a) d.Tx T):p.Seq<d.Seq+1+T.length:=by
 rcases Al.1 h with h|h
 ·unfold Dm at h
  grind
 have h1:=qK h;have h2:Jn d a<=d.Seq+1:=by unfold Jn;split<;>omega
 omega
theorem OO {seq tx:Int} (h:p∈Ct seq tx T):p.Kind=2:=by
 unfold Ct at h
 grind
def ACV (m:Flash) (s:Bh) (g:Flash):Prop:=BE g/\YL m g/\((s.Kind=1/\Jq 0 g.Blocks=Jq 0 m.Blocks)\/(s.Kind=2/\Jq 0 g.Blocks=(Jq 0 m.Blocks).filter λy=>y.Block !=s.Block))
def f0 (f:Flash) (ss:List Bh) (k:Nat) (g:Flash):Prop:=∃m,Steps f (ss.take k) m/\(g=m\/∃s,ss[k]?=some s/\Ud m s/\ACV m s g)
theorem Tv:∀{f:Flash} {a:List Bh} {g m:Flash},Steps f a g->Steps f a m->g=m
 |f,[],g,m,h,k=>by rw[show g=f from h,show m=f from k]
 |f,s::a,g,m,h,k=>Tv h.2 k.2
theorem wL {m:Flash} {a b:List Bh} (h:f0 f (a++b) k g) (hs:Steps f a m):(k<a.length/\f0 f a k g)\/(a.length<=k/\f0 m b (k-a.length) g):=by
 obtain⟨x,h1,h2⟩:=h;by_cases e:k<a.length
 ·left;rw[FO<|by omega]at h1;rw[Bm e]at h2;exact⟨e,x,h1,h2⟩
 right;rw[Xg,AN<|by omega]at h1;rw[Bq<|by omega]at h2;obtain⟨y,y1,y2⟩:=(NJ _ _ _ _).1 h1;rw[Tv y1 hs]at y2;exact⟨by omega,x,y2,h2⟩
structure Jr (n:Nat) (d:A9) (r:List Ar) (d':A9) (r':List Ar):Prop where
 good:JI d' r'
 ab:By d'.Store=By d.Store
 nx:d'.Store.Next=d.Store.Next
 pg:∀y∈r',y.Page.Kind=1->∃z∈r,z.Page.Kind=1/\z.Page.Tx=y.Page.Tx/\z.Page.Text=y.Page.Text
 tx:DC r'<=DC r+n
 wear:∀w:Int,GR d.Flash w->GR d'.Flash (w+n)
 text:∀c,E6 (By d.Store) c->C5 r' c=C5 r c
 sq:Db r'<=Db r+200*n
structure As (d:A9) (r:List Ar) (d':A9) (r':List Ar):Prop where
 good:JI d' r'
 ab:By d'.Store=By d.Store
 nx:d'.Store.Next=d.Store.Next
 tx:DC r'<=DC r+1
 wear:∀w:Int,GR d.Flash w->GR d'.Flash (w+1)
 text:∀c,E6 (By d.Store) c->C5 r' c=C5 r c
theorem As.torn {b:List Ar} (h:As d a e b) (hg:BE g) (hp:Jq 0 g.Blocks=Jq 0 e.Flash.Blocks) (hw:YL e.Flash g):∃x,CK g=some (x,true)/\x.Flash=g/\As d a x b:=by
 obtain⟨x,u1,u2,u3⟩:=JE hg (r:=b) (by rw[hp];exact h.good.dev.sr);obtain⟨e1,e2,_⟩:=G7 h.good.dev u2 rfl;exact⟨x,u1,u3,⟨⟨u2,h.good.core,by rw[e1];exact h.good.data⟩,by rw[e1,h.ab],by rw[e2,h.nx],h.tx,λw hh=>by rw[u3];exact hw _<|h.wear w hh,h.text⟩⟩
theorem Ym (h:YL f g) (w:Int) (hw:GR f w):GR g (w+n):=λb hb=>by have:=h w hw b hb;omega
theorem Jr.refl (h:JI d r):Jr n d r d r:=⟨h,rfl,rfl,λy hy hk=>⟨y,hy,hk,rfl,rfl⟩,by omega,Ym λ_ h=>h,λ_ _=>rfl,by omega⟩
theorem Jr.trans {g:A9} {b c:List Ar} (h:Jr n d a e b) (k:Jr m e b g c):Jr (n+m) d a g c:=⟨k.good,by rw[k.ab,h.ab],by rw[k.nx,h.nx],λy hy hk=>by
 obtain⟨z,z1,z2,z3,z4⟩:=k.pg y hy hk;obtain⟨w,w1,w2,w3,w4⟩:=h.pg z z1 z2
 grind,by have:=h.tx;have:=k.tx;omega,λw hw=>by
 have:=k.wear _<|h.wear w hw
 grind,λc hc=>by rw[k.text c (by rw[h.ab];exact hc),h.text c hc],by have:=h.sq;have:=k.sq;omega⟩
theorem Jr.mono {b:List Ar} (h:Jr n d a e b) (hm:n<=m):Jr m d a e b:={h with
 tx:=by have:=h.tx;omega
 wear:=λw hw x hx=>by have:=h.wear w hw x hx;omega
 sq:=by have:=h.sq;omega}
theorem Jr.torn {b:List Ar} (h:Jr n d a e b) (hg:BE g) (hp:Jq 0 g.Blocks=Jq 0 e.Flash.Blocks) (hw:YL e.Flash g):∃x,CK g=some (x,true)/\x.Flash=g/\Jr n d a x b:=by
 obtain⟨x,u1,u2,u3⟩:=JE hg (r:=b) (by rw[hp];exact h.good.dev.sr);obtain⟨e1,e2,_⟩:=G7 h.good.dev u2 rfl;exact⟨x,u1,u3,⟨⟨u2,h.good.core,by rw[e1];exact h.good.data⟩,by rw[e1,h.ab],by rw[e2,h.nx],h.pg,h.tx,λw hh=>by rw[u3];exact hw _<|h.wear w hh,h.text,h.sq⟩⟩
def Pi (n:Nat) (d:A9) (r:List Ar) (steps:List Bh):Prop:=(∃m,Steps d.Flash steps m)/\∀k g,k<=steps.length->f0 d.Flash steps k g->∃x rx,CK g=some (x,true)/\x.Flash=g/\Jr n d r x rx
theorem e9 {steps:List Bh} (h1:∀s∈steps,s.Kind=1) (hc:∀k,k<=steps.length->∃x rx,Steps d.Flash (steps.take k) x.Flash/\CK x.Flash=some (x,true)/\Jr n d r x rx):Pi n d r steps:=by
 refine⟨?_,λk g hk hg=>?_⟩
 ·obtain⟨x,rx,c1,_⟩:=hc steps.length (Au _)
  grind
 obtain⟨x,rx,c1,c2,c3⟩:=hc k hk;obtain⟨m,m1,m2⟩:=hg;have:=Tv m1 c1;subst this
 rcases m2 with rfl|⟨s,s1,_,s2,s3,⟨_,s4⟩|⟨s4,_⟩⟩
 ·grind
 ·obtain⟨y,y1,y2,y3⟩:=c3.torn s2 s4 s3
  grind
 grind
theorem Pi.full {steps:List Bh} (h:JI d r) (hc:Pi n d r steps) (hl:steps.length<=1000000):∃x rx,H1 d steps=some x/\Steps d.Flash steps x.Flash/\Jr n d r x rx:=by
 obtain⟨⟨m,hm⟩,hk⟩:=hc;obtain⟨x,rx,x1,x2,x3⟩:=hk steps.length m (Au _) ⟨m,by grind,.inl rfl⟩;exact⟨x,rx,Np h.dev hm (by omega) x1,by rw[x2];exact hm,x3⟩
theorem wX {re:List Ar} {a b:List Bh} (hk:Jr n d r e re) (hs:Steps d.Flash a e.Flash) (ha:Pi n d r a) (hb:Pi m e re b):Pi (n+m) d r (a++b):=by
 refine⟨?_,λk g c hg=>?_⟩
 ·obtain⟨x,hx⟩:=hb.1;exact⟨x,(NJ _ _ _ _).2 ⟨_,hs,hx⟩⟩
 rw[Ai]at c
 rcases wL hg hs with⟨e1,e2⟩|⟨e1,e2⟩
 ·obtain⟨x,rx,x1,x2,x3⟩:=ha.2 k g (by omega) e2;exact⟨x,rx,x1,x2,x3.mono<|by omega⟩
 obtain⟨x,rx,x1,x2,x3⟩:=hb.2 _ g (by omega) e2;exact⟨x,rx,x1,x2,hk.trans x3⟩
theorem ZB (r m:List Ar) (c:Int) (h:∀y∈m,¬(y.Page.Kind=1/\y.Page.Tx=c)):KF (r++m) c=KF r c:=by
 unfold KF;rw[AO,Br.2 λy hy hh=>h y hy<|Sk.1 hh,A4]
theorem bR (h:JI d r) (hw:GR d.Flash 999999999):∃steps ok,L9 d=some (steps,ok)/\steps.length<=200/\(ok=false->steps=[])/\(ok=true->Pi 1 d r steps):=by
 have hv:=h.dev.st.vs;obtain⟨dead,d1,d2,d3⟩:=Zv h.dev;unfold L9;rw[d1];simp only[Aa]
 cases hd:dead with
 |cons b m=>
  rw[Ad (by rw[B4,A7];omega:ln (b::m)>0),show gi (b::m) 0=some b from Aw (i:=0)];simp only[Ae,Aa];refine⟨_,_,rfl,by simp,(λhh=>by cases hh),λ_=>?_⟩;obtain⟨x,x1,x2,x3⟩:=d3 b (by rw[hd];simp);have hc:AAG d.Flash b:=⟨x,x1,x2,λe=>by have:=hw x<|Aq (CQ x1).2;omega⟩;have hs:Ud d.Flash (Bh.mk 2 b 0<|bs []):= .inr ⟨rfl,hc⟩;obtain⟨w1,w2⟩:=Xk h.dev.fl hc;have he:Ka d.Flash (Bh.mk 2 b 0<|bs [])=TC d.Flash b:=by rfl
  have wp:∀g,BE g->Jq 0 g.Blocks=((Jq 0 d.Flash.Blocks).filter λy=>y.Block !=b)->(∀w:Int,GR d.Flash w->GR g (w+1))->∃x rx,CK g=some (x,true)/\x.Flash=g/\Jr 1 d r x rx:=by
   intro g g1 g2 g3;obtain⟨d',u1,u2,u3,u4,u5,_,u6⟩:=ABf h x3 g1 g2;exact⟨d',_,u1,u2,u3,u4,u5,λy hy hk=>⟨y,(Bf.1 hy).1,hk,rfl,rfl⟩,gQ λy hy hk=>Yp _ (Bf.1 hy).1 hk,by rw[u2];exact g3,u6,g6 (n:=200*1) λy hy=>Yr _ (Bf.1 hy).1⟩
  refine⟨⟨_,hs,rfl⟩,λk g hk hg=>?_⟩;obtain⟨q,q1,q2⟩:=hg
  cases k with
  |zero=>
   rw[show q=d.Flash from q1]at q2
   rcases q2 with rfl|⟨s,s1,_,s2,s3,⟨s4,_⟩|⟨_,s4⟩⟩
   ·obtain⟨x,u1,u2,u3⟩:=(Jr.refl (n:=1) h).torn h.dev.fl rfl λ_ hh=>hh
    grind
   ·grind
   simp only[DJ,An]at s1;rw[<-s1]at s4
   exact wp g s2 s4 λw hh y hy=>by have:=s3 w hh y hy;omega
  |succ k=>
   have q1':Steps d.Flash [Bh.mk 2 b 0<|bs []] q:=by simpa using q1
   have e:q=TC d.Flash b:=by rw[show q=Ka d.Flash (Bh.mk 2 b 0<|bs [])from q1'.2,he]
   rcases q2 with rfl|⟨s,s1,_⟩
   ·rw[e]
    exact wp _ w1 w2 λw hh=>by rw[<-he];exact eE hh (by omega)<|.inr<|GQ _
   simp at s1
 |nil=>
  rw[show decide (ln ([]:List Int)>0)=false from rfl];simp only[Ac];obtain⟨v,v1⟩:=bY h.dev;rw[v1];simp only[Aa]
  cases v with
  |false=>
   simp only[AD,Ae];unfold M9;rw[Vz h.dev.st];simp only[Aa];obtain⟨b1,b2⟩:=gC hv
   rcases Rf h.dev.fl h.dev.seqs (Lc (By d.Store) d.Store.Next) (by unfold Lc;simp) b2 b1 (bs [])with w|⟨steps,T,g,f,w1,w2,w3,w4,w5,w6,w7,w8,w9⟩
   ·grind
   rw[w2];simp only[Aa];have j:=(Fw w7).2;have o:(Ct (Jn d<|bs []) d.Tx T).length=T.length:=by unfold Ct;grind
   have l:Dm d f.Chunk (bs [])=[]:=by rfl
   rw[l,A6,o]at j;refine⟨_,_,rfl,by omega,(λhh=>by cases hh),λ_=>e9 (Rh w7) λk hk=>?_⟩;obtain⟨m,d',r',c1,c2,c3,c4,c5,rfl,cw,c6,c7,c8,c9⟩:=Wn h b1 w3 w4 w5 w6 w7 w9 (λhh=>absurd (EY _) hh) k hk;have a:By d'.Store=By d.Store/\d'.Store.Next=d.Store.Next:=by
    by_cases e:k<steps.length
    ·obtain⟨e1,e2,_⟩:=G7 h.dev c4 (by rw[c8 e]);exact⟨e1,e2⟩
    obtain⟨q,hq⟩:=(c9<|by omega).1;have hB:cW (Tx.mk d.Tx q<|Lc (By d.Store) d.Store.Next)=true:=rfl;have a:=c4.ab;rw[hq,SI,Ay hB]at a;have:LE [Tx.mk d.Tx q<|Lc (By d.Store) d.Store.Next]=(By d.Store,d.Store.Next):=by
     show(CM [] 1<|Lc (By d.Store) d.Store.Next).getD ([],1)=_;rw[gD hv];rfl
    grind
   have hX:∀y∈(Cn steps<|Dm d f.Chunk (bs [])++Ct (Jn d<|bs []) d.Tx T).take k,y.Page.Kind=2/\y.Page.Tx=d.Tx:=λy hy=>by
    have cP:=MC _ _ _ y hy;rw[l,A6]at cP;exact⟨OO cP,fD cP⟩
   refine⟨d',_,by rw[c5];exact c1,by rw[c5];exact c3,⟨c4,c6,by rw[a.1];exact c7⟩,a.1,a.2,λy hy hk=>?_,gQ λy hy hk=>?_,by rw[c5];exact Ym (n:=1) cw,λc hc=>?_,g6 (n:=200*1) λy hy=>?_⟩
   ·grind
   ·rcases Al.1 hy with hh|hh
    ·exact Yp _ hh hk
    rw[(hX y hh).2,h.dev.tx];omega
   ·unfold C5;rw[ZB _ _ _ λy hy hh=>by grind]
   rcases Al.1 hy with hh|hh
   ·exact Yr _ hh
   have:=dX<|MC _ _ _ y hh;rw[h.dev.seq]at this;omega
  |true=>
   simp only[Ah,Ac];obtain⟨vi,vi1⟩:=cB h.dev;rw[vi1];simp only[Aa]
   cases decide (vi<0)with
   |true=>grind
   |false=>
    simp only[Ac]
    rcases cJ h.dev h.few vi with w|⟨steps,ps,g,w1,w2,w3,w4,w5,w6,w7⟩
    ·grind
    rw[w1];refine⟨steps,true,rfl,by omega,(λhh=>by cases hh),λ_=>e9 (Rh w2) λk hk=>?_⟩;obtain⟨m,d',c1,c2,c3,c4,c5,c6,_,cw,c7⟩:=z8 h w2 w4 w5 w6 k;refine⟨d',_,by rw[c4];exact c1,by rw[c4];exact c3,c5,c6.ab,c6.nx,λy hy hk=>?_,gQ λy hy hk=>?_,by rw[c4];exact Ym (n:=1) cw,c7,g6 (n:=200*1) λy hy=>?_⟩
    ·rcases Al.1 hy with hh|hh
     ·grind
     obtain⟨⟨_,_,z,z1,z2⟩,_⟩:=w6 _<|MC _ _ _ _ hh;obtain⟨a1,a2,a3⟩:=VD z1
     grind
    ·rcases Al.1 hy with hh|hh
     ·exact Yp _ hh hk
     have:=(w6 _<|MC _ _ _ _ hh).1.1;omega
    rcases Al.1 hy with hh|hh
    ·exact Yr _ hh
    have:=w7 _<|MC _ _ _ _ hh;rw[h.dev.seq]at this;omega
theorem LW (h:BE f):∃v:Int,M2 f=some v:=by
 obtain⟨v,v1,_⟩:=Xe f h.cap (by have:=h.few;omega);exact⟨v,v1⟩
theorem UM (h:JI d r) (hw:GR d.Flash 999999000) (most:Int):∃d' all r',H4 d most=some (d',all)/\Jr 20 d r d' r'/\all.length<=4000/\Steps d.Flash all d'.Flash/\Pi 20 d r all:=by
 unfold H4;rw[Mt h.dev];simp only[Aa]
 have l:∀{n:Nat} {a:List Bh},n<=20->Pi n d r a->Pi 20 d r a:=λhn hc=>⟨hc.1,λk g hk hg=>by
  obtain⟨x,rx,x1,x2,x3⟩:=hc.2 k g hk hg
  exact⟨x,rx,x1,x2,x3.mono hn⟩⟩
 obtain⟨b,h1,d',all,r',h2,h3,h4,h5,h6⟩:=AS (body:=λs:List Bh×Int×List Block×List Vol×List B6×Int×Int×Int×Int=>EJ most s.1 s.2.1 s.2.2.1 s.2.2.2.1 s.2.2.2.2.1 s.2.2.2.2.2.1 s.2.2.2.2.2.2.1 s.2.2.2.2.2.2.2.1 s.2.2.2.2.2.2.2.2)
  (λ(o:List Bh×A9) i=>(o.1,i,o.2.Flash.Blocks,o.2.Store.Vols,o.2.Store.Arena.Knots,o.2.Store.Next,o.2.Seq,o.2.Tx,o.2.Base)) 20
  (λi o=>o.1.length<=200*i/\∃r',Jr i d r o.2 r'/\Steps d.Flash o.1 o.2.Flash/\Pi i d r o.1)
  (λb=>∃d' all r',(b= .inr (d',all)\/b= .inl (all,d'.Flash.Blocks,d'.Store.Vols,d'.Store.Arena.Knots,d'.Store.Next,d'.Seq,d'.Tx,d'.Base))/\Jr 20 d r d' r'/\all.length<=4000/\Steps d.Flash all d'.Flash/\Pi 20 d r all)
  (λo i hi hs=>by
   obtain⟨all,e⟩:=o;obtain⟨j,r',hg,c,f⟩:=hs;simp only at j hg c f;have m:A9.mk (Flash.mk e.Flash.Blocks) (Store.mk e.Store.Vols (Arena.mk e.Store.Arena.Knots) e.Store.Next) e.Seq e.Tx e.Base=e:=rfl;have p:Flash.mk e.Flash.Blocks=e.Flash:=rfl;simp only[EJ];rw[m,p];obtain⟨v,v1⟩:=LW hg.good.dev.fl;rw[v1,Ad (by omega:(i:Int)<20)];simp only[Ae,Aa,IJ]
   cases(bif decide ((i:Int)<most)then decide (v<12)else false)with
   |false=>
    simp only[Ac];exact .inr ⟨_,rfl,e,all,r',.inr rfl,hg.mono (by omega),by omega,c,l (by omega) f⟩
   |true=>
    simp only[Ae];obtain⟨steps,ok,c1,c2,_,c3⟩:=bR hg.good (λx hx=>by have:=hg.wear _ hw x hx;omega);rw[c1];simp only[Aa]
    cases ok with
    |false=>
     simp only[AD,Ae];exact .inr ⟨_,rfl,e,all,r',.inl rfl,hg.mono (by omega),by omega,c,l (by omega) f⟩
    |true=>
     obtain⟨d',r2,k1,k2,k3⟩:=(c3 rfl).full hg.good (by omega);simp only[Ah,Ac];rw[k1,Aa,BP (by omega),ad1]
     exact .inl ⟨(all++steps,d'),rfl,by simp;omega,r2,hg.trans k3,(NJ _ _ _ _).2 ⟨_,c,k2⟩,wX hg c f<|c3 rfl⟩)
  (λo hs=>by
   obtain⟨all,e⟩:=o;obtain⟨j,r',hg,c,f⟩:=hs;refine⟨.inl (all,e.Flash.Blocks,e.Store.Vols,e.Store.Arena.Knots,e.Store.Next,e.Seq,e.Tx,e.Base),?_,e,all,r',.inr rfl,hg,by simpa using j,c,f⟩;simp only[EJ]
   grind) (s:=([],d)) ⟨by simp,r,Jr.refl h,rfl,⟨⟨_,rfl⟩,λk g hk hg=>by
   obtain⟨q,q1,q2⟩:=hg;rw[List.take_nil]at q1;rw[show q=d.Flash from q1]at q2
   rcases q2 with rfl|⟨s,s1,_⟩
   ·obtain⟨x,u1,u2,u3⟩:=(Jr.refl (n:=0) h).torn h.dev.fl rfl λ_ hh=>hh
    grind
   simp at s1⟩⟩
 rw[h1]
 rcases h2 with rfl|rfl
 ·grind
 exact⟨d',all,r',rfl,h3,h4,h5,h6⟩
theorem yW {r:Int} (h:k<16):(Fe K r)[k]?=some (Ru K r k):=by unfold Fe;exact HL h
theorem mR (h:CB s) (vol:Int) (hk:k<16):∃c,LA s vol (k:Int)=some c/\((KY (By s) vol=none/\c=0)\/∃a,KY (By s) vol=some a/\a[k]?=some c/\0<=c/\(c≠0->E6 (By s) c)):=by
 have hl:=h.len;unfold LA
 rcases El s (by omega) vol with⟨e,e2⟩|⟨i,v,e,e2,e3,_⟩
 ·rw[e];exact⟨0,rfl,.inl ⟨LN.1 e2,rfl⟩⟩
 rw[e];simp only[Aa];have hm:=Aq e2;have hr:=h.root _<|AG.2 ⟨v,hm,rfl⟩;rw[cF,Aw,e2,Aa,Zq _ (by have:=h.few;omega) h.ar hr hk];have hg:=PM h.asc hm;rw[e3]at hg;have h0:=oH h.ar hr _<|aW hk;exact⟨_,rfl,.inr ⟨_,hg,yW hk,h0,λb=>⟨by omega,_,AG.2 ⟨v,hm,rfl⟩,aW hk⟩⟩⟩
theorem Xp (h:JI d r) (vol:Int) (hk:k<16):(KY (By d.Store) vol=none/\GU r d.Store vol (k:Int)=some (bs [],false))\/
  ∃a c,KY (By d.Store) vol=some a/\a[k]?=some c/\LA d.Store vol (k:Int)=some c/\((c=0/\GU r d.Store vol (k:Int)=some (bs [],true))\/(0<c/\E6 (By d.Store) c/\∃u,C5 r c=some u/\GU r d.Store vol (k:Int)=some (u,true))):=by
 have hl:=h.dev.st.len;obtain⟨c,c1,c2⟩:=mR h.dev.st vol hk;unfold GU;rw[c1]
 rcases El d.Store (by omega) vol with⟨e,e2⟩|⟨i,v,e,e2,e3,_⟩
 ·rw[e];exact .inl ⟨LN.1 e2,rfl⟩
 have hg:=PM h.dev.st.asc<|Aq e2;rw[e3]at hg
 rcases c2 with⟨c2,_⟩|⟨a,c2,c3,c4,c5⟩
 ·grind
 rw[e];simp only[Aa];rw[cF];right;refine⟨a,c,c2,c3,rfl,?_⟩;by_cases e0:c=0
 ·grind
 rw[show(c==0)=false by simpa using e0];simp only[Ac];have b:=c5 e0;obtain⟨u,hu⟩:=h.data.data c b;obtain⟨w,ok,t1,t2⟩:=mE h.dev.pages c
 grind
theorem UK (h:HY d r) {q:Rv} {a:List Cy} {b:ByteArray} (hp:EP d q=some (a,b,0)):ADH q:=by
 obtain⟨v,a1,a2⟩:=W0 q
 cases v with
 |true=>exact a2 rfl
 |false=>
  unfold EP at hp
  grind
def o9 (r r':List Ar) (c:Int) (a:ByteArray):Prop:=(∀y∈r',y.Page.Kind=1->(∃z∈r,z.Page.Kind=1/\z.Page.Tx=y.Page.Tx/\z.Page.Text=y.Page.Text)\/(L a≠ []/\y.Page.Tx=c/\y.Page.Text=a))/\DC r'<=DC r+1/\Db r'<=Db r+10
theorem sU (h:JI d r) {q:Rv} {a:ByteArray} (hx:zH d r q x a):DS d [x] a=some ([],false)\/∃steps d' r',DS d [x] a=some (steps,true)/\steps.length<=10/\H1 d steps=some d'/\JI d' r'/\
  (By d'.Store,d'.Store.Next)=(DA (By d.Store) d.Store.Next x).getD (By d.Store,d.Store.Next)/\d.Store.Next<=d'.Store.Next/\d'.Store.Next<=d.Store.Next+1/\o9 r r' x.Chunk a/\YL d.Flash d'.Flash/\Steps d.Flash steps d'.Flash/\((∀c,E6 (By d.Store) c->C5 r' c=C5 r c)/\(L a≠ []->C5 r' x.Chunk=T1 a))/\1<=steps.length/\∀k g,k<steps.length->f0 d.Flash steps k g->∃y ry,CK g=some (y,true)/\y.Flash=g/\As d r y ry/\o9 r ry x.Chunk a:=by
 obtain⟨x1,x2,xv,x3⟩:=hx;have h7:=h.dev.st.nx
 have i:∀z∈ [x],GL z=true:=λz hz=>by grind
 rcases Rf h.dev.fl h.dev.seqs [x] (by simp) (by simp) i a with w|⟨steps,T,g,b,w1,w2,w3,w4,w5,w6,w7,w8,w9⟩
 ·exact .inl w
 right;have j:b=x:=by simpa using w1.symm
 subst j;have o:=(Fw w7).2;have h2:(Ct (Jn d a) d.Tx T).length=T.length:=by unfold Ct;grind
 have h8:(Dm d b.Chunk a).length<=1:=by unfold Dm;split<;>simp
 rw[Ai,h2]at o
 have t:L a≠ []->¬E6 (By d.Store) b.Chunk:=λht h3=>by
  rcases x3 with⟨x3,_⟩|⟨_,x4,_⟩
  ·exact ht x3
  have:=Y0 h.dev.st h3;omega
 have tk:∀k c,E6 (By d.Store) c->C5 (r++(Cn steps<|Dm d b.Chunk a++Ct (Jn d a) d.Tx T).take k) c=C5 r c:=λk c hc=>by
  unfold C5;rw[ZB _ _ _ λz hz hh=>?_];have h4:=MC _ _ _ z hz
  rcases Al.1 h4 with hh2|hh2
  ·unfold Dm at hh2
   grind
  have:=OO hh2;omega
 have tn:L a≠ []->C5 (r++(Cn steps<|Dm d b.Chunk a++Ct (Jn d a) d.Tx T).take steps.length) b.Chunk=T1 a:=λe=>by
  rw[AN (by unfold Cn;grind),show Dm d b.Chunk a=[Page.mk 1 d.Seq b.Chunk 0 1 a] by unfold Dm;rw[Av e]]
  cases steps with
  |nil=>grind
  |cons s ss=>
   show C5 (r++Ar.mk s.Block s.Leaf (Page.mk 1 d.Seq b.Chunk 0 1 a)::Cn ss (Ct (Jn d a) d.Tx T)) b.Chunk=_;unfold C5;rw[List.append_cons,fH _ _ (λy hy=>by have:=OO (MC ss _ _ y (by rw[Bc];exact hy));omega),ME,Ay ⟨rfl,rfl⟩];rfl
 have fw:∀k,o9 r (r++(Cn steps<|Dm d b.Chunk a++Ct (Jn d a) d.Tx T).take k) b.Chunk a:=λk=>by
  have cP:∀y∈r++(Cn steps<|Dm d b.Chunk a++Ct (Jn d a) d.Tx T).take k,y∈r\/y.Page∈Dm d b.Chunk a++Ct (Jn d a) d.Tx T:=λy hy=>(Al.1 hy).imp id<|MC _ _ _ y
  refine⟨λy hy hk=>?_,gQ (n:=1) λy hy hk=>?_,g6 (n:=10) λy hy=>?_⟩
  ·rcases cP y hy with hh|hh
   ·grind
   rcases Al.1 hh with hh|hh
   ·unfold Dm at hh;by_cases e:L a=[]
    ·grind
    grind
   have:=OO hh;omega
  ·rcases cP y hy with hh|hh
   ·exact Yp _ hh hk
   rcases Al.1 hh with hh|hh
   ·unfold Dm at hh
    grind
   rw[fD hh,h.dev.tx];omega
  rcases cP y hy with hh|hh
  ·exact Yr _ hh
  have:=dX hh;rw[h.dev.seq]at this;omega
 have cut:∀k g,k<steps.length->f0 d.Flash steps k g->∃y ry,CK g=some (y,true)/\y.Flash=g/\As d r y ry/\o9 r ry b.Chunk a:=λk g hk hg=>by
  obtain⟨m,y,ry,c1,c2,c3,c4,c5,hr',cw,c6,c7,c8,_⟩:=Wn h i w3 w4 w5 w6 w7 w9 t k (by omega);obtain⟨e1,e2,_⟩:=G7 h.dev c4 (by rw[c8 hk]);subst hr';have h5:As d r y (r++(Cn steps<|Dm d b.Chunk a++Ct (Jn d a) d.Tx T).take k):=⟨⟨c4,c6,by rw[e1];exact c7⟩,e1,e2,(fw k).2.1,by rw[c5];exact Ym (n:=1) cw,tk k⟩;obtain⟨q,q1,q2⟩:=hg;have:=Tv q1 c1;subst this
  rcases q2 with rfl|⟨s,s1,_,s2,s3,⟨_,s4⟩|⟨s4,_⟩⟩
  ·grind
  ·obtain⟨z,z1,z2,z3⟩:=h5.torn s2 (by rw[c5];exact s4) (by rw[c5];exact s3)
   grind
  have:=Rh w7 s<|Aq s1;omega
 obtain⟨m,d',r',c1,c2,c3,c4,c5,hr',cw,c6,c7,_,c9⟩:=Wn h i w3 w4 w5 w6 w7 w9 t steps.length<|Au _;rw[<-c5]at cw;rw[Bc]at c1;have u:Steps d.Flash steps d'.Flash:=by rw[c5];exact c1
 have v:o9 r r' b.Chunk a:=by rw[hr'];exact fw _
 have tt:(∀c,E6 (By d.Store) c->C5 r' c=C5 r c)/\(L a≠ []->C5 r' b.Chunk=T1 a):=by grind
 obtain⟨⟨qn,hq⟩,c10⟩:=c9 rfl;have hB:¬cW (Tx.mk d.Tx qn [b])=true:=by
  unfold cW;simpa using x2
 have f:=c4.ab;rw[hq,SI,Av hB,ZF,<-h.dev.ab]at f;have h6:CM (By d.Store) d.Store.Next [b]=DA (By d.Store) d.Store.Next b:=by rfl
 simp only[h6]at f;have h0:=Np h.dev c1 (by omega) c3
 cases l:DA (By d.Store) d.Store.Next b with
 |none=>
  rw[l]at f;have e1:By d'.Store=By d.Store:=BG Prod.fst f;have e2:d'.Store.Next=d.Store.Next:=BG Prod.snd f;exact⟨steps,d',r',w2,by omega,h0,⟨c4,c6,by rw[e1];exact c7⟩,by rw[e1,e2];rfl,by omega,by omega,v,cw,u,tt,by omega,cut⟩
 |some p=>
  obtain⟨l',nx'⟩:=p;rw[l]at f;have e1:By d'.Store=l':=BG Prod.fst f;have e2:d'.Store.Next=nx':=BG Prod.snd f;obtain⟨v1,v2,v3⟩:=n9 l x2
  have hz:∀c,E6 l' c->c=b.Chunk->b.Kind≠4->False:=λc hc h9 hk=>by
   have:b.Chunk=0:=by
    have hb:=x1;unfold GL at hb
    grind
   have:=hc.1;omega
  have h1:b.Chunk<=d.Store.Next:=by
   by_cases hk:b.Kind=4
   ·rcases x3 with⟨_,x4⟩|⟨_,x4,_⟩
    ·have:=Y0 h.dev.st (x4 hk).1;omega
    omega
   have hb:=x1;unfold GL at hb
   grind
  refine⟨steps,d',r',w2,by omega,h0,⟨c4,c6,?_⟩,by rw[e1,e2];rfl,by omega,by omega,v,cw,u,tt,by omega,cut⟩;rw[e1]
  rcases x3 with⟨x3,x4⟩|⟨x3,x4,x5,x6,x7⟩
  ·refine c7.mono λc hc=>?_
   grind
  exact(c10 _ x6 x5 x7).mono v1
def AA3 (r r':List Ar) (nx:Int) (a:ByteArray):Prop:=(∀y∈r',y.Page.Kind=1->(∃z∈r,z.Page.Kind=1/\z.Page.Tx=y.Page.Tx/\z.Page.Text=y.Page.Text)\/(y.Page.Tx=nx/\T1 y.Page.Text=some a))/\DC r'<=DC r+21/\Db r'<=Db r+4010
def ADG (d d':A9) (v:Int):Prop:=∀p∈By d'.Store,(∃p'∈By d.Store,p'.1=p.1)\/p.1=v
theorem Jr.q (h:Jr n d r e r') (hn:n<=20) (nx:Int) (t:ByteArray):AA3 r r' nx t:=⟨λy hy hk=> .inl (h.pg y hy hk),by have:=h.tx;omega,by have:=h.sq;omega⟩
theorem MF (h:By d'.Store=By d.Store) (v:Int):ADG d d' v:=λp hp=> .inl ⟨p,by rw[<-h];exact hp,rfl⟩
theorem ACm (h:JI d r) (hw:GR d.Flash 999999000) (q:Rv):∃d' steps t no r',Mf d q=some (d',steps,t,no)/\JI d' r'/\d.Store.Next<=d'.Store.Next/\d'.Store.Next<=d.Store.Next+1/\AA3 r r' d.Store.Next q.Text/\ADG d d' q.Vol/\∀w:Int,GR d.Flash w->GR d'.Flash (w+20):=by
 have a:Jr 20 d r d r:=Jr.refl h;unfold Mf;rw[Mt h.dev,Nt h.dev];simp only[Aa,Ah,Ac];obtain⟨o,v,no,p1,p2,p3⟩:=Wf h.dev q;rw[p1];simp only[Aa]
 cases f:(no !=0)with
 |true=>exact⟨_,_,_,_,r,rfl,h,by omega,by omega,a.q (by omega) _ _,MF rfl _,a.wear⟩
 |false=>
  have g:no=0:=by simpa using f
  subst g;have hq:=UK h.dev p1;simp only[Ac]
  cases h0:(q.Kind==6)with
  |true=>
   simp only[Ae];obtain⟨k,hk⟩:∃k:Nat,q.Sector=(k:Int):=⟨_,(AY hq.sec.1).symm⟩;unfold Oa;rw[h.dev.scan.s,hk];simp only[Aa]
   rcases Xp h q.Vol (k:=k) (by have:=hq.sec;omega)with⟨_,e⟩|⟨h1,c,_,_,_,⟨_,e⟩|⟨_,_,u,_,e⟩⟩
   ·rw[e];exact⟨_,_,_,_,r,rfl,h,by omega,by omega,a.q (by omega) _ _,MF rfl _,a.wear⟩
   ·rw[e];exact⟨_,_,_,_,r,rfl,h,by omega,by omega,a.q (by omega) _ _,MF rfl _,a.wear⟩
   rw[e];exact⟨_,_,_,_,r,rfl,h,by omega,by omega,a.q (by omega) _ _,MF rfl _,a.wear⟩
  |false=>
   simp only[Ac];obtain⟨v5,i⟩:=LW h.dev.fl;rw[i];simp only[Aa];have clean:∃e all re,(cond (decide<|v5<12) ((H4 d 20).bind λv6=>some (v6.2,v6.1.Flash.Blocks,v6.1.Store.Vols,v6.1.Store.Arena.Knots,v6.1.Store.Next,v6.1.Seq,v6.1.Tx,v6.1.Base)) (some ([],d.Flash.Blocks,d.Store.Vols,d.Store.Arena.Knots,d.Store.Next,d.Seq,d.Tx,d.Base)):Option (List Bh×List Block×List Vol×List B6×Int×Int×Int×Int))=some (all,Flash.Blocks<|A9.Flash e,e.Store.Vols,e.Store.Arena.Knots,e.Store.Next,e.Seq,e.Tx,e.Base)/\Jr 20 d r e re/\all.length<=4000:=by
    cases decide (v5<12)with
    |false=>grind
    |true=>
     obtain⟨e,all,re,k1,k2,k3,_⟩:=UM h hw 20
     grind
   obtain⟨e,all,re,k1,k5,k4⟩:=clean;have k2:=k5.good;rw[k1];simp only[Aa];have j:A9.mk (Flash.mk e.Flash.Blocks) (Store.mk e.Store.Vols (Arena.mk e.Store.Arena.Knots) e.Store.Next) e.Seq e.Tx e.Base=e:=rfl;have l:Flash.mk e.Flash.Blocks=e.Flash:=rfl;rw[j,l];obtain⟨recs2,text2,no2,s1,s2,_⟩:=Wf k2.dev q;rw[s1];simp only[Aa];obtain⟨v9,m⟩:=LW k2.dev.fl;rw[m];have h2:=k5.nx
   rcases s2 with⟨rfl,rfl⟩|⟨_,x,rfl,s2⟩
   ·have hw:DS e [] (bs [])=some ([],true):=rfl;rw[hw];simp only[Aa,Ah,Ac]
    cases decide (v9<8)with
    |true=>exact⟨_,_,_,_,re,rfl,k2,by omega,by omega,k5.q (by omega) _ _,MF k5.ab _,k5.wear⟩
    |false=>
     simp only[Ac];obtain⟨d',u1,u2,u3⟩:=JE k2.dev.fl k2.dev.sr;obtain⟨e1,e2,_⟩:=G7 k2.dev u2 rfl;rw[Np k2.dev (steps:=[]) rfl (by simp) u1,Aa,BP (by simp;omega)];exact⟨_,_,_,_,re,rfl,⟨u2,k2.core,by rw[e1];exact k2.data⟩,by omega,by omega,k5.q (by omega) _ _,MF (by rw[e1,k5.ab]) _,by rw[u3];exact k5.wear⟩
   rcases sU k2 s2 with w|⟨steps,d',r',w1,w2,w3,w4,w7,w5,w6,w8,w9,_⟩
   ·rw[w];exact⟨_,_,_,_,re,rfl,k2,by omega,by omega,k5.q (by omega) _ _,MF k5.ab _,k5.wear⟩
   rw[w1];simp only[Aa,Ah,Ac]
   cases decide (v9<8)with
   |true=>exact⟨_,_,_,_,re,rfl,k2,by omega,by omega,k5.q (by omega) _ _,MF k5.ab _,k5.wear⟩
   |false=>
    simp only[Ac];rw[w3,Aa,BP<|by omega];refine⟨_,_,_,_,r',rfl,w4,by omega,by omega,⟨λy hy hk=>?_,by have:=w8.2.1;have:=k5.tx;omega,by have:=w8.2.2;have:=k5.sq;omega⟩,λp hp=>?_,λw hh=>w9 _<|k5.wear w hh⟩
    ·rcases w8.1 y hy hk with⟨z,z1,z2,z3,z4⟩|⟨t1,t2,t3⟩
     ·obtain⟨w,a1,a2,a3,a4⟩:=k5.pg z z1 z2
      grind
     obtain⟨_,_,_,s3⟩:=s2
     grind
    have e1:=BG Prod.fst w7;simp only at e1;rw[e1]at hp
    cases b:DA (By e.Store) e.Store.Next x with
    |none=>
     rw[b]at hp;exact .inl ⟨p,by rw[<-k5.ab];exact hp,rfl⟩
    |some lp=>
     rw[b]at hp;obtain⟨l',nx'⟩:=lp;have n:p∈l':=hp
     rcases rJ b s2.2.1 p n with⟨p',q1,q2⟩|hh
     ·exact .inl ⟨p',by rw[<-k5.ab];exact q1,q2⟩
     exact .inr<|by rw[hh,s2.2.2.1]
structure LZ (c:BT):Prop where
 i0:0<=c.i_
 i1:c.i_<=(c.b_.length:Int)
 len:c.b_.length<=1048576
theorem AAL (a:Int):0<=ban .i64 a 255/\ban .i64 a 255<=255:=by
 unfold ban;have h:(BitVec.ofInt IntKind.i64.bits a&&&BitVec.ofInt IntKind.i64.bits 255).toNat<=255:=by
  rw[BitVec.toNat_and];refine JF Nat.and_le_right ?_;exact Nat.le_of_eq rfl
 rw[Pw (by omega)<|by omega];omega
theorem Xj (h:LZ c):∃v c',IR c=some (v,c')/\LZ c'/\0<=v/\v<=255:=by
 have:=h.i0;have:=h.i1;have:=h.len;unfold IR;by_cases e:c.i_<ln c.b_
 ·rw[Ad e,Ae,KX h.i0 (by rw[B4]at e;exact e)];rw[B4]at e;rw[Aa,C6 (a:=c.i_) (by omega)<|by omega];exact⟨_,_,rfl,⟨by show 0<=c.i_+1;omega,by show c.i_+1<=(c.b_.length:Int);omega,h.len⟩,AAL _⟩
 rw[Af e,Ac];exact⟨_,_,rfl,⟨h.i0,h.i1,h.len⟩,AAL _⟩
theorem AC3 {a n:Int} (h0:0<=a) (hn:0<n):∃v,rm .i64 a n=some v/\0<=v/\v<n:=by
 unfold rm;rw[Av (by omega),Lj h0];exact⟨_,rfl,Int.emod_nonneg _ (by omega),Int.emod_lt_of_pos _ hn⟩
theorem Rl (h:LZ c) (n:Int):∃v c',D9 c n=some (v,c')/\LZ c'/\0<=v/\(0<n->v<n):=by
 unfold D9;by_cases h0:n<=0
 ·rw[Ad h0];exact⟨_,_,rfl,h,by omega,λhh=>by omega⟩
 rw[Af h0,Ac];by_cases h1:n<=256
 ·rw[Ad h1,Ae];obtain⟨v,c',k1,k2,k3,k4⟩:=Xj h;rw[k1];obtain⟨w,w1,w2,w3⟩:=AC3 (n:=n) k3 (by omega);rw[Aa,w1];exact⟨_,_,rfl,k2,w2,λ_=>w3⟩
 rw[Af h1,Ac];obtain⟨v1,c1,a1,a2,a3,a4⟩:=Xj h;obtain⟨v2,c2,b1,b2,b3,b4⟩:=Xj a2;obtain⟨v3,c3,d1,d2,d3,d4⟩:=Xj b2;obtain⟨v4,c4,e1,e2,e3,e4⟩:=Xj d2;rw[a1,Aa,b1,Aa,d1,Aa,e1,Aa,PE (by omega) (by omega),PE (by omega) (by omega),PE (by omega) (by omega),C6 (a:=v1*16777216) (b:=v2*65536) (by omega) (by omega),C6 (a:=v1*16777216+v2*65536) (b:=v3*256) (by omega) (by omega),C6 (a:=v1*16777216+v2*65536+v3*256) (b:=v4) (by omega)<|by omega];obtain⟨w,w1,w2,w3⟩:=AC3 (a:=v1*16777216+v2*65536+v3*256+v4) (n:=n) (by omega) (by omega);rw[w1];exact⟨_,_,rfl,e2,w2,λ_=>w3⟩
theorem NK (h:LZ c) (hn:0<n):∃(v:Nat) (c':BT),D9 c (n:Int)=some ((v:Int),c')/\LZ c'/\v<n:=by
 obtain⟨v,c',k1,k2,k3,k4⟩:=Rl h (n:Int);have:=k4 (by omega);exact⟨v.toNat,c',by rw[AY k3];exact k1,k2,by omega⟩
theorem wT {l:List Int} (h:LZ c) (hl:0<l.length):∃v c',No c l=some (v,c')/\LZ c'/\v∈l:=by
 unfold No;obtain⟨v,c',k1,k2,k3⟩:=NK h hl;rw[B4,k1,Aa,Aw,Ab k3];exact⟨_,_,rfl,k2,A3 k3⟩
theorem ADx {l:List ByteArray} (h:LZ c) (hl:0<l.length):∃v c',P6 c l=some (v,c')/\LZ c'/\v∈l:=by
 unfold P6;obtain⟨v,c',k1,k2,k3⟩:=NK h hl;rw[B4,k1,Aa,Aw,Ab k3];exact⟨_,_,rfl,k2,A3 k3⟩
theorem AAX (h:LZ c) (n:Int):∃v c',Kf c n=some (v,c')/\LZ c':=by
 unfold Kf;obtain⟨v,c',k1,k2,_⟩:=Rl h n;rw[k1];exact⟨_,_,rfl,k2⟩
theorem N7 (h:LZ c):LZ (BT.mk c.b_ c.i_ c.h_):=h
theorem AAZ (h:code.length<=1048576):∃c,P7 code=some c/\LZ c:=by
 unfold P7;obtain⟨b,h1,_⟩:=AS (body:=λs:Int×Int=>My code s.1 s.2) (λ(o:Int) i=>(o,i)) code.length (λ_ _=>True) (λ_=>True)
  (λo i hi _=>by
   have hx:=Ab hi;simp only[My,KH,Ad hi,Ae,Aa,Aw,hx];rw[ad1 (i:=i)<|by omega]
   cases decide ((i:Int)<4000)with
   |true=>exact .inl ⟨_,rfl,trivial⟩
   |false=>exact .inr ⟨_,rfl,trivial⟩)
  (λo _=>⟨o,by simp only[My,KH,FE,LP,Ac,Aa],trivial⟩) (s:=ad 36501<|ln code) trivial
 rw[h1];exact⟨_,rfl,⟨GQ _,by show(0:Int)<=_;omega,h⟩⟩
def ten:List ByteArray:=[bs [],bs [97],bs [98,98],bs [97,98,99,100,97,98,99,100,97,98,99,100],bs [104,101,108,108,111],bs [104,101,108,108,111,32,104,101,108,108,111,32,104,101,108,108,111],bs [122,122,122,122,122,122,122,122,122,122,122,122],bs [113,49],bs [113,50],bs [113,51]]
theorem ADs (h:LZ c):∃v c',SK c=some (v,c')/\LZ c'/\v∈ten:=by
 unfold SK;obtain⟨v,c',k1,k2,k3⟩:=ADx h (l:=ten) (by simp[ten]);have e:P6 c ten=some (v,c'):=k1;unfold ten at e;rw[e];exact⟨_,_,rfl,k2,k3⟩
structure AA6 (q:Rv):Prop where
 kind:1<=q.Kind/\q.Kind<=6
 vol:1<=q.Vol/\q.Vol<=3
 rest:(q.Kind=1/\q.Text∈ten/\(0<=q.Sector/\q.Sector<=15)/\q.Of=0)\/(q.Kind≠1/\L q.Text=[]/\(((q.Kind=2\/q.Kind=6)/\(0<=q.Sector/\q.Sector<=15)/\q.Of=0)\/(q.Sector=0/\((q.Kind=4/\1<=q.Of/\q.Of<=9)\/((q.Kind=3\/q.Kind=5)/\q.Of=0)))))
theorem AAY (h:LZ c) (d:A9) (hv:d.Store.Vols.length<=3) (j:∀v∈d.Store.Vols,1<=v.Id/\v.Id<=3):∃q c',P4 c d=some (q,c')/\LZ c'/\AA6 q:=by
  unfold P4;obtain⟨k,c1,a1,a2,a3⟩:=wT h (l:=[1,1,1,1,1,1,2,3,4,5,6]) (by simp);rw[a1];simp only[Aa];obtain⟨v2,c2,b1,b2,b3,b4⟩:=Rl a2 3;have m:1<=k/\k<=6:=by simp at a3;omega
  have s:ad 1 v2=1+v2:=C6 (by omega) (by omega);have u:=b4 (by omega);rw[b1];simp only[Aa]
  have J1:∃x y c3,(cond ((ln d.Store.Vols)==0) (some (3,ad 1 v2,c2.b_,c2.i_,c2.h_)) ((cond (k !=3) (cond (k !=4) ((Kf c2 8).bind λv3=>
 some (!v3.1,v3.2.b_,v3.2.i_,v3.2.h_))<|some (false,c2.b_,c2.i_,c2.h_)) (some (false,c2.b_,c2.i_,c2.h_)):Option (Bool×List Int×Int×Int)).bind λj2=>
 cond j2.1 ((D9 (BT.mk j2.2.1 j2.2.2.1 j2.2.2.2)<|ln d.Store.Vols).bind λv4=>
 (gi d.Store.Vols v4.1).bind λx1=>
 some (k,x1.Id,v4.2.b_,v4.2.i_,v4.2.h_)) (some (k,ad 1 v2,j2.2.1,j2.2.2.1,j2.2.2.2))):Option (Int×Int×List Int×Int×Int))=some (x,y,BT.b_ c3,c3.i_,c3.h_)/\LZ c3/\(1<=x/\x<=6)/\1<=y/\y<=3:=by
   cases hz:(ln d.Store.Vols==0)with
   |true=>exact⟨_,_,c2,rfl,b2,by omega,by omega,by omega⟩
   |false=>
    simp only[Ac];have n:0<d.Store.Vols.length:=by
     rw[Df,B4]at hz;omega
    have J2:∃b c3,(cond (k !=3) (cond (k !=4) ((Kf c2 8).bind λv3=>some (!v3.1,v3.2.b_,v3.2.i_,v3.2.h_))<|some (false,c2.b_,c2.i_,c2.h_)) (some (false,c2.b_,c2.i_,c2.h_)):Option (Bool×List Int×Int×Int))=some (b,BT.b_ c3,c3.i_,c3.h_)/\LZ c3:=by
     cases(k !=3)with
     |false=>exact⟨_,c2,rfl,b2⟩
     |true=>
      cases(k !=4)with
      |false=>exact⟨_,c2,rfl,b2⟩
      |true=>
       obtain⟨v3,c3,d1,d2⟩:=AAX b2 8;simp only[Ae];rw[d1];exact⟨_,c3,rfl,d2⟩
    obtain⟨b,c3,e1,e2⟩:=J2;rw[e1];simp only[Aa]
    cases b with
    |false=>exact⟨_,_,c3,rfl,e2,m,by omega,by omega⟩
    |true=>
     simp only[Ae];obtain⟨v4,c4,f1,f2,f3⟩:=NK (N7 e2) n;rw[B4,f1,Aa,Aw,Ab f3];exact⟨_,_,c4,rfl,f2,m,j _<|A3 f3⟩
  obtain⟨x,y,c3,j1,j1c,jx,jy⟩:=J1;rw[j1];simp only[Aa];have J3:∃b c4,(cond (x==5) ((Kf (BT.mk c3.b_ c3.i_ c3.h_) 3).bind λv8=>some (!v8.1,v8.2.b_,v8.2.i_,v8.2.h_)) (some (false,c3.b_,c3.i_,c3.h_)):Option (Bool×List Int×Int×Int))=some (b,BT.b_ c4,c4.i_,c4.h_)/\LZ c4:=by
   cases(x==5)with
   |false=>exact⟨_,c3,rfl,j1c⟩
   |true=>
    obtain⟨v8,c4,d1,d2⟩:=AAX (N7 j1c) 3;simp only[Ae];rw[d1];exact⟨_,c4,rfl,d2⟩
  obtain⟨b,c4,j3,j3c⟩:=J3;rw[j3];simp only[Aa,IJ];have a:1<=(bif b then(1:Int)else x)/\(bif b then(1:Int)else x)<=6:=by cases b<;>simp<;>omega
  generalize (bif b then(1:Int)else x)=j4 at a
  cases o:(j4==1)with
  |true=>
   simp only[Ae];obtain⟨t,c5,t1,t2,t3⟩:=ADs<|N7 j3c;rw[t1];simp only[Aa];obtain⟨v10,c6,u1,u2,u3,u4⟩:=Rl t2 16;rw[u1];have:=u4 (by omega);have hj:=Cd.1 o;exact⟨_,_,rfl,u2,⟨a,jy,.inl ⟨hj,t3,by show 0<=v10/\v10<=15;omega,rfl⟩⟩⟩
  |false=>
   simp only[Ac];have e:j4≠1:=by simpa using o
   have p:(cond (j4==2) (j4==2)<|j4==6)=decide (j4=2\/j4=6):=by
    by_cases e2:j4=2
    ·rw[e2];rfl
    rw[show(j4==2)=false by simpa using e2,Ac];by_cases e6:j4=6
    ·rw[e6];rfl
    rw[show(j4==6)=false by simpa using e6,Af<|by omega]
   rw[p];by_cases g:j4=2\/j4=6
   ·rw[Ad g];simp only[Ae];obtain⟨v11,c6,u1,u2,u3,u4⟩:=Rl (N7 j3c) 16;rw[u1];have:=u4 (by omega);exact⟨_,_,rfl,u2,⟨a,jy,.inr ⟨e,EY _,.inl ⟨g,by show 0<=v11/\v11<=15;omega,rfl⟩⟩⟩⟩
   rw[Af g];simp only[Ac]
   cases f:(j4==4)with
   |true=>
    simp only[Ae];obtain⟨v12,c6,u1,u2,u3,u4⟩:=Rl (N7 j3c) 3;have h44:=Cd.1 f;have:=u4 (by omega);rw[u1];simp only[Aa]
    cases r:d.Store.Vols with
    |nil=>
     rw[show decide (ln ([]:List Vol)>0)=false from rfl];exact⟨_,_,rfl,u2,⟨a,jy,.inr ⟨e,EY _,.inr ⟨rfl,.inl ⟨h44,by show 1<=ad 1 v12/\ad 1 v12<=9;rw[C6];omega⟩⟩⟩⟩⟩
    |cons v vs=>
     rw[Ad (by rw[B4,A7];omega:ln (v::vs)>0),show gi (v::vs) 0=some v from Aw (i:=0)];have:=j v (by rw[r];simp);exact⟨_,_,rfl,u2,⟨a,jy,.inr ⟨e,EY _,.inr ⟨rfl,.inl ⟨h44,by show 1<=v.Id/\v.Id<=9;omega⟩⟩⟩⟩⟩
   |false=>
    have h44:j4≠4:=by simpa using f
    exact⟨_,_,rfl,N7 j3c,⟨a,jy,.inr ⟨e,EY _,.inr ⟨rfl,.inr ⟨by show j4=3\/j4=5;omega,rfl⟩⟩⟩⟩⟩
theorem AAI (h:3<=n/\n<=10):BE (Flash.mk (List.replicate n (Block.mk false 0 O0))):=by
 refine⟨by simpa using h,λb hb=>?_⟩;rw[D5 hb];exact oP ⟨by omega,by omega⟩
theorem iJ (h:3<=n/\n<=10):Qk (n:Int)=some (Flash.mk (List.replicate n (Block.mk false 0 O0)),true):=by
 unfold Qk;rw[EB,Ad<|by omega];simp only[Aa,Ah,Ac];have q:=qS (body:=λs:Int×List Block=>Jz (n:Int) s.1 s.2) n (λ_=>Block.mk false 0 O0)
  (λi a hi ho=>by
   simp only[Jz]
   rw[cT,SY,Aa,BP (by simp;omega),Aa,ad1])
  (λa=>by simp only[Jz];rw[cF])
 rw[q,Aa,Ng,CR]
theorem fB:∀(n:Nat) (i:Int),Jq i (List.replicate n (Block.mk false 0 O0))=[]
 |0,i=>rfl
 |n+1,i=>by
  rw[GH,Jq,fB n (i+1),Z4 i 0 _ (λy hy=>by rw[D5 hy];simp)];rfl
theorem pD (h:3<=n/\n<=10):∃d,OK (n:Int)=some (d,true)/\JI d []/\By d.Store=[]/\d.Store.Next=1/\d.Flash=Flash.mk (List.replicate n (Block.mk false 0 O0)):=by
 have hP:=AAI h;have b:SR (Jq 0 (Flash.mk<|List.replicate n<|Block.mk false 0 O0).Blocks) []:=by
  rw[fB];exact⟨List.Pairwise.nil,λ_=>rfl⟩
 obtain⟨d,u1,u2,u3⟩:=JE hP b;have a:=u2.ab;have:LE (Dc<|Bs [])=([],1):=rfl;rw[this]at a
 injection a with e1 e2
 refine⟨d,?_,⟨u2,⟨⟨by simp,by simp,by simp,by simp,by simp,by simp⟩,List.Pairwise.nil,⟨λy hy=>by cases hy⟩⟩,?_⟩,e1,e2,u3⟩
 ·unfold OK;rw[iJ h];simp only[Aa,Ah,Ac];rw[u1];rfl
 rw[e1];refine⟨λc hc=>?_,λc c' hc=>?_⟩
 ·obtain⟨_,p,hp,_⟩:=hc;cases hp
 obtain⟨_,p,hp,_⟩:=hc;cases hp
theorem kY (h:code.length<=1048576):∃p,Nr code=some p/\p.length=12/\∀x∈p,0<=x/\x<10000:=by
 unfold Nr;obtain⟨c,c1,c2⟩:=AAZ h;rw[c1];simp only[Aa];obtain⟨v,c',b1,b2,_⟩:=Xj c2;rw[b1];simp only[Aa];obtain⟨a,h1,h2,h3⟩:=AS (body:=λs:List Int×Int×List Int×Int×Int=>HD s.1 s.2.1 s.2.2.1 s.2.2.2.1 s.2.2.2.2) (λ(o:List Int×BT) i=>(o.1,i,o.2.b_,o.2.i_,o.2.h_)) 12
  (λi o=>LZ o.2/\o.1.length=i/\∀x∈o.1,0<=x/\x<10000) (λa=>a.length=12/\∀x∈a,0<=x/\x<10000)
  (λo i hi hs=>by
   obtain⟨p,cu⟩:=o;obtain⟨k1,k2,k3⟩:=hs;simp only at k1 k2 k3;simp only[HD];rw[cT];obtain⟨w,c3,w1,w2,w3,w4⟩:=Rl (N7 k1) 10000;rw[w1,Aa,BP (by simp;omega),Aa,ad1];refine .inl ⟨(p++ [w],c3),rfl,w2,by simp;omega,λx hx=>?_⟩;rw[Al,AE]at hx
   rcases hx with hx|rfl
   ·exact k3 x hx
   exact⟨w3,w4<|by omega⟩)
  (λo hs=>⟨o.1,by simp only[HD];rw[cF],hs.2⟩) (s:=([],c')) ⟨b2,rfl,λx hx=>by cases hx⟩
 rw[h1];exact⟨a,rfl,h2,h3⟩
structure AA4 (d:A9) (r:List Ar):Prop where
 ids:∀p∈By d.Store,1<=p.1/\p.1<=3
 pg:∀y∈r,y.Page.Kind=1->y.Page.Tx<=13/\∃s∈ten,T1 y.Page.Text=some s
structure Ext (d:A9) (r:List Ar):Prop extends AA4 d r where
 tx:DC r<=1000
 sq:Db r<=100000
 wear:GR d.Flash 1000
theorem AA6.text {q:Rv} (h:AA6 q):q.Text∈ten:=by
 rcases h.rest with⟨_,h2,_⟩|⟨_,h2,_⟩
 ·exact h2
 rw[show q.Text=bs []from Lf (by rw[h2,EY])];simp[ten]
theorem AA4.step {q:Rv} (h:AA4 d r) (hq:AA6 q) (hn:d.Store.Next<=13) (hf:AA3 r r' d.Store.Next q.Text) (hi:ADG d d' q.Vol):AA4 d' r':=by
 refine⟨λp hp=>?_,λy hy hk=>?_⟩
 ·rcases hi p hp with⟨p',h1,h2⟩|h1
  ·rw[<-h2];exact h.ids p' h1
  rw[h1];exact hq.vol
 rcases hf.1 y hy hk with⟨z,z1,z2,z3,z4⟩|⟨h1,h2⟩
 ·have:=h.pg z z1 z2;rw[z3,z4]at this;exact this
 exact⟨by omega,_,hq.text,h2⟩
theorem X6 (h:LZ c):∃d c' r,Mv c=some (d,c')/\LZ c'/\JI d r/\d.Store.Next<=13/\Ext d r:=by
 unfold Mv;obtain⟨v,c1,a1,a2,a3⟩:=NK h (n:=4) (by omega);rw[show((4:Nat):Int)=4 from rfl]at a1;rw[a1,Aa,C6,show(5:Int)+(v:Int)=((5+v:Nat):Int) by omega];obtain⟨d0,b1,b2,b3,b4,b5⟩:=pD (n:=5+v) (by omega);rw[b1];simp only[Aa];obtain⟨a,h1,d,cc,r,h2,h3,h4,h5,h6⟩:=AS (body:=λs:Int×List Block×List Vol×List B6×Int×Int×Int×Int×List Int×Int×Int=>Io s.1 s.2.1 s.2.2.1 s.2.2.2.1 s.2.2.2.2.1 s.2.2.2.2.2.1 s.2.2.2.2.2.2.1 s.2.2.2.2.2.2.2.1 s.2.2.2.2.2.2.2.2.1 s.2.2.2.2.2.2.2.2.2.1 s.2.2.2.2.2.2.2.2.2.2)
  (λ(o:A9×BT) i=>(i,o.1.Flash.Blocks,o.1.Store.Vols,o.1.Store.Arena.Knots,o.1.Store.Next,o.1.Seq,o.1.Tx,o.1.Base,o.2.b_,o.2.i_,o.2.h_)) 12
  (λi o=>LZ o.2/\(∃r,JI o.1 r/\AA4 o.1 r/\DC r<=1+21*i/\Db r<=1+4010*i/\GR o.1.Flash (20*i))/\o.1.Store.Next<=1+i)
  (λa=>∃d cc r,a=(d.Flash.Blocks,d.Store.Vols,d.Store.Arena.Knots,d.Store.Next,d.Seq,d.Tx,d.Base,BT.b_ cc,cc.i_,cc.h_)/\LZ cc/\JI d r/\d.Store.Next<=13/\Ext d r)
  (λo i hi hs=>by
   obtain⟨e,cu⟩:=o;obtain⟨k1,⟨r,k2,kx,kt,kq,kw⟩,k3⟩:=hs;simp only at k1 k2 k3 kx kw;have f:A9.mk (Flash.mk e.Flash.Blocks) (Store.mk e.Store.Vols (Arena.mk e.Store.Arena.Knots) e.Store.Next) e.Seq e.Tx e.Base=e:=rfl;simp only[Io];rw[f];obtain⟨w,c3,w1,w2,w3⟩:=NK (N7 k1) (n:=12) (by omega);rw[show((12:Nat):Int)=12 from rfl]at w1;rw[w1];simp only[Aa];by_cases b:(i:Int)<(w:Int)
   ·rw[Ad b,Ae];obtain⟨q,c4,q1,q2,q3⟩:=AAY w2 e k2.dev.st.len λv hv=>kx.ids (v.Id,Fe e.Store.Arena.Knots v.Root)<|AG.2 ⟨v,hv,rfl⟩;rw[q1];simp only[Aa];obtain⟨d',steps,t,no,r',s1,s2,s3,s4,s5,s6,s7⟩:=ACm k2 (λx hx=>by have:=kw x hx;omega) q;rw[s1,Aa,ad1];exact .inl ⟨(d',c4),rfl,q2,⟨r',s2,kx.step q3 (by omega) s5 s6,by have:=s5.2.1;omega,by have:=s5.2.2;omega,λx hx=>by have:=s7 _ kw x hx;omega⟩,by show d'.Store.Next<=_;omega⟩
   rw[Af b,Ac]
   exact .inr ⟨_,rfl,e,c3,r,rfl,w2,k2,by omega,⟨kx,by omega,by omega,λx hx=>by have:=kw x hx;omega⟩⟩)
  (λo hs=>by
   obtain⟨e,cu⟩:=o;obtain⟨k1,⟨r,k2,kx,kt,kq,kw⟩,k3⟩:=hs;simp only at k1 k2 k3 kx kw;simp only[Io];obtain⟨w,c3,w1,w2,w3⟩:=NK (N7 k1) (n:=12) (by omega);rw[show((12:Nat):Int)=12 from rfl]at w1;rw[show((12:Nat):Int)=12 from rfl,w1,Aa,cF]
   exact⟨_,rfl,e,c3,r,rfl,w2,k2,by omega,⟨kx,by omega,by omega,λx hx=>by have:=kw x hx;omega⟩⟩) (s:=(d0,c1)) ⟨a2,⟨[],b2,⟨λp hp=>(by rw[b3]at hp;cases hp),λy hy=>by cases hy⟩,by simp[DC],by simp[Db],λx hx=>by
    rw[b5]at hx;rw[D5 hx]
    exact GQ _⟩,by show d0.Store.Next<=_;omega⟩
 rw[h1,h2];exact⟨d,cc,r,rfl,h3,h4,h5,h6⟩
theorem kZ (h:code.length<=1048576):∃d r,Ns code=some d/\JI d r/\d.Store.Next<=13/\Ext d r:=by
 unfold Ns;obtain⟨c,c1,c2⟩:=AAZ h;obtain⟨d,c',r,d1,d2,d3,d4⟩:=X6 c2;rw[c1,Aa,d1];exact⟨d,r,rfl,d3,d4⟩
theorem wQ (d:A9) (h:dO d.Flash r) (hs:Ln d.Store<=1048576) (id:Int) (k:Nat) (hk:k<16):∃u ok,GU r d.Store id (k:Int)=some (u,ok)/\Sw d id (k:Int)=some (u,ok):=by
 unfold Ln YF at hs;have hl:=R9 (z:=UT) (l:=d.Store.Arena.Knots);have ha:Rb d.Store.Arena:=by unfold Rb;omega
 unfold GU Sw;obtain⟨v,h1,h2,h3⟩:=UW d.Store id (by omega);rw[h1,h2];simp only[Aa]
 cases decide (v<0)with
 |true=>exact⟨_,_,rfl,rfl⟩
 |false=>
  simp only[Ac];obtain⟨c,c1,c2⟩:=sQ d.Store (by omega) ha id k hk;rw[c1,c2];simp only[Aa]
  cases c==0 with
  |true=>exact⟨_,_,rfl,rfl⟩
  |false=>
   simp only[Ac];obtain⟨u,ok,t1,t2⟩:=Wk h c;rw[t1,t2];exact⟨_,_,rfl,rfl⟩
theorem xH (h:CB s):Ln s<=1048576:=by
 have h1:=h.len;have h2:=h.small;have a:∀l:List B6,(∀k∈l,k.Kids.length=4)->(l.map UT).sum=4*l.length:=by
  intro l
  induction l with
  |nil=>intro _;rfl
  |cons k l ih=>
   intro hl;rw[BJ,FG,ih (λx hx=>hl x<|by simp[hx]),A7];have:=hl k (by simp);unfold UT;omega
 have:=a s.Arena.Knots (λk hk=>by
  obtain⟨i,hi,rfl⟩:=AC hk;have:=(GF.1 h.ar i hi).1;rw[Ol hi]at this
  exact this)
 unfold Ln YF zl;omega
theorem qY (h:JI d r) (vol:Int) (hk:k<16):Sw d vol (k:Int)=GU r d.Store vol (k:Int):=by
 obtain⟨u,ok,h1,h2⟩:=wQ d h.dev.scan (xH h.dev.st) vol k hk;rw[h1,h2]
theorem ZZ (h:CB s) {live:List Int} (hl:F8 s=some live):KT s=some live:=by
 obtain⟨l,e1,e2,_,_⟩:=Xf s (by have:=h.len;omega)<|kI h;rw[hl]at e1
 injection e1 with e1
 rw[e1];exact e2
theorem o6 (h:HY d r) {live:List Int} (hl:F8 d.Store=some live) (l2:asc live) (l4:live.length<=16777216) (a b:Int):Zo d.Flash d.Store a b=some ((cn r.length (λj=>(C9 r live a)[j]?.getD false&&bk r b j):Nat):Int)/\H9 d.Flash d.Store a b=some ((cn r.length (λj=>(C9 r live a)[j]?.getD false&&bk r b j):Nat):Int):=by
 obtain⟨n,n1,n2⟩:=XV h.scan d.Store (ZZ h.st hl) l2 l4 a b;have c:=Z7 r (C9 r live a) b h.scan.len<|Kl _ _ _;have e:C9 r live a=live.foldl (cU r) (r.map<|D3 a):=rfl;rw[e]at c;rw[n1]at c
 injection c with c
 refine⟨?_,by rw[n2,c];rfl⟩;unfold Zo;rw[h.scan.s,hl];simp only[Aa];rw[Nw r live _ h.scan.len l4];simp only[Aa];rw[n1];simp only[Aa];rw[c];rfl
theorem AB5 (h:HY d r) (hy:y∈r):J6 y.Page:=by
 obtain⟨b,x,g1,g2,_,g3⟩:=h.scan.page y hy;obtain⟨_,k1⟩:=CQ g1;obtain⟨_,k2⟩:=CQ g2;have hx:=h.fl.text b (Aq k1) x<|Aq k2;obtain⟨p,ok,m1,_,_,m2⟩:=IM x.Text (by omega);rw[g3]at m1
 injection m1 with m1
 injection m1 with m1 m3
 obtain⟨v,q1,q2⟩:=Uk p;have hp:=m2 m3.symm;rw[hp]at q1
 injection q1 with q1
 rw[m1];exact q2.1 q1.symm
theorem AEx (hc:JW g) (ss:List Bh) (hs:ss.length<=1000) (p:Page) (b:Int):
  (∃s g',DW g ss p=some (g',ss++ [s],true)/\JW g'/\Dd (Gk.mk g ss) p b=some (if(s.Block==b)=true then(false,Gk.mk g ss)else(true,Gk.mk g' (ss++ [s]))))\/
  (∃g' st,DW g ss p=some (g',st,false)/\∃w,Dd (Gk.mk g ss) p b=some (false,w)):=by
 obtain⟨t,ok,t1,t2⟩:=XS p;obtain⟨bb,l,room,p1,p2,p3⟩:=bN g hc;unfold DW Dd;rw[t1,t2,p1,p2];simp only[Aa]
 cases ok with
 |false=>exact .inr ⟨g,ss,rfl,_,rfl⟩
 |true=>
  cases room with
  |false=>exact .inr ⟨g,ss,rfl,_,rfl⟩
  |true=>
   obtain⟨g2,v,g1,g3,g4⟩:=Xi g (Bh.mk 1 bb l t) hc;have a:JW g2:=by
    rcases g4 with⟨_,rfl⟩|⟨_,g4⟩
    ·exact hc
    exact g4.cap
   simp only[Ah,Ac,Aa,g1,g3];rw[BP (by simp only[A8];omega)]
   cases v with
   |true=>
    refine .inl ⟨Bh.mk 1 bb l t,g2,rfl,a,?_⟩
    cases hb:(bb==b)with
    |true=>simp only[Ae,BQ]
    |false=>simp only[Ac,Aa];rfl
   |false=>
    refine .inr ⟨g2,_,rfl,?_⟩
    cases hb:(bb==b)with
    |true=>exact⟨_,by simp only[Ae];rfl⟩
    |false=>exact⟨_,by simp only[Ac,Aa];rfl⟩
abbrev MvS:=Int×List Bh×List Block
def cS (sq:Int) (y:Ar):Page:=Page.mk 1 sq y.Page.Tx 0 1 y.Page.Text
noncomputable def mv (b:Int):List Ar->MvS->Option (Option MvS)
 |[],o=>some (some o)
 |y::ys,o=>(DW (Flash.mk o.2.2) o.2.1 (cS o.1 y)).bind λv=>if v.2.2=true then(match v.2.1.getLast? with
  |some s=>if(s.Block==b)=true then some none else mv b ys (o.1+1,v.2.1,v.1.Blocks)
  |none=>some none)else some none
theorem zZ (b:Int):∀(xs ys:List Ar) (o:MvS),mv b (xs++ys) o=(mv b xs o).bind λq=>match q with
  |some o'=>mv b ys o'
  |none=>some none
 |[],ys,o=>rfl
 |x::xs,ys,o=>by
  simp only[B5,mv]
  cases DW (Flash.mk o.2.2) o.2.1 (cS o.1 x)with
  |none=>rfl
  |some v=>
   simp only[Aa];split
   ·split
    ·split
     ·rfl
     exact zZ b xs ys _
    rfl
   rfl
def MvI (m:Nat) (o:MvS):Prop:=JW (Flash.mk o.2.2)/\o.2.1.length<=m/\0<=o.1/\o.1<=1000000001+m
theorem qO {o:MvS} (h:MvI m o) (hm:m<=1000):
  (∃s g',DW (Flash.mk o.2.2) o.2.1 (cS o.1 y)=some (g',o.2.1++ [s],true)/\(s.Block==b)=false/\(∀ys,mv b (y::ys) o=mv b ys (o.1+1,o.2.1++ [s],g'.Blocks))/\MvI (m+1) (o.1+1,o.2.1++ [s],g'.Blocks)/\Dd (Gk.mk (Flash.mk o.2.2) o.2.1) (cS o.1 y) b=some (true,Gk.mk g' (o.2.1++ [s])))\/
  ((∀ys,mv b (y::ys) o=some none)/\(∃w,Dd (Gk.mk (Flash.mk o.2.2) o.2.1) (cS o.1 y) b=some (false,w))/\((∃s g',DW (Flash.mk o.2.2) o.2.1 (cS o.1 y)=some (g',o.2.1++ [s],true)/\(s.Block==b)=true)\/∃g' st,DW (Flash.mk o.2.2) o.2.1 (cS o.1 y)=some (g',st,false))):=by
 obtain⟨h1,h2,h3,h4⟩:=h
 rcases AEx h1 o.2.1 (by omega) (cS o.1 y) b with⟨s,g',a1,a2,a3⟩|⟨g',st,a1,w,a2⟩
 ·cases hb:(s.Block==b)with
  |true=>
   rw[hb]at a3;exact .inr ⟨λys=>by simp only[mv,a1,Aa,BQ,HW,hb],⟨_,a3⟩,.inl ⟨s,g',a1,hb⟩⟩
  |false=>
   rw[hb]at a3;refine .inl ⟨s,g',a1,hb,λys=>by simp only[mv,a1,Aa,BQ,HW,hb,BB,Fs],⟨a2,?_,?_,?_⟩,by rw[a3];rfl⟩
   ·rw[Ai,A8];omega
   ·show 0<=o.1+1;omega
   show o.1+1<=_;omega
 exact .inr ⟨λys=>by simp[mv,a1],⟨w,a2⟩,.inr ⟨g',st,a1⟩⟩
theorem zY:∀(xs:List Ar) {m:Nat} {o:MvS},MvI m o->m+xs.length<=1000->∃v,mv b xs o=some v/\∀o',v=some o'->MvI (m+xs.length) o'
 |[],m,o,h,_=>⟨some o,rfl,λo' e=>by injection e with e;subst e;exact h⟩
 |x::xs,m,o,h,hm=>by
  rw[A7]at hm
  rcases qO (b:=b) (y:=x) h (by omega)with⟨s,g',a1,a2,a3,a4,a5⟩|⟨a1,_⟩
  ·obtain⟨v,v1,v2⟩:=zY xs a4 (by omega)
   exact⟨v,by rw[a3,v1],λo' e=>by
    have:=v2 o' e;rw[A7,show m+(xs.length+1)=m+1+xs.length by omega]
    exact this⟩
  exact⟨none,a1 xs,λo' e=>by cases e⟩
def Lv (b i:Int) (nd:List Bool) (r:List Ar):List Ar:=((nd.zip r).filter λq=>q.1&&(q.2.Block==b)&&(q.2.Leaf==i)).map Prod.snd
theorem tG (hr:r.length<=40) (hk:∀y∈r,y.Page.Kind=1->y.Page.Count=1/\y.Page.Part=0) (d:nd.length=r.length) (hn:∀(j:Nat) y,r[j]?=some y->nd[j]?=some true->y.Page.Kind=1) (b i:Int):∀(n j:Nat),j+n=r.length->∀{m:Nat} {o:MvS},MvI m o->m+n<=1000->
  Ap (λs:List Bh×Int×Int×List Block=>ES b r nd i s.1 s.2.1 s.2.2.1 s.2.2.2) (o.2.1,o.1,(j:Int),o.2.2)=(mv b (Lv b i (nd.drop j) (r.drop j)) o).map λq=>match q with
   |some o'=> .inl (o'.2.1,o'.1,o'.2.2)
   |none=> .inr (.inr (.inr ([],false)))
 |0,j,hj,m,o,ho,hm=>by
  rw[A0];simp only[ES,KH];rw[cF,List.drop_of_length_le (by omega),List.drop_of_length_le (by omega)];rfl
 |n+1,j,hj,m,o,ho,hm=>by
  have a:j<r.length:=by omega
  have hx:=Ab a;have c:=Ab (show j<nd.length by omega);have hd:nd.drop j=nd[j]::nd.drop (j+1):=AT (by omega);have e:r.drop j=r[j]::r.drop (j+1):=AT a
  have go:∀{m':Nat} {o':MvS},MvI m' o'->m'+n<=1000->_:=λ{m' o'} h1 h2=>tG hr hk d hn b i n (j+1) (by omega) (m:=m') (o:=o') h1 h2
  rw[A0];simp only[ES,Ez a,Aw,hx,c,Aa];rw[ad1,hd,e];have es:Lv b i (nd[j]::nd.drop (j+1)) (r[j]::r.drop (j+1))=if(nd[j]&&(r[j].Block==b)&&(r[j].Leaf==i))=true then r[j]::Lv b i (nd.drop<|j+1) (r.drop<|j+1)else Lv b i (nd.drop<|j+1) (r.drop<|j+1):=by
   simp only[Lv,List.zip_cons_cons,List.filter_cons];split<;>simp
  rw[es]
  cases f:nd[j]with
  |false=>
   simp only[AD,Ae,Aa,Bool.false_and,BB,Fs];exact go ho<|by omega
  |true=>
   simp only[Ah,Ac,Dn]
   cases hb:(r[j].Block==b)with
   |false=>
    simp only[bne,hb,AD,Ae,Aa,Bool.false_and,BB,Fs];exact go ho<|by omega
   |true=>
    simp only[bne,hb,Ah,Ac,Aa,Dn]
    cases g:(r[j].Leaf==i)with
    |false=>
     simp only[AD,Ae,BB,Fs];exact go ho<|by omega
    |true=>
     simp only[Ah,Ac,BQ];have h1:=hn j r[j] hx (by rw[c,f]);obtain⟨h2,h3⟩:=hk r[j] (A3 a) h1;have ep:Page.mk r[j].Page.Kind o.1 r[j].Page.Tx r[j].Page.Part r[j].Page.Count r[j].Page.Text=cS o.1 r[j]:=by rw[h1,h2,h3];rfl
     rw[ep];obtain⟨c1,c2,c3,c4⟩:=ho
     rcases qO (b:=b) (y:=r[j]) ⟨c1,c2,c3,c4⟩ (by omega)with⟨s,g',a1,a2,a3,a4,_⟩|⟨a1,_,⟨s,g',a2,a3⟩|⟨g',st,a2⟩⟩
     ·rw[a1,a3];simp only[Aa,Ah,Ac];rw[B4,Ai,A8,Cj,show((o.2.1.length+1:Nat):Int)-1=(o.2.1.length:Int) by omega,Fv];simp only[Aa,a2,Ac];rw[C6];exact go a4<|by omega
     ·rw[a2,a1];simp only[Aa,Ah,Ac];rw[B4,Ai,A8,Cj,show((o.2.1.length+1:Nat):Int)-1=(o.2.1.length:Int) by omega,Fv];simp only[Aa,a3,Ae];rfl
     rw[a2,a1];simp only[Aa,AD,Ae];rfl
def kH (l:List Ar):Prop:=l.Pairwise λx y=>x.Page.Tx≠y.Page.Tx
theorem aK {l:List Ar} {p:Ar->Bool} (hl:kH l) (hu:∀x∈l,∀y∈l,p x=true->p y=true->x=y) (hy:y∈l) (hp:p y=true):l.filter p=[y]:=by
 induction l with
 |nil=>cases hy
 |cons x l ih=>
  have h1:=C3.1 hl
  have hu':∀a∈l,∀c∈l,p a=true->p c=true->a=c:=λa ha c hc=>hu a (FP _ ha) c<|FP _ hc
  cases hx:p x with
  |true=>
   have e:x=y:=hu x (by simp) y hy hx hp;subst e;rw[CN hx,Br.2];intro z hz b;have:=hu x (by simp) z (FP _ hz) hx b;exact h1.1 z hz<|by rw[this]
  |false=>
   rw[DK<|by simp[hx]]
   rcases CC.1 hy with rfl|hy
   ·rw[hp]at hx;cases hx
   exact ih h1.2 hu' hy
theorem yQ {c:List Ar} (ha:kH a) (hc:kH c) (hm:∀y,y∈a↔y∈c) (hu:∀x∈a,∀y∈a,x.Leaf=y.Leaf->x=y):BX BH a c:=by
 intro k
 have e1:∀x,(BH x==k)=true↔x.Leaf=k:=λx=>by rw[Cd];rfl
 by_cases h:∃y∈a,y.Leaf=k
 ·obtain⟨y,y1,y2⟩:=h
  rw[aK ha (λx hx z hz p q=>hu x hx z hz<|by rw[(e1 x).1 p,(e1 z).1 q]) y1<|(e1 y).2 y2,
   aK hc (λx hx z hz p q=>hu x ((hm x).2 hx) z ((hm z).2 hz)<|by rw[(e1 x).1 p,(e1 z).1 q]) ((hm y).1 y1) ((e1 y).2 y2)]
 rw[Br.2 λx hx p=>h ⟨x,hx,(e1 x).1 p⟩,Br.2 λx hx p=>h ⟨x,(hm x).2 hx,(e1 x).1 p⟩]
def HZ (r:List Ar) (b:Int) (live:List Int):List Ar:=live.filterMap λc=>match P1 c r r.length with
 |some j=>if bk r b j=true then r[j]? else none
 |none=>none
theorem Wu (r:List Ar) (b:Int) (a:List Int) (c:Int):HZ r b (a++ [c])=HZ r b a++HZ r b [c]:=by unfold HZ;rw[List.filterMap_append]
theorem ABp (h:dO f r) {live:List Int} (a:KT s=some live) (hl:live.length<=16777216) (b:Int):Td f s b=some (HZ r b live):=by
 unfold Td;rw[a];simp only[Aa];obtain⟨u,h1,h2⟩:=AS (body:=λq:List Ar×Int=>H6 f b live q.1 q.2) (λ(u:List Ar) i=>(u,i)) live.length (λi u=>u=HZ r b (live.take i)) (λu=>u=HZ r b live)
  (λu i hi hu=>by
   have hg:live[i]?=some live[i]:=Ab hi;obtain⟨o,o1,o2⟩:=WU f r h.i h.len h.srt live[i];have ho:o=P1 live[i] r r.length:=WF o2<|Pz _ _ _<|Au _;have d:u.length<=i:=by
    rw[hu];have:=List.length_filterMap_le (λc=>match P1 c r r.length with|some j=>if bk r b j=true then r[j]? else none|none=>none)<|live.take i;rw[AW]at this;unfold HZ;omega
   have et:live.take (i+1)=live.take i++ [live[i]]:=by rw[Ao hi]
   refine .inl ?_;simp only[H6,Ez hi,Aw,hg,Aa,o1]
   cases ht:P1 live[i] r r.length with
   |none=>
    rw[ht]at ho;subst ho;simp only[F6,Ac,Aa];rw[ad1];refine⟨_,rfl,?_⟩;rw[et,Wu,<-hu];simp[HZ,ht]
   |some j=>
    rw[ht]at ho;subst ho;obtain⟨hj,_⟩:=NN (Au _) ht;have hr:=Ab hj;simp only[T8,Ae,Aa,KZ]
    cases hb:bk r b j with
    |true=>
     have hb':((r[j]?.getD Pp).Block==b)=true:=hb;rw[hb'];simp only[Ae];rw[BP (by simp only[A8];omega),ad1];refine⟨_,rfl,?_⟩;rw[et,Wu,<-hu];simp[HZ,ht,hb,hr]
    |false=>
     have hb':((r[j]?.getD Pp).Block==b)=false:=hb;rw[hb'];simp only[Ac];rw[ad1];refine⟨_,rfl,?_⟩;rw[et,Wu,<-hu]
     simp[HZ,ht,hb])
  (λu hu=>⟨u,by simp only[H6,Ec],by rw[hu,Bc]⟩) (s:=[]) (by simp[HZ])
 rw[h1,h2];rfl
theorem SG {live:List Int} (hy:y∈HZ r b live):∃c∈live,∃j,P1 c r r.length=some j/\r[j]?=some y/\y.Block=b/\y.Page.Kind=1/\y.Page.Tx=c:=by
 obtain⟨c,c1,c2⟩:=List.mem_filterMap.1 hy
 cases ht:P1 c r r.length with
 |none=>rw[ht]at c2;cases c2
 |some j=>
  rw[ht]at c2;simp only at c2;split at c2
  ·rename_i hb;obtain⟨_,z,z1,z2⟩:=NN (Au _) ht;rw[z1]at c2
   injection c2 with c2
   subst c2;simp only[bk,z1,Bl,Cd]at hb;simp only[IZ,Ak,Cd]at z2;exact⟨c,c1,j,ht,z1,hb,z2.1,z2.2⟩
  cases c2
theorem eI (r:List Ar) (b:Int):∀{live:List Int},live.Nodup->kH (HZ r b live)
 |[],_=>List.Pairwise.nil
 |c::live,h=>by
  obtain⟨h1,h2⟩:=Di.1 h;have ih:=eI r b h2;unfold HZ;rw[List.filterMap_cons];split
  ·exact ih
  rename_i y hy;refine C3.2 ⟨λz hz e=>?_,ih⟩;obtain⟨c',q1,j,q2,q3,q4,q5,q6⟩:=SG (r:=r) (b:=b) (live:=live) hz
  obtain⟨c'',p1,j2,p2,p3,p4,p5,p6⟩:=SG (r:=r) (b:=b) (live:=[c]) (y:=y) (by
   unfold HZ;rw[List.filterMap_cons,hy]
   simp)
  rw[AE]at p1;subst p1;exact h1 (by rw[<-p6,e,q6];exact q1)
def P3 (b:Int) (nd:List Bool) (r:List Ar):List Ar:=Lv b 0 nd r++(Lv b 1 nd r++(Lv b 2 nd r++Lv b 3 nd r))
theorem Vn {i:Int}:y∈Lv b i nd r↔(∃j:Nat,r[j]?=some y/\nd[j]?=some true)/\y.Block=b/\y.Leaf=i:=by
 unfold Lv;simp only[AG,Bf,Ak,Cd];constructor
 ·rintro⟨⟨n,z⟩,⟨h1,⟨h2,h3⟩,h4⟩,rfl⟩;obtain⟨j,hj⟩:=List.getElem?_of_mem h1;rw[List.getElem?_zip_eq_some]at hj;simp only at h2 h3 h4;exact⟨⟨j,hj.2,by rw[hj.1,h2]⟩,h3,h4⟩
 rintro⟨⟨j,h1,h2⟩,h3,h4⟩;exact⟨(true,y),⟨Aq<|List.getElem?_zip_eq_some.2 ⟨h2,h1⟩,⟨rfl,h3⟩,h4⟩,rfl⟩
theorem lQ (hn:∀(j:Nat) y,r[j]?=some y->nd[j]?=some true->P1 y.Page.Tx r r.length=some j) (b i:Int):kH (Lv b i nd r):=by
 unfold Lv kH;rw[Kw]
 have h0:(nd.zip r).Pairwise λp q=>p.1=true->q.1=true->p.2.Page.Tx≠q.2.Page.Tx:=by
  rw[Dq];intro x y hx hy a p q e;have a1:=(List.getElem?_zip_eq_some (l₁:=nd) (l₂:=r)).1<|Ab hx;have a2:=(List.getElem?_zip_eq_some (l₁:=nd) (l₂:=r)).1<|Ab hy;have b1:=hn x _ a1.2 (by rw[a1.1,p]);have b2:=hn y _ a2.2 (by rw[a2.1,q]);rw[e,b2]at b1
  injection b1 with b1
  omega
 have h1:=h0.filter λq=>q.1&&(q.2.Block==b)&&(q.2.Leaf==i);refine(List.pairwise_iff_forall_sublist.2 λ{p q} hs=>?_);have hp:=List.pairwise_iff_forall_sublist.1 h1 hs;have mp:p∈(nd.zip r).filter (λq=>q.1&&(q.2.Block==b)&&(q.2.Leaf==i)):=hs.subset (by simp);have mq:q∈(nd.zip r).filter (λq=>q.1&&(q.2.Block==b)&&(q.2.Leaf==i)):=hs.subset (by simp);have tp:=(Bf.1 mp).2;have tq:=(Bf.1 mq).2;simp only[Ak]at tp tq;exact hp tp.1.1 tq.1.1
end Go.TI
