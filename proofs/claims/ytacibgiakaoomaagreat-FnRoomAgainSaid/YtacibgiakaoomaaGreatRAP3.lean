/- A drawn device whose volumes are dropped has room again. No condition; no program is in sight. -/
import Derived.Test.YtacibgiakaoomaaGreatRAP2
set_option linter.unusedVariables false
set_option linter.unusedSimpArgs false
namespace Go.TI
open Go
def iF (l:List Ak):Prop:=l.Pairwise λx y=>x.Page.Tx≠y.Page.Tx
variable {r re:List Ak} {d e:Av} {f:Flash} {s a:Store} {y:Ak} {b i n k v:Int} {nd:List Bool} {code l:List Int} {t:ByteArray} {x:Block}
theorem Zp {l:List Ak} {p:Ak->Bool} (hl:iF l) (hu:∀x∈l,∀y∈l,p x=true->p y=true->x=y) (hy:y∈l) (hp:p y=true):l.filter p=[y]:=by
 induction l with
 |nil=>cases hy
 |cons x l ih=>
  have h1:=Ca.1 hl
  have hu':∀a∈l,∀c∈l,p a=true->p c=true->a=c:=λa ha c hc=>hu a (K5 _ ha) c<|K5 _ hc
  cases hx:p x with
  |true=>grind [B9]
  |false=>
   rw[I4<|by simp[hx]]
   rcases Gi.1 hy with rfl|hy
   ·grind
   exact ih h1.2 hu' hy
theorem wU {a c:List Ak} (ha:iF a) (hc:iF c) (hm:∀y,y∈a↔y∈c) (hu:∀x∈a,∀y∈a,x.Leaf=y.Leaf->x=y):Bx Bp a c:=by
 intro k
 have e1:∀x,(Bp x==k)=true↔x.Leaf=k:=λx=>by rw[G5];rfl
 by_cases h:∃y∈a,y.Leaf=k
 ·obtain⟨y,y1,y2⟩:=h
  rw[Zp ha (λx hx z hz p q=>hu x hx z hz<|by grind) y1<|(e1 y).2 y2,
   Zp hc (λx hx z hz p q=>hu x ((hm x).2 hx) z ((hm z).2 hz)<|by grind) ((hm y).1 y1) ((e1 y).2 y2)]
 grind [B9]
def JQ (r:List Ak) (b:Int) (live:List Int):List Ak:=live.filterMap λc=>match Q5 c r r.length with
 |some j=>if bk r b j=true then r[j]? else none
 |none=>none
theorem AAT (h:bL f r) {live:List Int} (a:Kt s=some live) (hl:live.length<=16777216) (b:Int):Si f s b=some (JQ r b live):=by
 unfold Si;rw[a];simp only[Aa];obtain⟨u,h1,h2⟩:=AA (body:=λq:List Ak×Int=>GV f b live q.1 q.2) (λ(u:List Ak) i=>(u,i)) live.length (λi u=>u=JQ r b (live.take i)) (λu=>u=JQ r b live)
  (λu i hi hu=>by
   have hg:live[i]?=some live[i]:=Ab hi;obtain⟨o,o1,o2⟩:=VV f r h.i h.len h.srt live[i];have ho:o=Q5 live[i] r r.length:=VK o2<|O4 _ _ _<|A3 _;have c:u.length<=i:=by grind [JQ]
   have et:live.take (i+1)=live.take i++ [live[i]]:=by simp
   refine .inl ?_;simp only[GV,DL hi,Ap,hg,Aa,o1]
   cases ht:Q5 live[i] r r.length with
   |none=>grind [ad1,JQ]
   |some j=>grind [O3,Bw,ad1,Kw,bk,JQ])
  (λu hu=>⟨u,by simp[Dx,GV],by grind⟩) (s:=[]) (by simp[JQ])
 grind
theorem RO {live:List Int} (hy:y∈JQ r b live):∃c∈live,∃j,Q5 c r r.length=some j/\r[j]?=some y/\y.Block=b/\y.Page.Kind=1/\y.Page.Tx=c:=by
 obtain⟨c,c1,c2⟩:=List.mem_filterMap.1 hy
 grind [O3,bk,IA]
theorem cI (r:List Ak) (b:Int):∀{live:List Int},live.Nodup->iF (JQ r b live)
 |[],_=>List.Pairwise.nil
 |c::live,h=>by
  obtain⟨h1,h2⟩:=Du.1 h;have ih:=cI r b h2;unfold JQ;rw[List.filterMap_cons];split
  ·exact ih
  rename_i y hy;refine Ca.2 ⟨λz hz e=>?_,ih⟩;obtain⟨c',q1,j,q2,q3,q4,q5,q6⟩:=RO (r:=r) (b:=b) (live:=live) hz;obtain⟨c'',p1,j2,p2,p3,p4,p5,p6⟩:=RO (r:=r) (b:=b) (live:=[c]) (y:=y)<|by grind [JQ]
  grind
def Pg (b:Int) (nd:List Bool) (r:List Ak):List Ak:=KK b 0 nd r++(KK b 1 nd r++(KK b 2 nd r++KK b 3 nd r))
theorem Ye:y∈KK b i nd r↔(∃j:Nat,r[j]?=some y/\nd[j]?=some true)/\y.Block=b/\y.Leaf=i:=by
 unfold KK;simp only[AB,AG,Aj,G5];constructor
 ·grind [List.getElem?_of_mem,List.getElem?_zip_eq_some]
 rintro⟨⟨j,h1,h2⟩,h3,h4⟩;exact⟨(true,y),⟨Ao<|List.getElem?_zip_eq_some.2 ⟨h2,h1⟩,⟨rfl,h3⟩,h4⟩,rfl⟩
theorem jP (hn:∀(j:Nat) y,r[j]?=some y->nd[j]?=some true->Q5 y.Page.Tx r r.length=some j) (b i:Int):iF (KK b i nd r):=by
 unfold KK iF;rw[List.pairwise_map]
 have h0:(nd.zip r).Pairwise λp q=>p.1=true->q.1=true->p.2.Page.Tx≠q.2.Page.Tx:=by
  rw[Cc];intro x y hx hy a p q e;have a1:=(List.getElem?_zip_eq_some (l₁:=nd) (l₂:=r)).1<|Ab hx;have a2:=(List.getElem?_zip_eq_some (l₁:=nd) (l₂:=r)).1<|Ab hy
  grind
 have h1:=h0.filter λq=>q.1&&(q.2.Block==b)&&(q.2.Leaf==i)
 grind
def wR (b:Int) (nd:List Bool) (r:List Ak):Nat->Nat->List Ak
 |0,_=>[]
 |n+1,i=>KK b (i:Int) nd r++wR b nd r n (i+1)
theorem wQ (b i:Int) (nd:List Bool) (r:List Ak):(KK b i nd r).length<=r.length:=by
 unfold KK
 grind
theorem rQ (hr:r.length<=40) (hk:∀y∈r,y.Page.Kind=1->y.Page.Count=1/\y.Page.Part=0) (c:nd.length=r.length) (hn:∀(j:Nat) y,r[j]?=some y->nd[j]?=some true->y.Page.Kind=1) (b:Int):∀(n i:Nat),i+n=4->∀{m:Nat} {o:MvS},MvI m o->m+n*40<=1000->
  Ai (λs:List AF×Int×Int×List Block=>EQ b r nd s.1 s.2.1 s.2.2.1 s.2.2.2) (o.2.1,o.1,(i:Int),o.2.2)=(mv b (wR b nd r n i) o).map λq=>match q with
   |some o'=> .inl o'.2.1
   |none=> .inr ([],false)
 |0,i,hi,m,o,ho,hm=>by
  rw[Ax];simp only[EQ];rw[cF];rfl
 |n+1,i,hi,m,o,ho,hm=>by
  rw[Ax];simp only[EQ];rw[cT];have a:=rU hr hk c hn b (i:Int) r.length 0 (by omega) ho (by omega);simp only[List.drop_zero]at a;rw[show((0:Nat):Int)=0 from rfl]at a;rw[a];have d:=wQ b (i:Int) nd r;obtain⟨v,v1,v2⟩:=yV (b:=b) (KK b (i:Int) nd r) ho (by omega);have es:wR b nd r (n+1) i=KK b (i:Int) nd r++wR b nd r n (i+1):=rfl;rw[es,yW,v1]
  cases v with
  |none=>rfl
  |some o'=>
   rw[ad1];exact rQ hr hk c hn b n (i+1) (by omega) (v2 o' rfl)<|by omega
theorem s9 (d:Av) (b:Int) (X:List Ak) (hX:X.length<=100) (hd:0<=d.Seq/\d.Seq<=1000000001):∀(n i:Nat),i+n=X.length->∀{m:Nat} {o:MvS},MvI m o->m+n<=1000->o.1=d.Seq+i->
  Ai (λs:Int×List Block×List AF=>Ie d b X s.1 s.2.1 s.2.2) ((i:Int),o.2.2,o.2.1)=(mv b (X.drop i) o).map λq=>match q with
   |some o'=> .inl (o'.2.2,o'.2.1)
   |none=> .inr ([],false)
 |0,i,hi,m,o,ho,hm,hs=>by
  rw[Ax];simp only[Ie,JB];rw[cF,List.drop_of_length_le (by omega)];rfl
 |n+1,i,hi,m,o,ho,hm,hs=>by
  have a:i<X.length:=by omega
  have hx:=Ab a;rw[Ax];simp only[Ie,DL a,Ap,hx,Aa];rw[BZ,<-hs,AE a];have ep:Page.mk 1 o.1 X[i].Page.Tx 0 1 X[i].Page.Text=aQ o.1 X[i]:=rfl;rw[ep]
  rcases oZ (b:=b) (y:=X[i]) ho (by omega)with⟨s,g',a1,a2,a3,a4,a5⟩|⟨a1,⟨w,a2⟩,_⟩
  ·rw[a5,a3];rw[ad1];exact s9 d b X hX hd n (i+1) (by omega) a4 (by omega)<|by omega
  grind
theorem dD {x:Ak} (h:Fe d r) (hx:x∈r) (hy:y∈r) (hb:x.Block=y.Block) (hl:x.Leaf=y.Leaf):x=y:=by
 obtain⟨b,l,g1,g2,_,g3⟩:=h.scan.page x hx;obtain⟨b',l',k1,k2,_,k3⟩:=h.scan.page y hy;rw[hb,k1]at g1
 injection g1 with g1
 subst g1;rw[hl,k2]at g2
 injection g2 with g2
 subst g2;rw[k3]at g3
 injection g3 with g3
 cases x;cases y
 grind
theorem uP (h:Fe d r) (hy:y∈r):0<=y.Leaf/\y.Leaf<4:=by
 obtain⟨b,l,g1,g2,_,g3⟩:=h.scan.page y hy;obtain⟨_,k1⟩:=C0 g1;obtain⟨q0,k2⟩:=C0 g2;have:=(h.fl.blk b<|Ao k1).four
 grind
theorem ZO (h:Fe d r) (m:r.length<=40) {live:List Int} (l1:En d.Store=some live) (l2:asc live) (l3:∀x,x∈live↔DD (AT d.Store) x) (l4:live.length<=16777216) (b:Int):
  ∃v,mv b (Pg b (Co r live 1000000001) r) (d.Seq,[],d.Flash.Blocks)=some v/\GG d b=some (match v with|some o=>(o.2.1,true)|none=>([],false))/\LW d b=some (match v with|some o=>(o.2.1,true)|none=>([],false))/\
  (Pg b (Co r live 1000000001) r).length=(JQ r b live).length/\(Pg b (Co r live 1000000001) r).length<=4/\∀y,y∈Pg b (Co r live 1000000001) r↔y∈JQ r b live:=by
 have n:=h.pages;have w:1<=d.Seq/\d.Seq<=1000000001:=by
  rw[h.seq];have h1:=Mj r;refine⟨h1.2.1,h1.2.2 _ (by omega) λy hy=>?_⟩;have:=(n.seq y hy).2;omega
 have hk:∀y∈r,y.Page.Kind=1->y.Page.Count=1/\y.Page.Part=0:=by
  intro y hy k1;obtain⟨_,_,_,c1,c2,_,c3⟩:=ABx h hy;omega
 have hn:∀(j:Nat) y,r[j]?=some y->(Co r live 1000000001)[j]?=some true->y.Page.Kind=1:=λj y hy hj=>(YA h l3 hy hj).1
 have f:∀(j:Nat) y,r[j]?=some y->(Co r live 1000000001)[j]?=some true->Q5 y.Page.Tx r r.length=some j/\y.Page.Tx∈live:=by
  intro j y hy hj;rw[OG r live _ hy]at hj
  injection hj with hj
  rw[Hr]at hj
  rcases hj with hj|hj
  ·simp only[CB,Aj,G5,AZ]at hj;have:=(n.tx y<|Ao hy).2;omega
  grind [O3,IA]
 have hm:∀y,y∈Pg b (Co r live 1000000001) r↔y∈JQ r b live:=by
  intro y;have e1:y∈Pg b (Co r live 1000000001) r↔(∃j:Nat,r[j]?=some y/\(Co r live 1000000001)[j]?=some true)/\y.Block=b:=by
   unfold Pg;simp only[Az,Ye];constructor
   ·grind
   rintro⟨⟨j,q1,q2⟩,q3⟩;have:=uP h<|Ao q1
   grind
  rw[e1];constructor
  ·rintro⟨⟨j,q1,q2⟩,q3⟩;obtain⟨q4,q5⟩:=f j y q1 q2;refine List.mem_filterMap.2 ⟨y.Page.Tx,q5,?_⟩
   grind [bk]
  intro hy;obtain⟨c,c1,j,c2,c3,c4,c5,c6⟩:=RO hy;refine⟨⟨j,c3,?_⟩,c4⟩;rw[OG r live _ c3,Ay,Hr]
  grind
 have p:∀y∈JQ r b live,y∈r/\y.Block=b:=λy hy=>by grind [RO]
 have q:∀x∈JQ r b live,∀y∈JQ r b live,x.Leaf=y.Leaf->x=y:=λx hx y hy e=>dD h (p x hx).1 (p y hy).1 (by grind) e
 have t:∀i:Int,∀y∈KK b i (Co r live 1000000001) r,y∈r/\y.Block=b/\y.Leaf=i:=λi y hy=>by grind [Ye]
 have h3:∀i:Int,(KK b i (Co r live 1000000001) r).length<=1:=by
  intro i;have hd:=jP (λj y hy hj=>(f j y hy hj).1) b i
  rcases hc:KK b i (Co r live 1000000001) r with _|⟨x,_|⟨y,l⟩⟩
  ·exact K4 1
  ·exact A3 1
  have hx:=t i x (by rw[hc];simp);have hy:=t i y (by rw[hc];simp);rw[hc]at hd;exact absurd (dD h hx.1 hy.1 (by rw[hx.2.1,hy.2.1])<|by rw[hx.2.2,hy.2.2]) λe=>(Ca.1 hd).1 y (by simp)<|by rw[e]
 have z:(Pg b (Co r live 1000000001) r).length<=4:=by
  unfold Pg
  grind
 have h0:iF (Pg b (Co r live 1000000001) r):=by
  have hd:∀i:Int,iF (KK b i (Co r live 1000000001) r):=λi=>jP (λj y hy hj=>(f j y hy hj).1) b i
  have cross:∀i k:Int,i≠k->∀x∈KK b i (Co r live 1000000001) r,∀y∈KK b k (Co r live 1000000001) r,x.Page.Tx≠y.Page.Tx:=by grind [Ye]
  grind [Pg,iF]
 have a:Bx Bp (JQ r b live) (Pg b (Co r live 1000000001) r):=wU (cI r b<|eM l2) h0 (λy=>(hm y).symm) q;have u:=a.len;have g:srt Bp (Pg b (Co r live 1000000001) r):=by
  have hc:∀i:Int,srt Bp (KK b i (Co r live 1000000001) r):=by
   intro i
   refine List.pairwise_of_forall_mem_list λx hx y hy=>?_
   show x.Leaf<=y.Leaf
   grind
  have cross:∀i k:Int,i<=k->∀x∈KK b i (Co r live 1000000001) r,∀y∈KK b k (Co r live 1000000001) r,Bp x<=Bp y:=by
   intro i k h4 x hx y hy;show x.Leaf<=y.Leaf
   grind
  grind [Pg,srt]
 have I0:MvI 0 (d.Seq,[],d.Flash.Blocks):=⟨h.fl.cap,A3 _,by omega,by omega⟩;obtain⟨v,v1,v2⟩:=yV (b:=b) (Pg b (Co r live 1000000001) r) I0 (by omega);refine⟨v,v1,?_,?_,u.symm,z,hm⟩
 ·unfold GG;rw[h.scan.s,l1];simp only[Aa];rw[Jc r live _ h.scan.len l4];have h2:live.foldl (aR r) (r.map<|CB 1000000001)=Co r live 1000000001:=rfl;rw[h2];have ho:=rQ m hk (JA r live 1000000001) hn b 4 0 (by omega) I0 (by omega)
  grind [wR,Pg]
 unfold LW;rw[AAT h.scan (YY h.st l1) l4 b];simp only[Aa];obtain⟨X,x1,x2,x3⟩:=cK Bp (JQ r b live) (by omega);have hX:X=Pg b (Co r live 1000000001) r:=MX Bp x2 g (λk=>by rw[x3 k,<-a k]);rw[x1,hX];have ho:=s9 d b (Pg b (Co r live 1000000001) r) (by omega) ⟨by omega,w.2⟩ (Pg b (Co r live 1000000001) r).length 0 (by omega) I0 (by omega)<|by omega
 grind
theorem qC (s:Store) (hv:s.Vols.length<=1048576) (id:Int):∃w,CN s id=some w/\(w<0↔K3 (AT s) id=none):=by
 rcases Ex s hv id with⟨e,h⟩|⟨k,v,e,h1,h2,_⟩
 ·grind [Lf]
 grind [Lf]
theorem AAv (h:Fe d r) (hn:d.Store.Next<1000000000) (q:Oz):∃b text no,DQ d q=some (b,text,no)/\(b=[]\/∃x p,b=[x]/\CQ (AT d.Store) d.Store.Next x=some p)/\(L text≠ []->q.Kind=1):=by
 have n:=h.st.len;have f:=h.st.nx;obtain⟨v,a1,a2⟩:=V4 q
 have a:∀{P:Prop},L (bs [])≠ []->P:=λhh=>absurd (DH _) hh
 unfold DQ;rw[a1];simp only[Aa]
 cases v with
 |false=>exact⟨_,_,_,rfl,.inl rfl,a⟩
 |true=>
  have hq:=a2 rfl;simp only[An,Ad];have j:=hq.kind;obtain⟨w,hw,k⟩:=qC d.Store (by omega) q.Vol;rw[hw];simp only[Aa];by_cases h34:q.Kind=3\/q.Kind=4
  ·have:(cond (q.Kind==3) (some true) (some<|q.Kind==4):Option Bool)=some true:=by grind
   rw[this];simp only[Aa,Al];by_cases g:w<0
   ·rw[Ah (by omega:¬w>=0)];simp only[Ad];obtain⟨u,hu,o⟩:=qC d.Store (by omega) q.Of;obtain⟨j2,l,s⟩:∃j2,(cond (q.Kind==4) ((CN d.Store q.Of).bind λv3=>some<|decide<|v3<0) (some false):Option Bool)=some j2/\(j2=false->q.Kind=4->K3 (AT d.Store) q.Of≠none):=by grind
    rw[l];simp only[Aa]
    cases j2 with
    |true=>exact⟨_,_,_,rfl,.inl rfl,a⟩
    |false=>
     simp only[Ad];rw[Bh];by_cases i:(d.Store.Vols.length:Int)>=3
     ·rw[Ac i];exact⟨_,_,_,rfl,.inl rfl,a⟩
     rw[Ah i];refine⟨_,_,_,rfl,.inr ⟨_,(pC (AT d.Store) q.Vol (if 0<q.Of then(K3 (AT d.Store) q.Of).getD SD else SD),d.Store.Next),rfl,?_⟩,a⟩;unfold CQ;rw[Bi (by rw[ACz hq.vol hq.of_];simp),Bi (by simp),BE rfl,Bi];simp only[not_or];refine⟨?_,by grind,by rw[IW];omega⟩;rintro⟨e1,e2⟩
     rcases h34 with e|e
     ·have:=hq.no (by omega);omega
     grind
   rw[Ac (by omega:w>=0)];exact⟨_,_,_,rfl,.inl rfl,a⟩
  have:(cond (q.Kind==3) (some true) (some<|q.Kind==4):Option Bool)=some false:=by grind
  rw[this];simp only[Aa,Ad];by_cases g:w<0
  ·rw[Ah (by omega:¬w>=0)];exact⟨_,_,_,rfl,.inl rfl,a⟩
  rw[Ac (by omega:w>=0)]
  have hg:K3 (AT d.Store) q.Vol≠none:=λe=>g<|k.2 e
  have taken:∀x:Ch,FM x=true->x.Kind≠1->x.Kind≠2->x.Vol=q.Vol->x.Chunk<1000000000->∃p,CQ (AT d.Store) d.Store.Next x=some p:=by
   intro x x1 x2 x3 x4 x5;unfold CQ;have x6:¬(K3 (AT d.Store) x.Vol=none\/x.Chunk=1000000000):=by grind
   rw[Bi (by rw[x1];simp),Bi x2,Bi x3,Bi x6];split<;>exact⟨_,rfl⟩
  simp only[An,Ad]
  cases k1:(q.Kind==1)with
  |true=>
   simp only[Al];have k1':q.Kind=1:=by simpa using k1
   obtain⟨live,l1,l2,l3,l4⟩:=FV h.st;obtain⟨c,f1,f2⟩:=Qq h l4 q.Text;rw[l1,Aa,f1];simp only[Aa]
   rcases f2 with⟨rfl,f2⟩|⟨f2,f3⟩
   ·obtain⟨z,z1,z2,z3⟩:=m6 q.Text hq.text;rw[show((0:Int)==0)=true from rfl,z1];obtain⟨p,hp⟩:=taken (Ch.mk 4 q.Vol q.Sector d.Store.Next) (xY hq.vol (by have:=hq.sec;omega) ⟨f.1,f.2⟩) (by simp) (by simp) rfl hn;exact⟨_,_,_,rfl,.inr ⟨_,_,rfl,hp⟩,λ_=>k1'⟩
   have m:=(l3 c).1 f2;have t:=X1 h.st m;rw[show(c==0)=false by grind];obtain⟨p,hp⟩:=taken (Ch.mk 4 q.Vol q.Sector c) (xY hq.vol (by have:=hq.sec;omega)<|by omega) (by simp) (by simp) rfl (by show c<_;omega);exact⟨_,_,_,rfl,.inr ⟨_,_,rfl,hp⟩,λ_=>k1'⟩
  |false=>
   simp only[Ad]
   cases k2:(q.Kind==2)with
   |true=>
    obtain⟨p,hp⟩:=taken (Ch.mk 5 q.Vol q.Sector 0) (by
     have:=hq.vol;have:=hq.sec
     grind [FM]) (by simp) (by simp) rfl<|by grind
    exact⟨_,_,_,rfl,.inr ⟨_,_,rfl,hp⟩,a⟩
   |false=>
    simp only[Ad]
    cases k5:(q.Kind==5)with
    |true=>
     obtain⟨p,hp⟩:=taken (Ch.mk 3 q.Vol 0 0) (by
      have:=hq.vol
      grind [FM]) (by simp) (by simp) rfl<|by grind
     exact⟨_,_,_,rfl,.inr ⟨_,_,rfl,hp⟩,a⟩
    |false=>exact⟨_,_,_,rfl,.inl rfl,a⟩
theorem vU (h:AX f):Ol f<=10000:=by
 have hl:∀l:List Leaf,(∀x∈l,lfP x)->(l.map XH).sum<=120*l.length:=by
  intro l
  induction l with
  |nil=>intro _;simp
  |cons x l ih=>
   intro hx;rw[CJ,EV,AD];have:=ih (λy hy=>hx y<|by simp[hy]);have h1:XH x<=120:=by
    have a:x.Text.size=(L x.Text).length:=by rfl
    unfold XH
    rcases hx x (by simp)with⟨_,e⟩|⟨_,_,e⟩|⟨_,e⟩
    ·grind
    ·omega
    omega
   omega
 have hb:∀l:List Block,(∀b∈l,IB b)->(l.map Mh).sum<=500*l.length:=by
  intro l
  induction l with
  |nil=>intro _;simp
  |cons b l ih=>
   intro hx;rw[CJ,EV,AD];have:=ih (λy hy=>hx y<|by simp[hy]);have h1:=hx b (by simp);have h2:=hl b.Leaves h1.leaf;have h4:=h1.four;have hz:Mh b=b.Leaves.length+(b.Leaves.map XH).sum:=rfl;omega
 have:=hb f.Blocks h.blk;have hn:=h.n;unfold Ol zl;omega
theorem tO (hf:AX d.Flash) (hs:Cj d.Store):Pa d<=1048576:=by
 have h1:=vU hf;have h2:=hs.len;have h3:=hs.small;have a:∀l:List Ba,(∀k∈l,k.Kids.length=4)->(l.map Wj).sum=4*l.length:=by
  intro l
  induction l with
  |nil=>intro _;rfl
  |cons k l ih=>grind [Wj]
 have h4:=a d.Store.Arena.Knots (λk hk=>by
  obtain⟨i,hi,rfl⟩:=Au hk;have:=(FZ.1 hs.ar i hi).1
  grind [OK])
 have e1:Mg d.Store=d.Store.Vols.length+(d.Store.Arena.Knots.length+(d.Store.Arena.Knots.map Wj).sum):=rfl
 grind [Pa]
theorem bT (h:Fe d r):Pa d<=1048576:=tO h.fl h.st
theorem nQ (s:Store) (hv:s.Vols.length<=1048576) (ha:Qk s.Arena):∃l,KV s=some l/\PX s=some l/\l.length<=1+17*s.Vols.length:=by
 unfold KV PX;obtain⟨l,h1,h2,h3⟩:=HQ (body:=λq:List Ch×Int=>Ef s q.1 q.2) (body':=λq:List Ch×Int=>IU s q.1 q.2) (λ(l:List Ch) i=>(l,i)) s.Vols.length (λi l=>l.length<=1+17*i) (λl=>l.length<=1+17*s.Vols.length)
  (λl i hi hl=>by
   have hg:s.Vols[i]?=some s.Vols[i]:=Ab hi;obtain⟨a,a1,a2,a3⟩:=RK s.Arena ha s.Vols[i].Root;have b:ap 32 l [Ch.mk 2 s.Vols[i].Id 0 0]=some (l++ [Ch.mk 2 s.Vols[i].Id 0 0]):=Bw (by grind);simp only[Ef,IU,DL hi,Ap,hg,Aa,b,a1,a2];obtain⟨u,u1,u2,u3⟩:=HQ (body:=λq:List Ch×Int=>EH s (i:Int) a q.1 q.2) (body':=λq:List Ch×Int=>IT s.Vols[i] a q.1 q.2) (λ(l:List Ch) k=>(l,k)) a.length (λk o=>o.length<=l.length+1+k) (λo=>o.length<=l.length+17)
    (λo k hk ho=>by
     have c:a[k]?=some a[k]:=Ab hk
     grind [Ap,ad1,Bw,EH,IT])
    (λo ho=>⟨by simp[Dx,EH,IT],o,by simp[Dx,EH],by omega⟩) (s:=l++ [Ch.mk 2 s.Vols[i].Id 0 0]) (by simp)
   grind [ad1])
  (λl hl=>⟨by simp[Dx,Ef,IU],l,by simp[Dx,Ef],hl⟩) (s:=[Ch.mk 1 0 s.Next 0]) (by simp)
 grind
theorem nO (h:Fe d r):∃st ok,J7 d=some (st,ok)/\Ob d=some (st,ok)/\(ok=true->1<=st.length)/\st.length<=1048576:=by
 have hf:Jo d.Flash:=h.fl.cap;obtain⟨a,r1,r2,r3⟩:=nQ d.Store (by have:=h.st.len;omega)<|iG h.st;have hb:=h.st.vs;obtain⟨b1,b2⟩:=We hb;have e:=Pr h.st;rw[r1]at e
 injection e with e
 subst e;obtain⟨st,ok,w1,w2,w3⟩:=Ow d hf (H1 (AT d.Store) d.Store.Next) (by omega)<|bs [];refine⟨st,ok,?_,?_,?_,by omega⟩
 ·unfold J7;grind
 ·unfold Ob;grind
 intro ho;subst ho
 rcases iQ h.fl h.seqs (H1 (AT d.Store) d.Store.Next) (by unfold H1;simp) b2 b1 (bs [])with w|⟨steps,T,g,b,q1,q2,q3,q4,q5,q6,q7,q8,q9⟩
 ·grind
 rw[w1]at q2
 injection q2 with q2
 injection q2 with q2 _
 subst q2;have c:=(DJ q7).2
 grind [Bz]
theorem VN (x a b:Int):Gd x a b=some (decide (a<=x/\x<=b)):=by
 unfold Gd
 grind
theorem Md (h:l.length<=1048576):HT l=some l:=by grind [Lk,HT]
theorem Ry (a:Arena) (h:AAi a.Knots):HV a=some a:=by
 unfold HV;have q:=UG (body:=λs:Int×List Ba=>HU a s.1 s.2) a.Knots (λk=>k)
  (λi x b hx ho=>by
   have hi:=(Ae.1 hx).1;have hk:=h.2 x<|Ao hx;simp only[HU,DL hi,Ap,hx,Aa];rw[Md hk];simp only[Aa];have:=h.1;rw[Bw (by simp;omega),ad1]
   rfl)
  (λb=>by simp[Dx,HU])
 rw[q];simp
theorem Nr (s:Store) (h:AAi s.Arena.Knots) (hv:s.Vols.length<=1048576):GI s=some s:=by
 unfold GI;rw[Lk (by omega),Ry _ h];rfl
theorem PY (a:Arena) (ha:a.Knots.length<=1048576):Iz a=some (C7 a.Knots):=by grind [Vo,Kb]
theorem Rt (a:Arena) (ha:a.Knots.length<=1048576) (r:Int):Gw a r=some (decide (0<=r/\r<(a.Knots.length:Int))&&!(BD a.Knots r).Leaf):=by
 unfold Gw;rw[VN,Bh,BL]
 grind [Hz]
theorem lA {a:Arena} {r:Int} (ha:a.Knots.length<=1048576) (hr:Dh a.Knots r=true):(cond (r !=(-1)) ((Gw a r).bind λv2=>some (!v2)) (some false):Option Bool)=some false:=by grind [BH,Rt]
theorem pI {r:Int} {s:Nat} (a:Arena) (ha:a.Knots.length<=1048000) (hK:C7 a.Knots=true) (hr:Dh a.Knots r=true) (hs:s<16) (hn:0<=n):
  X6 a r (s:Int) n=some (Arena.mk (JK a.Knots r s n),(a.Knots.length:Int)+1):=by
 unfold X6;rw[Ry _ (Ky hK<|by omega),PY a (by omega),VN,hK];rw[Ac (by omega:0<=(s:Int)/\(s:Int)<=15),Ah (by omega:¬n<0)];simp only[An,Ad,Aa];have hq:(cond (r !=(-1)) ((Gw a r).bind λv2=>cond (!v2) (some true)<|some false) (some false):Option Bool)=some false:=by grind [BH,Rt]
 rw[hq,mk4];simp only[Aa,Ad];have fin:∀(lf tp:List Int),lf.length=4->tp.length=4->JK a.Knots r s n=a.Knots++ [Ba.mk true<|lf.set (s %4) n,Ba.mk false<|tp.set (s/4) (a.Knots.length:Int)]->
   ((gi lf<|Int.tmod (s:Int) 4).bind λx4=>(gi tp<|qu (s:Int) 4).bind λx5=>(ap 32 a.Knots [Ba.mk true<|si lf (Int.tmod (s:Int) 4) n,Ba.mk false<|si tp (qu (s:Int) 4)<|ln a.Knots]).bind λq2=>some (Arena.mk q2,ad (ln a.Knots) 1))=some (Arena.mk<|JK a.Knots r s n,(a.Knots.length:Int)+1):=by
  intro lf tp h1 h2 h3;rw[qu4 hs,wA,Ap,Ap,Ab (by omega),Ab (by omega),Aa,Bw (by simp;omega),Ew,Ew,Bh,<-h3,ad1];rfl
 rcases BH hr with rfl|⟨h0,h1,hl⟩
 ·rw[Ah (by omega:¬(-1:Int)>=0)];simp only[Ad,Aa];have hx:gi [(-1:Int),-1,-1,-1] (qu (s:Int) 4)=some (-1):=by
   rw[qu4 hs,Ap]
   grind
  rw[hx,Aa,Ah (by omega:¬(-1:Int)>=0)];have:=fin [0,0,0,0] [-1,-1,-1,-1] rfl rfl rfl
  grind
 rw[cT,Hz h0 h1];have h4:=(ES hK h0 h1).1;rw[Aa,Md<|by omega];simp only[Aa];have hx:gi (BD a.Knots r).Kids (qu (s:Int) 4)=some (Oy (BD a.Knots r)<|s/4):=by rw[qu4 hs,mB (by omega:s/4<(BD a.Knots r).Kids.length)]
 rw[hx];simp only[Aa]
 rcases FN hK h0 h1 hl (show s/4<4 by omega)with e|⟨e1,e2,e3⟩
 ·grind [JK,Qv,TU]
 rw[cT,Hz e1<|by omega]
 grind [ES,Md,JK,Qv,TU]
theorem X9 (l:List Int) (n:Int) (hl:l.length<=1048576):Nq l n=some (l.contains n):=by
 unfold Nq;obtain⟨b,h1,h2⟩:=AA (body:=λs:Int=>LT l n s) (λ(_:Unit) i=>i) l.length (λi _=>n∉l.take i) (λb=>(b= .inr true/\n∈l)\/(b= .inl ()/\n∉l))
  (λ_ i hi hs=>by
   have hx:=Ab hi;simp only[LT,DL hi,Ap,hx,Aa];rw[ad1]
   cases e:(l[i]==n)with
   |true=>grind
   |false=>
    refine .inl ⟨(),by rfl,?_⟩
    grind [Af])
  (λ_ hs=>⟨.inl (),by simp[Dx,LT],.inr ⟨rfl,by grind⟩⟩) (s:=()) (by simp)
 grind
theorem UM {r:Int} (a:Arena) (ha:a.Knots.length<=1048000) (hK:C7 a.Knots=true) (hr:Dh a.Knots r=true):∃l,OL a r=some l/\l.length<=5/\∀i:Nat,(i:Int)∈l↔N3 a.Knots r i=true:=by
 unfold OL;rw[Rt a<|by omega]
 rcases BH hr with rfl|⟨h0,h1,hl⟩
 ·simp[N3]
 rw[Ac ⟨h0,h1⟩,hl,Hz h0 h1];simp only[BK,Bool.and_self,An,Ad,Aa];obtain⟨h4,hk⟩:=ES hK h0 h1;obtain⟨l,q1,q2,q3⟩:=AA (body:=λs:List Int×Int=>Ki a (BD a.Knots r) s.1 s.2) (λ(o:List Int) i=>(o,i)) (BD a.Knots r).Kids.length
  (λi o=>o.length<=1+i/\∀n:Nat,(n:Int)∈o↔(r=(n:Int)\/(n:Int)∈(BD a.Knots r).Kids.take i)) (λo=>o.length<=5/\∀n:Nat,(n:Int)∈o↔(r=(n:Int)\/(n:Int)∈(BD a.Knots r).Kids))
  (λo i hi ho=>by
   have hx:=Ab hi;have et:(BD a.Knots r).Kids.take (i+1)=(BD a.Knots r).Kids.take i++ [(BD a.Knots r).Kids[i]]:=Af hi;refine .inl ?_;simp only[Ki,DL hi,Ap,hx,Aa];rw[VN,Bh,BL,ad1];simp only[Aa];have b:(BD a.Knots r).Kids[i]=Oy (BD a.Knots r) i:=by grind
   rcases FN hK h0 h1 hl (show i<4 by omega)with e|⟨e1,e2,e3⟩
   ·grind
   rw[cT,X9 o _<|by omega];simp only[Aa]
   cases hc:o.contains (BD a.Knots r).Kids[i]with
   |true=>
    grind
   |false=>
    rw[Bw (by simp;omega)];refine⟨_,rfl,by simp;omega,λn=>?_⟩
    grind)
  (λo ho=>⟨o,by simp[Dx,Ki],by have:=ho.1;omega,by grind⟩) (s:=[r]) ⟨by simp,λn=>by simp[eq_comm]⟩
 grind [N3]
theorem bE (hr:Fk r):∃l,Ai (λs:List Int×Int=>JH r s.1 s.2) ([],0)=some l/\l.Nodup/\(∀x,x∈l↔∃y∈r,y.Page.Kind=2/\y.Page.Tx=x)/\l.length<=r.length:=by
 have a:=hr.len;obtain⟨l,h1,h2,h3,h4⟩:=AA (body:=λs:List Int×Int=>JH r s.1 s.2) (λ(o:List Int) i=>(o,i)) r.length (λi o=>o.Nodup/\(∀x,x∈o↔∃y∈r.take i,y.Page.Kind=2/\y.Page.Tx=x)/\o.length<=i) (λo=>o.Nodup/\(∀x,x∈o↔∃y∈r,y.Page.Kind=2/\y.Page.Tx=x)/\o.length<=r.length)
  (λo i hi ho=>by
   have hx:=Ab hi;have et:r.take (i+1)=r.take i++ [r[i]]:=by simp
   refine .inl ?_;simp only[JH,DL hi,Ap,hx,Aa];rw[ad1,X9 o _<|by omega]
   cases hk:(r[i].Page.Kind==2)with
   |false=>grind
   |true=>
    cases hc:o.contains r[i].Page.Tx with
    |true=>grind
    |false=>
     rw[Bw<|by grind];refine⟨_,rfl,?_,λx=>?_,by simp;omega⟩
     ·grind
     grind)
  (λo ho=>⟨o,by simp[Dx,JH],by grind⟩) (s:=[]) ⟨Ds,by simp,by simp⟩
 grind
theorem tT (hr:Fk r) (h1:l.Nodup) (h2:∀x,x∈l↔∃y∈r,y.Page.Kind=2/\y.Page.Tx=x):S7 l=D0 r:=by
 obtain⟨n1,n2,n3⟩:=Fx r λy hy=>(hr.tx y hy).1;refine Vf ?_ n1 λx=>?_
 ·have hs:(S7 l).Pairwise λx y=>x<=y:=by grind [List.pairwise_mergeSort,S7]
  have hd:(S7 l).Nodup:=by grind [List.mergeSort_perm,S7]
  unfold asc;exact(hs.and hd).imp (λh=>by omega)
 simp_all [S7]
theorem cX (t:ByteArray) (ht:(L t).length<=20000):∀(n a:Nat) (c:List Ch),(L t).length-a<=n->a<=(L t).length->c.length<=a->Ai (λs:List Ch×Int=>L5 t s.1 s.2) (c,(a:Int))=Ai (λs:List Ch×ByteArray×Int×Bool=>Ea t s.1 s.2.1 s.2.2.1 s.2.2.2) (c,t,(a:Int),false)
 |n,a,c,hn,ha,ho=>by
  rw[Ax,Ax];simp only[Ea,L5];rw[Bo];by_cases d:a<(L t).length
  ·rw[Ac (by omega:(a:Int)<((L t).length:Int))];rw[E8 t d,ad1];obtain⟨r1,a1,a2,a3⟩:=Ii t ((a+1:Nat):Int) (by omega) ⟨by omega,by omega⟩;have f:oI r1.2.1:=by
    rcases a3 with⟨_,_,e⟩|⟨_,_,b,_,_,e,_,_,e2,_⟩
    ·rw[e];exact⟨by omega,by omega⟩
    rw[e];exact⟨by omega,by omega⟩
   obtain⟨r2,b1,b2,b3⟩:=Ii t r1.2.1 (by omega) f;rw[a2,Aa,b2];have l1:CY (E4.mk t ((a+1:Nat):Int) false)=some (if r1.2.2=true then(r1.1,E4.mk t r1.2.1 false)else(0,E4.mk t ((a+1:Nat):Int) true)):=by grind [CY]
   rw[l1]
   cases h1:r1.2.2 with
   |false=>grind [CY]
   |true=>
    simp only[CC,Aa,An,Ad];have l2:CY (E4.mk t r1.2.1 false)=some (if r2.2.2=true then(r2.1,E4.mk t r2.2.1 false)else(0,E4.mk t r1.2.1 true)):=by grind [CY]
    rw[l2]
    cases h2:r2.2.2 with
    |false=>rfl
    |true=>
     simp only[CC,Aa,An,Ad];obtain⟨v,c1,c2,_⟩:=ZJ<|Ch.mk (qu (IntKind.i64.wrap ((L t)[a].toNat:Int)) 16) (Int.tmod (IntKind.i64.wrap ((L t)[a].toNat:Int)) 16) r1.1 r2.1;rw[c1,c2];simp only[Aa]
     cases v with
     |false=>rfl
     |true=>
      rw[Bw (by simp;omega)]
      rcases b3 with⟨e,_⟩|⟨_,aa,b,m,k1,k2,k3,k4,k5,_⟩
      ·grind
      rcases a3 with⟨e,_⟩|⟨_,aa',b',m',p1,p2,p3,p4,p5,_⟩
      ·grind
      rw[k2]
      match n,hn with
      |n+1,hn=>exact cX t ht n b _ (by omega) k5 (by simp;omega)
      |0,hn=>omega
  grind
theorem bB (t:ByteArray) (ht:(L t).length<=20000):PL t=HJ t:=by
 have h:=cX t ht (L t).length 0 [] (by omega) (by omega)<|by simp
 grind [PL,HJ]
def ADm:Page:=Page.mk 0 0 0 0 0<|bs []
theorem dQ (r:List Ak) (hl:r.length<=1048576) (t a c:Int) (h:(a=0/\c=0)\/(0<a/\0<c)):Rs r t a c=some (match RB r t a c with|some y=>(y.Page,true)|none=>(ADm,false)):=by
 have hp:∀y:Ak,(cond (y.Page.Kind==2) (cond (y.Page.Tx==t) (cond (y.Page.Part==a) (cond (c==0) (some true)<|some<|y.Page.Count==c)<|some false)<|some false) (some false):Option Bool)=some (nR t a c y):=by grind [nR]
 unfold Rs;obtain⟨b,h1,h2⟩:=AA (body:=λs:Int=>LS r t a c s) (λ(_:Unit) i=>i) r.length (λi _=>∀(j:Nat) x,j<i->r[j]?=some x->nR t a c x=false) (λb=>match RB r t a c with|some y=>b= .inr (y.Page,true)|none=>b= .inl ())
  (λ_ i hi hs=>by
   have hx:=Ab hi;simp only[LS,DL hi,Ap,hx,Aa];rw[hp,ad1]
   cases e:nR t a c r[i]with
   |true=>grind [iE,RB]
   |false=>
    refine .inl ⟨(),by rfl,λj x hj d=>?_⟩
    grind)
  (λ_ hs=>⟨.inl (),by simp[Dx,LS],by grind [tB,RB]⟩) (s:=()) (λj x hj=>by omega)
 rw[h1]
 cases hf:RB r t a c with
 |none=>rw[hf]at h2;simp only at h2;rw[h2];rfl
 |some y=>grind
theorem zT (r:List Ak) (hr:Fk r) (t:Int) (v:Page×Bool) (hv:1<=v.1.Count/\v.1.Count<=9):∀(n:Nat) (a:Int) (text:ByteArray) (seq:Int),a+n=11->1<=a->a<=v.1.Count->(L text).length<=90*a.toNat->
  ∃b,Ai (λs:ByteArray×Int×Int=>Lz r t v s.1 s.2.1 s.2.2) (text,seq,a)=some b/\(match parts r t n a v.1.Count (L text) seq with
   |none=>b= .inr (Tx.mk 0 0 [],false)
   |some (x,q)=>∃u,b= .inl (u,q)/\L u=x/\(L u).length<=1000)
 |0,a,text,seq,hn,h1,hc,ht=>by omega
 |n+1,a,text,seq,hn,h1,hc,ht=>by
  rw[Ax];simp only[Lz,parts];by_cases e:a<v.1.Count
  ·rw[Ac e,BE (.inr e)];rw[dQ r hr.len t a v.1.Count (.inr ⟨by omega,by omega⟩)];simp only[Aa]
   cases hf:RB r t a v.1.Count with
   |none=>grind
   |some y=>
    simp only[An,Ad];have hy:=RA hf;have d:=hr.text y hy.1;have c:=sS hy.2 (by omega);rw[G0 text y.Page.Text (by omega),Aa,BZ,c];have es:Rl a seq y=(if y.Page.Seq<seq then y.Page.Seq else seq):=by grind [Rl]
    rw[es,<-GN];exact zT r hr t v hv n (a+1) _ _ (by omega) (by omega) (by omega)<|by grind [GN]
  simp_all [Ah];grind
theorem gM (r:List Ak) (hr:Fk r) (t:Int):∃x ok,PA r t=some (x,ok)/\Je r t=(if ok=true then some x else none)/\x.Recs.length<=20000:=by
 unfold PA Je;rw[dQ r hr.len t 0 0<|.inl ⟨rfl,rfl⟩];simp only[Aa]
 have a:parts r t 11 0 0 [] 0=(match RB r t 0 0 with
  |none=>none
  |some y=>parts r t 10 1 y.Page.Count (L y.Page.Text) y.Page.Seq):=by rfl
 rw[a]
 cases hf:RB r t 0 0 with
 |none=>simp
 |some y=>
  simp only[An,Ad];have hy:=RA hf;have c:=hr.text y hy.1;have hc:=hr.cnt y hy.1;obtain⟨b,h1,h2⟩:=zT r hr t (y.Page,true) hc 10 1 y.Page.Text y.Page.Seq (by omega) (by omega) hc.1 (by omega);rw[h1];simp only[Aa]
  cases hp:parts r t 10 1 y.Page.Count (L y.Page.Text) y.Page.Seq with
  |none=>grind
  |some w=>
   obtain⟨x,q⟩:=w;rw[hp]at h2;obtain⟨u,rfl,rfl,h4⟩:=h2;simp only[Df];obtain⟨l,ok,r1,r2,r3⟩:=ZK u (by omega);rw[bB u (by omega),r1,ADP,r2];simp_all;grind
theorem WA (r:List Ak) (hr:Fk r):R4 r=some (A6 r):=by
 have c:=hr.len;have a:=Fx r λy hy=>(hr.tx y hy).1;obtain⟨l,l1,l2,l3,l4⟩:=bE hr;unfold R4;rw[l1];simp only[Aa];unfold Ui;rw[BE (by omega),tT hr l2 l3];simp only[Aa];obtain⟨b,h1,h2⟩:=AA (body:=λs:List Tx×Int=>LY r (D0 r) s.1 s.2) (λ(o:List Tx) i=>(o,i)) (D0 r).length (λi o=>o=((D0 r).take i).filterMap (Je r)) (λb=>b=A6 r)
  (λo i hi ho=>by
   have hx:=Ab hi;have et:(D0 r).take (i+1)=(D0 r).take i++ [(D0 r)[i]]:=Af hi;simp only[LY,DL hi,Ap,hx,Aa];rw[ad1];obtain⟨z,ok,k1,k2,k3⟩:=gM r hr (D0 r)[i]
   grind [Bw])
  (λo ho=>⟨o,by simp[Dx,LY],by rw[ho,D1];rfl⟩) (s:=[]) rfl
 grind
theorem dW (x:Tx):Ru x=some (X3 x):=by grind [Bh,Ru,X3,gi]
theorem qA (h:Fe d r):NW d=H7 d:=by
 have hr:=h.pages;unfold NW H7
 cases(d.Base !=sb d.Tx 1)with
 |true=>rfl
 |false=>
  rw[h.scan.s,h.scan.i];simp only[Aa];rw[LK r hr,WA r hr];simp only[Aa];have hb:(λs:Int=>Kk d (A6 r) s)=(λs:Int=>D4 d (A6 r) s):=by
   funext s;simp only[Kk,D4]
   cases decide (s<ln (A6 r))with
   |false=>rfl
   |true=>
    cases hg:gi (A6 r) s with
    |none=>rfl
    |some x=>simp_all [dW,Bh,X3,gi];grind
  rw[hb]
theorem bK (h:Fe d r):PD d=HE d:=by
 have hn:=h.fl.n;obtain⟨live,l1,l2,l3,l4⟩:=FV h.st;unfold HE PD;rw[h.scan.s,l1];simp only[Aa];rw[Jc r live d.Base h.scan.len l4,Jc r live 1000000000 h.scan.len l4];simp only[Aa]
 have c:∀b,live.foldl (aR r) (r.map<|CB b)=Co r live b:=λ_=>rfl
 rw[c,c]
 have hi:∀b:Block,JG b=EG b:=λ_=>rfl
 have step:∀(o:Int×Int) (i:Nat),i<d.Flash.Blocks.length->Hl d o.1 o.2 (i:Int)=C3 d r (Co r live d.Base) (Co r live 1000000000) o.1 o.2 (i:Int)/\∃o':Int×Int,C3 d r (Co r live d.Base) (Co r live 1000000000) o.1 o.2 (i:Int)=some (.inl (o'.1,o'.2,((i+1:Nat):Int))):=by
  intro o i a;have hx:=Ab a;have hP:=h.fl.blk _<|Ar a;have e:Fj d.Flash.Blocks[i].Leaves<=4:=by have:=VE d.Flash.Blocks[i].Leaves;rw[hP.four]at this;exact this
  simp only[C3,Hl,DL a,Ap,hx,Aa];rw[SH r _ (i:Int) h.scan.len<|JA _ _ _,SH r _ (i:Int) h.scan.len<|JA _ _ _,hi,HK _ hP.four,ad1,(nE h l1 l2 l4 1000000000 (i:Int)).2,(nE h l1 l2 l4 d.Base (i:Int)).2];generalize cn r.length (λj=>(Co r live d.Base)[j]?.getD false&&bk r (i:Int) j)=A;generalize cn r.length (λj=>(Co r live 1000000000)[j]?.getD false&&bk r (i:Int) j)=C;simp only[Aa]
  cases d.Flash.Blocks[i].Bad with
  |true=>grind
  |false=>
   simp only[BK,Al,Ad,Aa];by_cases q:Fj d.Flash.Blocks[i].Leaves=4
   ·rw[Ah (by omega:¬((Fj d.Flash.Blocks[i].Leaves:Nat):Int)<4),show(((Fj d.Flash.Blocks[i].Leaves:Nat):Int)==4)=true by simp;omega];simp_all;grind
   grind
 obtain⟨v,e1,e2,_⟩:=HQ (body:=λs:Int×Int×Int=>C3 d r (Co r live d.Base) (Co r live 1000000000) s.1 s.2.1 s.2.2) (body':=λs:Int×Int×Int=>Hl d s.1 s.2.1 s.2.2) (λ(o:Int×Int) i=>(o.1,o.2,i)) d.Flash.Blocks.length (λ_ _=>True) (λ_=>True)
  (λo i a _=>by simp_all)
  (λo _=>⟨by simp[Dx,C3,Hl],o.1,by simp[Dx,C3],trivial⟩) (s:=(-1,4)) trivial
 grind
theorem bR (h:G9 d r):PV d=GS d:=by
 obtain⟨l,d1,d2,_⟩:=bQ d<|bT h.dev;obtain⟨st,ok,b1,b2,_⟩:=nO h.dev;obtain⟨live,l1,l2,l3,l4⟩:=FV h.dev.st
 have hm:∀b,LW d b=GG d b:=λb=>by
  obtain⟨v,_,v2,v3,_⟩:=ZO h.dev h.few l1 l2 l3 l4 b;rw[v2,v3]
 unfold PV GS;rw[d1,d2,qA h.dev,bK h.dev,b1,b2]
 grind
theorem Yk (h:Fe d r) (vol k:Int):LH d vol k=(Gm r d.Store vol k):=by
 unfold LH;rw[h.scan.s];simp only[Aa];cases Gm r d.Store vol k<;>rfl
theorem gT (a:Arena) (ha:a.Knots.length<=1048000) (hK:C7 a.Knots=true) (R:List Int) (hc:R.length<=1000) (hR:∀r∈R,Dh a.Knots r=true) (v:List Int):∃l,Ai (λs:List Int×Int=>F5 a R v s.1 s.2) ([],0)=some (.inl l)/\l.length<=5000/\∀i:Nat,(i:Int)∈l↔C8 a.Knots R i=true:=by
 obtain⟨b,h1,l,rfl,h3,h4⟩:=AA (body:=λs:List Int×Int=>F5 a R v s.1 s.2) (λ(o:List Int) i=>(o,i)) R.length (λi o=>o.length<=5*i/\∀n:Nat,(n:Int)∈o↔C8 a.Knots (R.take i) n=true) (λb=>∃l,b= .inl l/\l.length<=5000/\∀i:Nat,(i:Int)∈l↔C8 a.Knots R i=true)
  (λo i hi ho=>by
   obtain⟨o1,o2⟩:=ho;have hx:=Ab hi;have hr:=hR _<|Ar hi;obtain⟨m,m1,m2,m3⟩:=UM a ha hK hr;simp only[F5,DL hi,Ap,hx,Aa];rw[lA (by omega) hr];simp only[Aa,Ad];rw[m1,Aa,Bw (by omega),ad1]
   simp_all [TY,C8];grind)
  (λo ho=>⟨_,by simp[Dx,F5],o,rfl,by have:=ho.1;omega,by grind⟩) (s:=[]) ⟨by simp,λn=>by simp[C8]⟩
 grind
theorem aV (a:Arena) (ha:a.Knots.length<=1048000) (hK:C7 a.Knots=true) (R:List Int) (hR:∀r∈R,Dh a.Knots r=true) (l:List Int) (z:l.length<=5000) (hl:∀i:Nat,(i:Int)∈l↔C8 a.Knots R i=true):
  Ai (λs:List Int×Int×List Ba=>Fz a l s.1 s.2.1 s.2.2) (List.replicate a.Knots.length 0,0,[])=some (TJ a.Knots R a.Knots.length,TZ a.Knots R):=by
 have h:∀i:Nat,l.contains (i:Int)=C8 a.Knots R i:=λi=>by grind
 obtain⟨b,h1,h2⟩:=AA (body:=λs:List Int×Int×List Ba=>Fz a l s.1 s.2.1 s.2.2) (λ(o:List Int×List Ba) i=>(o.1,i,o.2)) a.Knots.length
  (λi o=>o=(TJ a.Knots R i,((List.range i).filter<|C8 a.Knots R).map<|XY a.Knots R)) (λb=>b=(TJ a.Knots R a.Knots.length,TZ a.Knots R))
  (λo i hi ho=>by
   subst ho;have h0:(0:Int)<=(i:Int):=by omega
   have f:(i:Int)<(a.Knots.length:Int):=by omega
   simp only[Fz,DL hi];rw[Hz h0 f,X9 l _ (by omega),h];simp only[Aa]
   cases hu:C8 a.Knots R i with
   |false=>
    rw[ad1];refine .inl ⟨(TJ a.Knots R i,((List.range i).filter<|C8 a.Knots R).map<|XY a.Knots R),rfl,?_⟩;simp_all [DM,TJ];grind
   |true=>
    obtain⟨h4,hk⟩:=ES hK h0 f;have n:gi (TJ a.Knots R i) (i:Int)=some 0:=by grind [Ap,TJ]
    rw[n,Md<|by omega];simp only[Aa];have y:=AB5 (K:=a.Knots) (R:=R) i;have h3:(((List.range i).filter<|C8 a.Knots R).map<|XY a.Knots R).length=i9 a.Knots R i:=by rw[By];rfl
    have d:si (TJ a.Knots R i) (i:Int) (ln<|((List.range i).filter<|C8 a.Knots R).map<|XY a.Knots R)=TJ a.Knots R (i+1):=by simp_all [Bh,Ew,OB,TJ];grind
    have inner:Ai (λs:Int×List Int=>Fy (TJ a.Knots R i) (i:Int) (((List.range i).filter<|C8 a.Knots R).map<|XY a.Knots R) (BD a.Knots (i:Int)) s.1 s.2) (0,(BD a.Knots (i:Int)).Kids)=some (XY a.Knots R i).Kids:=by
     have q:=Np (body:=λs:Int×List Int=>Fy (TJ a.Knots R i) (i:Int) (((List.range i).filter<|C8 a.Knots R).map<|XY a.Knots R) (BD a.Knots (i:Int)) s.1 s.2) (λl k=>(k,l)) (λ_ x=>bif(BD a.Knots (i:Int)).Leaf then x else Q7 a.Knots R x) (BD a.Knots (i:Int)).Kids
      (λk l x p t g=>by
       have u:=(Ae.1 g).1;have v:k<4:=by omega
       have ex:x=Oy (BD a.Knots (i:Int)) k:=by grind
       have same:l.set k x=l:=by
        apply Cm
        grind
       simp only[Fy,DL u,Ap,g,Aa];rw[d]
       cases j:(BD a.Knots (i:Int)).Leaf with
       |true=>grind [ad1]
       |false=>
        simp only[BK,Al,Ad,Aa]
        rcases FN hK h0 f j v with e|⟨e1,e2,e3⟩
        ·grind [ad1,Q7]
        obtain⟨c,hc⟩:∃c:Nat,x=(c:Int):=⟨x.toNat,by omega⟩;have w:x∈(BD a.Knots (i:Int)).Kids:=Ao g;have m:=TR (XP hK hR hu j) h0 w (by omega);rw[hc]at m;rw[hc,Ap];unfold TJ;rw[MK (by omega),Aa,BE ⟨by omega,m⟩,t,Aa,Ew,ad1]
        rfl)
      (λl p=>by simp[Dx,Fy])
     rw[Ir]at q;rw[q];unfold XY
     cases(BD a.Knots (i:Int)).Leaf with
     |true=>simp
     |false=>rfl
    rw[inner,Aa,Bw (by grind),Aa,ad1,d];refine .inl ⟨(_,_),rfl,?_⟩;congr 1;rw[DM,Cb,I3 hu,List.filter_nil,Jp]
    rfl)
  (λo ho=>⟨o,by simp[Dx,Fz],ho⟩) (s:=(List.replicate a.Knots.length 0,[])) (by grind [Ms,F6,TJ])
 grind
theorem pF (a:Arena) (ha:a.Knots.length<=1048000) (hK:C7 a.Knots=true) (R:List Int) (hc:R.length<=1000) (hR:∀r∈R,Dh a.Knots r=true):M8 a R=some (Arena.mk (TZ a.Knots R),R.map (Q7 a.Knots R)):=by
 unfold M8;rw[Md<|by omega];simp only[Aa];obtain⟨l,l1,l2,l3⟩:=gT a ha hK R hc hR R;rw[l1,PY a (by omega),hK];simp only[Aa,Df,An,Ad];rw[Bh,YE (by omega) (by omega),Aa,aV a ha hK R hR l l2 l3];simp only[Aa];have q:=Np (body:=λs:List Int×Int=>Hd R (TJ a.Knots R a.Knots.length,TZ a.Knots R) s.1 s.2) (λl k=>(l,k)) (λ_ x=>Q7 a.Knots R x) R
  (λk l x g h b=>by
   have hk:=(Ae.1 b).1;simp only[Hd,DL hk,Ap,b,Aa]
   rcases BH (hR x<|Ao b)with e|⟨e1,e2,e3⟩
   ·rw[cF,ad1];have:Q7 a.Knots R x=x:=by unfold Q7;omega
    rw[this,show l.set k x=l from by
     apply Cm
     grind]
   rw[cT];obtain⟨c,d⟩:∃c:Nat,x=(c:Int):=⟨x.toNat,by omega⟩;have f:=O2 (K:=a.Knots) (Ao b) e1;rw[d]at f;rw[d,Ap];unfold TJ;rw[MK (by omega),Aa,BE ⟨by omega,f⟩,h,Aa,Ew,ad1]
   rfl)
  (λl g=>by simp[Dx,Hd])
 grind [Ir]
theorem P8 (h:StoreR s):L4 s=some (KF s):=by
 have hl:=h.len;have hf:=h.few;have d:(Bk s).length=s.Vols.length:=by unfold Bk;rw[By]
 unfold L4;have hr:Ai (λq:List Int×Int=>EL s q.1 q.2) ([],0)=some (Bk s):=by
  obtain⟨b,h1,h2⟩:=AA (body:=λq:List Int×Int=>EL s q.1 q.2) (λ(o:List Int) i=>(o,i)) s.Vols.length (λi o=>o=(s.Vols.take i).map Vol.Root) (λb=>b=Bk s)
   (λo i hi ho=>by
    have hx:=Ab hi;simp only[EL,DL hi,Ap,hx,Aa]
    grind [Bw,ad1,D5])
   (λo ho=>⟨o,by simp[Dx,EL],by rw[ho,AQ<|A3 _];rfl⟩) (s:=[]) rfl
  grind
 rw[hr];simp only[Aa];rw[pF _ (by omega) h.ar _ (by omega) h.root];simp only[Aa];have q:=Np (body:=λq:Int×List Vol=>Gx s (Arena.mk<|TZ s.Arena.Knots<|Bk s,(Bk s).map<|Q7 s.Arena.Knots<|Bk s) q.1 q.2) (λl i=>(i,l)) (λ_ v=>Vol.mk v.Id<|Q7 s.Arena.Knots (Bk s) v.Root) s.Vols
  (λi l x a e c=>by
   have hi:=(Ae.1 c).1;simp only[Gx,DL hi]
   grind [Ap,Ew,ad1,Bk])
  (λl a=>by simp[Dx,Gx])
 rw[Ir]at q;rw[q];rfl
theorem zE {K:Ks} {R:List Int} {i:Nat} (hK:C7 K=true) (hR:∀r∈R,Dh K r=true) (hi:i<K.length) (hu:C8 K R i=true) (hl:(BD K (i:Int)).Leaf=true) (hn:n∈(BD K (i:Int)).Kids):∃r∈R,n∈Fc K r:=by
 unfold C8 at hu;obtain⟨r,hr,h⟩:=EN.1 hu;unfold N3 at h;rw[Aj,AZ,Hr,AZ,EN]at h;obtain⟨h0,h⟩:=h
 rcases BH (hR r hr)with e|⟨_,h1,h2⟩
 ·omega
 rcases h with h|⟨x,hx,he⟩
 ·grind
 obtain⟨h4,hk⟩:=ES hK h0 h1;obtain⟨j,hj,a⟩:=Au hx;have b:Oy (BD K r) j=(i:Int):=by grind
 obtain⟨g4,gk⟩:=ES hK (r:=(i:Int)) (by omega) (by omega);obtain⟨t,ht,c⟩:=Au hn;have d:Oy (BD K (i:Int)) t=n:=by grind
 refine⟨r,hr,AB.2 ⟨4*j+t,by simp;omega,?_⟩⟩
 grind [Q4]
theorem W9 (h:Cj s):ON s=some true:=by
 have hl:=h.len;have hf:=h.few;unfold ON;rw[Bh,cF,PY _ (by omega),h.ar,VN,Ac h.nx];obtain⟨b,h1,l,rfl,h3,h4⟩:=AA (body:=λq:List Int×Int=>Kq s q.1 q.2) (λ(o:List Int) i=>(o,i)) s.Vols.length (λi o=>o.length<=5*i/\∀n:Nat,(n:Int)∈o↔C8 s.Arena.Knots ((Bk s).take i) n=true) (λb=>∃l,b= .inl l/\l.length<=5000/\∀i:Nat,(i:Int)∈l↔C8 s.Arena.Knots (Bk s) i=true)
  (λo i hi ho=>by
   obtain⟨o1,o2⟩:=ho;have hx:=Ab hi;have hm:s.Vols[i]∈s.Vols:=Ar hi;have a:s.Vols[i].Root∈Bk s:=AB.2 ⟨_,hm,rfl⟩;have hr:=h.root _ a;have f:(Bk s)[i]?=some s.Vols[i].Root:=by unfold Bk;grind
   obtain⟨m,m1,m2,m3⟩:=UM s.Arena (by omega) h.ar hr;simp only[Kq,DL hi,Ap,hx,Aa];rw[VN,Ac<|h.ids _ hm,lA (by omega) hr];have hj:(cond (decide<|(i:Int)>0) ((gi s.Vols<|sb (i:Int) 1).bind λx2=>cond (decide<|x2.Id>=s.Vols[i].Id) (some true)<|some false) (some false):Option Bool)=some false:=by
    by_cases h0:i=0
    ·rw[cF]
    rw[cT,BL,show(i:Int)-1=((i-1:Nat):Int) by omega,Ap,Ab<|by omega];simp only[Aa];have:=Rh h.asc (show i-1<i by omega) (x:=s.Vols[i-1].Id) (y:=s.Vols[i].Id) (by grind) (by grind);rw[cF]
   rw[hj];simp only[Aa,Ad];rw[m1,Aa,Bw (by omega),ad1]
   simp_all [TY,C8];grind)
  (λo ho=>⟨_,by simp[Dx,Kq],o,rfl,by have:=ho.1;omega,by grind [AQ,Bk]⟩) (s:=[]) ⟨by simp,λn=>by simp[C8]⟩
 rw[h1];simp only[Aa,Df];obtain⟨c,q1,q2⟩:=AA (body:=λq:Int=>Kp s l q) (λ(_:Unit) i=>i) s.Arena.Knots.length (λ_ _=>True) (λc=>c= .inl ())
  (λ_ i hi _=>by
   have hu:=h.used i hi;simp only[Kp,DL hi];rw[Hz (by omega) (by omega),X9 l _ (by omega),List.contains_iff_mem.2<|(h4 i).2 hu];simp only[Aa,An,Ad];obtain⟨d,e1,e2⟩:=AA (body:=λq:Int=>Ko s (BD s.Arena.Knots (i:Int)) q) (λ(_:Unit) i=>i) (BD s.Arena.Knots (i:Int)).Kids.length (λ_ _=>True) (λc=>c= .inl ())
    (λ_ k hk _=>by
     have hx:=Ab hk;have h44:=(ES h.ar (r:=(i:Int)) (by omega)<|by omega).1;simp only[Ko,DL hk,Ap,hx,Aa];rw[ad1]
     cases e:(BD s.Arena.Knots (i:Int)).Leaf with
     |false=>simp
     |true=>
      obtain⟨r,r1,r2⟩:=zE h.ar h.root hi hu e<|Ar hk;have:=h.lt r r1 _ r2
      simp_all [Ah])
    (λ_ _=>⟨_,by simp[Dx,Ko],rfl⟩) (s:=()) trivial
   rw[e1,e2];rw[ad1]
   simp)
  (λ_ _=>⟨_,by simp[Dx,Kp],rfl⟩) (s:=()) trivial
 grind
def zN (l:List Vol) (v:Vol):List Vol:=(l.filter λw=>decide<|w.Id<v.Id)++ [v]++l.filter λw=>decide<|w.Id>v.Id
theorem wJ {l:List Vol} {v:Vol} (h:(l.map Vol.Id).Pairwise (·<·)) (hv:∀w∈l,w.Id≠v.Id) (hl:l.length<=3):KH (MM Br) (l++ [v])=some (zN l v):=by
 have hk:∀x,Br x=x.Id:=λ_=>rfl
 obtain⟨r,h1,h2,h3⟩:=cK Br (l++ [v]) (by simp;omega);have hs:srt Br (zN l v):=by
  have:=Yc h v;rw[List.pairwise_map]at this
  exact this.imp λhh=>by grind
 have:r=zN l v:=by
  refine MX _ h2 hs λk=>?_
  rw[h3 k];unfold zN;rw[Cb,Cb,Cb,DS,DS]
  rcases Int.lt_trichotomy k v.Id with e|e|e
  ·grind [B9]
  ·grind [B9]
  grind [B9]
 rw[h1,this]
theorem gG {r:Ch} {q:Int} (h:Cj s) (hn:CN s r.Vol=some (-1)) (hv:∀v∈s.Vols,v.Id≠r.Vol) (h3:s.Vols.length≠3) (hq:(cond (decide (r.Arg>0)) ((CN s r.Arg).bind λv1=>cond (decide (v1<0)) ((DF s).bind λv2=>some (.inr (v2,false))) ((gi s.Vols v1).bind λx1=>some (.inl x1.Root))) (some (.inl (-1))):Option (Int⊕(Store×Bool)))=some (.inl q)):FD s r=some (Store.mk (zN s.Vols (Vol.mk r.Vol q)) s.Arena s.Next,true):=by
 have hl:=h.len;have c:=Ky h.ar (by have:=h.few;omega);have a:=FG s c (by omega);unfold FD;rw[hq,hn];simp only[Aa,Df];rw[cF,Bh,show((s.Vols.length:Int)==3)=false by simp;omega];rw[a];have k1:=Sh (body:=λq:List Vol×Int=>GD s r q.1 q.2) s.Vols (λv=>decide<|v.Id<r.Vol) [] (by simp;omega)
  (λi v b hv ho=>by
   have hi:=(Ae.1 hv).1;simp only[GD,DL hi,Ap,hv,Aa]
   grind [ad1,Bw])
  (λb=>by simp[Dx,GD])
 rw[A5]at k1;rw[k1];simp only[Aa];have d:=cJ s.Vols r.Vol;rw[Bw (by simp;omega)];simp only[Aa];have k2:=Sh (body:=λq:List Vol×Int=>GC s r q.1 q.2) s.Vols (λv=>decide<|v.Id>r.Vol) ((s.Vols.filter λv=>decide<|v.Id<r.Vol)++ [Vol.mk r.Vol q]) (by simp;omega)
  (λi v b hv ho=>by
   have hi:=(Ae.1 hv).1;simp only[GC,DL hi,Ap,hv,Aa]
   grind [ad1,Bw])
  (λb=>by simp[Dx,GC])
 rw[k2];rfl
theorem mJ {r:Ch} (h:Cj s) (hb:FM r=true) (hk:r.Kind=2):∃t ok,FD s r=some (t,ok)/\Eo s r.Vol r.Arg=some (ok,t):=by
 have hl:=h.len;have a:=Ky h.ar (by have:=h.few;omega);have c:=FG s a (by omega);have hr:=hb;unfold FM at hr;rw[hk]at hr;simp at hr
 have b:∀id,Jd s id=CN s id:=λ_=>rfl
 have root:(FD s r=some (s,false)/\Eo s r.Vol r.Arg=some (false,s))\/∃q,(cond (decide<|r.Arg>0) ((CN s r.Arg).bind λv1=>cond (decide<|v1<0) ((DF s).bind λv2=>some<|.inr (v2,false))<|(gi s.Vols v1).bind λx1=>some<|.inl x1.Root) (some<|.inl<|-1):Option (Int⊕(Store×Bool)))=some (.inl q)/\(cond (r.Arg !=0) ((CN s r.Arg).bind λv1=>cond (decide<|v1<0) (some<|.inr (false,s))<|(gi s.Vols v1).bind λx1=>some<|.inl x1.Root) (some<|.inl<|-1):Option (Int⊕(Bool×Store)))=some (.inl q):=by grind [Ex,Ap,FD,Eo]
 rcases root with⟨g1,g2⟩|⟨q,g1,g2⟩
 ·grind
 rcases Ex s (by omega) r.Vol with⟨h1,h2⟩|⟨k,v,h1,h2,h3,_⟩
 ·by_cases h3:s.Vols.length=3
  ·simp_all [Bh,FD,Eo]
  refine⟨_,true,gG h h1 h2 h3 g1,?_⟩;unfold Eo;rw[b,b,g2,h1];simp only[Aa,Df];rw[cF,Bh,Ah (by omega:¬(s.Vols.length:Int)>=3)];rw[Bw (by simp;omega)];simp only[Aa];rw[wJ h.asc (v:=Vol.mk r.Vol q) h2 hl];rfl
 simp_all [FD,Eo]
theorem qT (h:Cj s) (r:Ch):X7 s r=RY s r:=by
 have hl:=h.len;have d:=Ky h.ar (by have:=h.few;omega);have e:=FG s d (by omega);have c:=Nr s d<|by omega
 have g:∀id,Jd s id=CN s id:=λ_=>rfl
 have f:PK r=some (FM r):=by
  obtain⟨v,a1,a2,_⟩:=ZJ r
  grind [MJ]
 have a:=Zu h r;unfold X7;rw[c,W9 h,f];simp only[Aa,An,Ad]
 cases hb:FM r with
 |false=>grind [Lx,CQ]
 |true=>
  simp only[An,Ad];have hr:=hb;unfold FM at hr;unfold RY at a⊢;rw[QT h,MJ,hb]at a⊢;simp only[Aa,An,Ad]at a⊢;unfold Ot
  cases k1:(r.Kind==1)with
  |true=>
   have e1:r.Kind=1:=by simpa using k1
   rw[e1]at hr;simp at hr;simp only[Al,Aa,An,Ad];have hj:(cond (r.Arg==0) (some 1) (some r.Arg):Option Int)=some (if 1>r.Arg then 1 else r.Arg):=by grind
   rw[hj];simp only[Aa];have hP:Cj (Store.mk [] (Arena.mk [])<|if 1>r.Arg then 1 else r.Arg):=by
    refine⟨⟨by simp,rfl,?_,by simp,by simp,by simp[Bk],by simp[Bk],by simp⟩,by simp⟩
    grind
   rw[P8 hP.toStoreR,XV hP];rfl
  |false=>
   simp only[Ad];rw[k1]at hr a;simp only[Ad]at a
   cases k2:(r.Kind==2)with
   |true=>
    rw[k2]at a;simp only[Al]at a⊢;obtain⟨t,ok,c1,c2⟩:=mJ h hb (by simpa using k2);rw[c1]at a⊢;rw[c2];simp only[Aa]at a⊢;unfold Lx at a
    cases ok with
    |false=>grind
    |true=>
     split at a
     ·grind
     obtain⟨t',q,hP,_⟩:=a
     injection q with q
     injection q with q _
     subst q;simp only[An,Ad];have i:Store.mk t.Vols (Arena.mk t.Arena.Knots) t.Next=t:=rfl;rw[i,P8 hP.toStoreR,XV hP];rfl
   |false=>
    simp only[Ad];rw[k2]at hr;rw[g]
    rcases Ex s (by omega) r.Vol with⟨h1,h2⟩|⟨k,v,h1,h2,h3,_⟩
    ·grind
    rw[h1];simp only[Aa];rw[cF];simp only[Aa];have hm:=Ao h2;have j:=(Ae.1 h2).1
    cases hc:(r.Chunk==1000000000)with
    |true=>grind
    |false=>
     simp only[Ad];have l:r.Chunk≠1000000000:=by simpa using hc
     rw[e];simp only[Aa]
     cases k3:(r.Kind==3)with
     |true=>
      simp only[Al];rw[Bh,ad1];have d1:dr s.Vols 0 (k:Int)=some (s.Vols.take k):=by grind [dr]
      have d2:dr s.Vols ((k+1:Nat):Int) (s.Vols.length:Int)=some (s.Vols.drop<|k+1):=by grind [AQ,dr]
      rw[d1,d2];simp only[Aa];rw[Lk (by simp;omega)];simp only[Aa];rw[Bw (by simp;omega),SQ h.asc h2,h3];simp only[Aa,An,Ad];have hR:=AAa h r.Vol;simp_all [Lu,P8]
     |false=>
      simp only[Ad];rw[k3]at hr;have ha:0<=r.Arg/\r.Arg<16/\0<=r.Chunk/\r.Chunk<=1000000000:=by grind
      obtain⟨t,ht⟩:∃t:Nat,r.Arg=(t:Int):=⟨_,(AR ha.1).symm⟩;have b:=h.root _<|AB.2 ⟨v,hm,rfl⟩;rw[Ap,h2];simp only[Aa];rw[ht,Yl _ (by have:=h.few;omega) h.ar b (by omega) ha.2.2.1,pI _ (by have:=h.few;omega) h.ar b (by omega) ha.2.2.1];simp only[Aa,An,Ad];rw[Ew,BZ];have hR:=AB4 h h2 (show t<16 by omega) ha.2.2.1<|show r.Chunk+1<=1000000000 by omega
      grind [Lu,P8]
theorem bO (h:Cj s) (a:List Ch) (hr:a.length<=1048576):PS s a=KT s a:=by
 have hl:=h.len;have d:=Ky h.ar (by have:=h.few;omega);have e:=FG s d (by omega);have c:=Nr s d (by omega);unfold PS KT;rw[e,c];obtain⟨b,h1,h2,_⟩:=HQ (body:=λq:Int×List Vol×List Ba×Int=>Ee s a q.1 q.2.1 q.2.2.1 q.2.2.2) (body':=λq:Int×List Vol×List Ba×Int=>IS s a q.1 q.2.1 q.2.2.1 q.2.2.2) (λ(t:Store) i=>(i,t.Vols,t.Arena.Knots,t.Next)) a.length (λ_ t=>Cj t) (λ_=>True)
  (λt i hi hP=>by
   have hx:=Ab hi;have f:Store.mk t.Vols (Arena.mk t.Arena.Knots) t.Next=t:=rfl;have g:=Zu hP a[i];simp only[Ee,IS,DL hi,Ap,hx,Aa];rw[f,qT hP]
   grind [ad1,Lx])
  (λt _=>⟨by simp[Dx,Ee,IS],.inl (t.Vols,t.Arena.Knots,t.Next),by simp[Dx,Ee],trivial⟩) (s:=s) h
 grind
theorem YU (l:List Tx) (hl:l.length<=1048576) (hr:∀x∈l,x.Recs.length<=20000):NX l=some (Cy l):=by
 unfold NX;obtain⟨b,h1,h2⟩:=AA (body:=λs:Int×Int=>HY l s.1 s.2) (λ(o:Int) i=>(o,i)) l.length (λi o=>o=(qE (l.take i):Int)) (λb=>b=(qE l:Int))
  (λo i hi ho=>by
   have hx:=Ab hi;have et:l.take (i+1)=l.take i++ [l[i]]:=Af hi;have a:(l.take i).length=i:=by grind
   simp only[HY,DL hi,Ap,hx,Aa]
   grind [ad1,dW,XF])
  (λo ho=>⟨o,by simp[Dx,HY],by grind⟩) (s:=0) rfl
 rw[h1,h2];simp only[Aa];have d:=qD l;have hd:dr l (qE l:Int) (ln l)=some (Cy l):=by
  unfold dr;rw[Bh,BE (by omega),C1,C1,AQ<|by simp];rfl
 rw[hd];simp only[Aa];obtain⟨b1,b2⟩:=RP l;obtain⟨c,q1,q2⟩:=AA (body:=λs:List Tx×Int=>HX (Cy l) s.1 s.2) (λ(o:List Tx) i=>(o,i)) (Cy l).length (λi o=>o=(Cy l).take i) (λb=>b=Cy l)
  (λo i hi ho=>by
   have hx:=Ab hi;have e:=hr _<|b2 _<|Ar hi;have et:(Cy l).take (i+1)=(Cy l).take i++ [(Cy l)[i]]:=Af hi;simp only[HX,DL hi,Ap,hx,Aa];rw[Lk (by omega),Aa,Bw (by grind),Aa,ad1]
   exact .inl ⟨_,rfl,by rw[et,<-ho]⟩)
  (λo ho=>⟨o,by simp[Dx,HX],by grind⟩) (s:=[]) rfl
 grind
theorem gX (h:bL f r):So f=some (CT r-1):=by
 have a:=h.len;unfold So;rw[h.i];simp only[Aa];obtain⟨b,h1,h2⟩:=AA (body:=λs:Int×Int=>Ku r s.1 s.2) (λ(o:Int) i=>(o,i)) r.length (λi o=>o=CT (r.take i)-1) (λb=>b=CT r-1)
  (λo i hi ho=>by
   have hx:=Ab hi;have et:r.take (i+1)=r.take i++ [r[i]]:=Af hi;simp only[Ku,DL hi,Ap,hx,Aa];rw[ad1]
   grind [Xr])
  (λo ho=>⟨o,by simp[Dx,Ku],by grind⟩) (s:=0) (by simp[CT])
 grind
theorem pK (r:List Ak) (hr:Fk r):Ai (λs:Int×Int=>Hn r s.1 s.2) (0,1)=some (Dy r):=by
 have a:=hr.len;obtain⟨b,h1,h2⟩:=AA (body:=λs:Int×Int=>Hn r s.1 s.2) (λ(o:Int) i=>(i,o)) r.length (λi o=>o=Dy (r.take i)) (λb=>b=Dy r)
  (λo i hi ho=>by
   have hx:=Ab hi;have ht:=hr.tx _<|Ar hi;have et:r.take (i+1)=r.take i++ [r[i]]:=Af hi;simp only[Hn,DL hi,Ap,hx,Aa]
   grind [BZ,Xp])
  (λo ho=>⟨o,by simp[Dx,Hn],by grind⟩) (s:=1) rfl
 grind
theorem YW (l:List Tx) (hl:l.length<=1048576) (hr:∀x∈l,x.Recs.length<=20000):Ai (λs:Int×List Vol×List Ba×Int×Int=>Hm l s.1 s.2.1 s.2.2.1 s.2.2.2.1 s.2.2.2.2) (0,[],[],1,0)=Ai (λs:Int×List Vol×List Ba×Int×Int=>Dm l s.1 s.2.1 s.2.2.1 s.2.2.2.1 s.2.2.2.2) (0,[],[],1,0):=by
 obtain⟨b,h1,h2,_⟩:=HQ (body:=λs:Int×List Vol×List Ba×Int×Int=>Dm l s.1 s.2.1 s.2.2.1 s.2.2.2.1 s.2.2.2.2) (body':=λs:Int×List Vol×List Ba×Int×Int=>Hm l s.1 s.2.1 s.2.2.1 s.2.2.2.1 s.2.2.2.2) (λ(o:Store×Int) i=>(i,o.1.Vols,o.1.Arena.Knots,o.1.Next,o.2)) l.length (λ_ o=>Cj o.1) (λ_=>True)
  (λo i hi hP=>by
   obtain⟨t,b0⟩:=o;have hx:=Ab hi;have d:=hr _<|Ar hi;have c:Store.mk t.Vols (Arena.mk t.Arena.Knots) t.Next=t:=rfl;simp only[Dm,Hm,DL hi,Ap,hx,Aa];rw[c,bO hP _ (by omega),ad1];have a:=WF hP l[i].Recs (by omega);unfold P6 at a;obtain⟨j,hj⟩:∃j,(cond ((i:Int)==0) (some l[i].Num) (some b0):Option Int)=some j:=by
    cases((i:Int)==0)with
    |true=>exact⟨_,rfl⟩
    |false=>exact⟨_,rfl⟩
   rw[hj];split at a
   ·rw[a];exact⟨rfl,.inl ⟨(t,j),rfl,hP⟩⟩
   obtain⟨u,u1,u2,_⟩:=a;rw[u1]
   exact⟨rfl,.inl ⟨(u,j),rfl,u2⟩⟩)
  (λo _=>⟨by simp[Dx,Dm,Hm],(o.1.Vols,o.1.Arena.Knots,o.1.Next,o.2),by simp[Dx,Dm],trivial⟩) (s:=(Store.mk [] (Arena.mk []) 1,0)) cD
 grind
theorem Ta (hf:AX f):Nt f=Cr f:=by
 obtain⟨r,hs,_⟩:=AAs hf;have hr:=VB hs hf;obtain⟨g1,g2⟩:=Qd hr;obtain⟨b1,b2⟩:=RP<|A6 r;have a:=Mj r;have b:CT r<=1000000001:=a.2.2 _ (by omega) (λy hy=>by have:=(hr.seq y hy).2;omega);unfold Nt Cr;rw[Qe,OY hf,hs.s,hs.i,CK f hf.cap,I1,CK f hf.cap,gX hs];unfold Ng PI;simp only[Aa,An,Ad];rw[Uw r hr,pK r hr,LK r hr,WA r hr];simp only[Aa];rw[QU _ g1 g2,YU _ g1 g2];simp only[Aa];rw[YW (Cy<|A6 r) (by omega) λx hx=>g2 x<|b2 x hx,BZ,show CT r-1+1=CT r by omega]
theorem d7 {r:Int} (h:Cj s) (hr:r∈Bk s):Oc s.Arena r=some (Fc s.Arena.Knots r):=by
 obtain⟨l,l1,l2,_⟩:=RK s.Arena (iG h) r;rw[Ni s.Arena (by have:=h.few;omega) h.ar<|h.root r hr]at l1;rw[l2,l1]
theorem bA {b:Store} (ha:Cj a) (hb:Cj b) (e:AT a=AT b) (n:a.Next=b.Next):NY a b=some true:=by
 have f:=ha.len;have d:a.Vols.length=b.Vols.length:=by grind [IW]
 unfold NY;rw[show(ln a.Vols !=ln b.Vols)=false by grind [Bh],show(a.Next !=b.Next)=false by rw[n];simp];obtain⟨q,h1,h2⟩:=AA (body:=λs:Int=>Ib a b s) (λ(_:Unit) i=>i) a.Vols.length (λ_ _=>True) (λq=>q= .inl ())
  (λ_ i hi _=>by
   have hx:=Ab hi;have hy:=Ab (show i<b.Vols.length by omega);have c:(AT a)[i]?=(AT b)[i]? :=by rw[e]
   unfold AT at c;rw[F7,F7,hx,hy]at c;simp only[Hq,Ay,Prod.mk.injEq]at c;obtain⟨e1,e2⟩:=c;simp only[Ib,DL hi,Ap,hx,hy,Aa];rw[d7 hb (AB.2 ⟨_,Ar (show i<b.Vols.length by omega),rfl⟩),d7 ha<|AB.2 ⟨_,Ar hi,rfl⟩,e1,e2];simp only[Aa,bne_self_eq_false,Ad];generalize hR:Fc b.Arena.Knots b.Vols[i].Root=R;have g:R.length=16:=by grind [Fc]
   obtain⟨z,z1,z2⟩:=AA (body:=λs:Int=>Ia R R s) (λ(_:Unit) i=>i) R.length (λ_ _=>True) (λq=>q= .inl ())
    (λ_ k hk _=>by
     have hx:=Ab hk;simp only[Ia,DL hk,Ap,hx,Aa,bne_self_eq_false,Ad];rw[ad1]
     simp)
    (λ_ _=>⟨_,by simp[Dx,Ia],rfl⟩) (s:=()) trivial
   rw[z1,z2];rw[ad1]
   simp)
  (λ_ _=>⟨_,by simp[Dx,Ib],rfl⟩) (s:=()) trivial
 grind
theorem PU (h:Fe d r):Le d=some true:=by
 obtain⟨m,m1,m2,m3⟩:=Kx h.fl h.sr;obtain⟨e1,e2,e3⟩:=GO h m2 rfl;unfold Le;rw[Ta h.fl,m1];simp only[Aa,Al];rw[W9 h.st,bA m2.st h.st e1 e2];rw[m2.seq,h.seq,m2.tx,h.tx,e3];simp
theorem nK (hf:AX f) (l:List AF) (hl:l.length<=1048576):∃g n,J6 f l=some (g,n)/\AX g:=by
 unfold J6;rw[CK f hf.cap];simp only[Aa];obtain⟨b,h1,g,n,h2,h3⟩:=AA (body:=λs:Int×List Block=>DB l s.1 s.2) (λ(o:Flash) i=>(i,o.Blocks)) l.length (λ_ o=>AX o) (λb=>∃g n,(b= .inl g.Blocks/\n=ln l\/b= .inr (g,n))/\AX g)
  (λo i hi ho=>by
   have hx:=Ab hi;have a:Flash.mk o.Blocks=o:=rfl;simp only[DB,DL hi,Ap,hx,Aa];rw[a]
   rcases Po ho l[i]with⟨k1,k2⟩|⟨_,k2⟩
   ·grind [ad1,rL]
   grind)
  (λo ho=>⟨.inl o.Blocks,by simp[Dx,DB],o,ln l,.inl ⟨rfl,rfl⟩,ho⟩) (s:=f) hf
 rw[h1]
 rcases h2 with⟨rfl,rfl⟩|rfl
 ·simp_all
 grind
theorem SY (hf:AX d.Flash) (l:List AF) (hl:l.length<=1048576):Ns d l=FU d l:=by
 obtain⟨g,n,h1,h2⟩:=nK hf l hl;obtain⟨g',n',h3,h4,_⟩:=qU d.Flash l hf.cap hl
 grind [Ta,Ns,FU]
theorem Vc (h:Fe d r):Kj d=some d:=by
 unfold Kj;rw[I1,CK d.Flash h.fl.cap,Nr d.Store (Ky h.st.ar (by have:=h.st.few;omega)) (by have:=h.st.len;omega)];rfl
theorem bS (h:G9 d r) (hw:DW d.Flash 999999000) (most:Int):PW d most=Ez d most:=by
 unfold PW Ez;rw[Jv h.dev,Vc h.dev];simp only[Aa];obtain⟨b,b',h1,h2,d',all,h3,h4⟩:=dR (body:=λs:List AF×Int×List Block×List Vol×List Ba×Int×Int×Int×Int=>CR most s.1 s.2.1 s.2.2.1 s.2.2.2.1 s.2.2.2.2.1 s.2.2.2.2.2.1 s.2.2.2.2.2.2.1 s.2.2.2.2.2.2.2.1 s.2.2.2.2.2.2.2.2)
  (body':=λs:List AF×Int×List Block×List Vol×List Ba×Int×Int×Int×Int=>Ho most s.1 s.2.1 s.2.2.1 s.2.2.2.1 s.2.2.2.2.1 s.2.2.2.2.2.1 s.2.2.2.2.2.2.1 s.2.2.2.2.2.2.2.1 s.2.2.2.2.2.2.2.2)
  (λ(o:List AF×Av) i=>(o.1,i,o.2.Flash.Blocks,o.2.Store.Vols,o.2.Store.Arena.Knots,o.2.Store.Next,o.2.Seq,o.2.Tx,o.2.Base)) (λ(o:List AF×Av) i=>(o.1,i,o.2.Flash.Blocks,o.2.Store.Vols,o.2.Store.Arena.Knots,o.2.Store.Next,o.2.Seq,o.2.Tx,o.2.Base)) 20
  (λi o=>o.1.length<=200*i/\(∃r',G9 o.2 r')/\DW o.2.Flash (999999000+i))
  (λb b'=>∃(d':Av) (all:List AF),(b= .inr (d',all)\/b= .inl (all,d'.Flash.Blocks,d'.Store.Vols,d'.Store.Arena.Knots,d'.Store.Next,d'.Seq,d'.Tx,d'.Base))/\b'=(all,d'.Flash.Blocks,d'.Store.Vols,d'.Store.Arena.Knots,d'.Store.Next,d'.Seq,d'.Tx,d'.Base))
  (λo i hi hs=>by
   obtain⟨all,e⟩:=o;obtain⟨c,⟨r',hg⟩,a⟩:=hs;simp only at c hg a;have f:Av.mk (Flash.mk e.Flash.Blocks) (Store.mk e.Store.Vols (Arena.mk e.Store.Arena.Knots) e.Store.Next) e.Seq e.Tx e.Base=e:=rfl;have g:Flash.mk e.Flash.Blocks=e.Flash:=rfl;obtain⟨v,v1,v2,_⟩:=S4 e.Flash hg.dev.fl.cap (by have:=hg.dev.fl.few;omega);simp only[CR,Ho];rw[f,g,v1,v2,Ac (by omega:(i:Int)<20),show decide ((i:Int)<(if 20<most then 20 else most))=decide ((i:Int)<most) by grind];simp only[Al,Aa];obtain⟨j,hj⟩:∃j,(bif decide ((i:Int)<most)then some (decide<|v<12)else some false:Option Bool)=some j:=by
    cases decide ((i:Int)<most)with
    |true=>exact⟨_,rfl⟩
    |false=>exact⟨_,rfl⟩
   rw[hj];simp only[Aa]
   cases j with
   |false=>grind
   |true=>
    obtain⟨steps,ok,c1,c2,_,c3⟩:=TG hg (λx hx=>by have:=a x hx;omega);rw[bR hg,c1];simp only[Aa]
    cases ok with
    |false=>exact .inr ⟨_,_,rfl,rfl,e,all,.inl rfl,rfl⟩
    |true=>
     obtain⟨d',r2,k1,k2,k3⟩:=(c3 rfl).full hg (by omega);rw[SY hg.dev.fl _ (by omega),k1,Aa,Bw (by omega),ad1]
     exact .inl ⟨(all++steps,d'),rfl,rfl,by simp;omega,⟨r2,k3.good⟩,λx hx=>by have:=k3.wear _ a x hx;omega⟩)
  (λo hs=>by
   obtain⟨all,e⟩:=o;refine⟨.inl (all,e.Flash.Blocks,e.Store.Vols,e.Store.Arena.Knots,e.Store.Next,e.Seq,e.Tx,e.Base),_,?_,?_,e,all,.inr rfl,rfl⟩
   ·grind [CR]
   grind [Ho]) (s:=([],d)) ⟨by simp,⟨r,h⟩,λx hx=>by have:=hw x hx;omega⟩
 have e1:Ai (λs:List AF×Int×List Block×List Vol×List Ba×Int×Int×Int×Int=>CR most s.1 s.2.1 s.2.2.1 s.2.2.2.1 s.2.2.2.2.1 s.2.2.2.2.2.1 s.2.2.2.2.2.2.1 s.2.2.2.2.2.2.2.1 s.2.2.2.2.2.2.2.2) ([],0,d.Flash.Blocks,d.Store.Vols,d.Store.Arena.Knots,d.Store.Next,d.Seq,d.Tx,d.Base)=some b:=h1;have e2:Ai (λs:List AF×Int×List Block×List Vol×List Ba×Int×Int×Int×Int=>Ho most s.1 s.2.1 s.2.2.1 s.2.2.2.1 s.2.2.2.2.1 s.2.2.2.2.2.1 s.2.2.2.2.2.2.1 s.2.2.2.2.2.2.2.1 s.2.2.2.2.2.2.2.2) ([],0,d.Flash.Blocks,d.Store.Vols,d.Store.Arena.Knots,d.Store.Next,d.Seq,d.Tx,d.Base)=some b':=h2;rw[e1,e2,h4]
 rcases h3 with rfl|rfl
 ·rfl
 rfl
theorem ABE {b:Store} (ha:Cj a) (hb:Cj b) (e:AT a=AT b) (id:Int):CN a id=CN b id:=by
 have d:=ha.len;have f:=hb.len
 have c:∀i:Nat,(a.Vols[i]?).map Vol.Id=(b.Vols[i]?).map Vol.Id:=λi=>by
  have:=Ct (λl=>(l[i]?).map Prod.fst) e
  grind [AT]
 grind [Ex]
theorem WS {n:Nat} (h:G9 d r) (k:G8 n d r e re) (q:Oz):DQ e q=DQ d q:=by
 have hv:(ln e.Store.Vols)=ln d.Store.Vols:=by rw[Bh,Bh,<-IW,<-IW,k.ab]
 have f:=ABE k.good.dev.st h.dev.st k.ab
 have g:((En e.Store).bind λv4=>HL e.Flash v4 q.Text)=(En d.Store).bind λv4=>HL d.Flash v4 q.Text:=by
  obtain⟨l,l1,_,l3,l4⟩:=FV h.dev.st;obtain⟨m,m1,_,m3,m4⟩:=FV k.good.dev.st;rw[l1,m1];simp only[Aa];obtain⟨v,v1,v2⟩:=Qq h.dev l4 q.Text;obtain⟨w,w1,w2⟩:=Qq k.good.dev m4 q.Text;rw[v1,w1];congr 1
  have hl:∀c,c∈m↔c∈l:=λc=>by rw[m3,l3,k.ab]
  rcases v2 with⟨rfl,v2⟩|⟨v2,v3⟩
  ·rcases w2 with⟨rfl,_⟩|⟨w2,w3⟩
   ·rfl
   rw[k.text _<|(l3 w).1<|(hl w).1 w2]at w3
   grind
  have a:=(l3 v).1 v2
  rcases w2 with⟨rfl,w2⟩|⟨w2,w3⟩
  ·exact absurd (by rw[k.text _ a];exact v3)<|w2 v<|(hl v).2 v2
  have b:=(l3 w).1<|(hl w).1 w2;rw[k.text _ b]at w3;exact h.data.dist _ _ b a<|by rw[w3,v3]
 unfold DQ;simp only[f,hv,k.nx];simp only[<-Option.bind_assoc,g]
theorem WQ (h:AX f):LV f=E7 f:=by
 obtain⟨v,v1,v2,_⟩:=S4 f h.cap (by have:=h.few;omega);rw[v1,v2]
theorem qN (h:G9 d r) (hw:DW d.Flash 999999000) (q:Oz):UO d q=NK d q:=by
 unfold UO NK;obtain⟨v,p1,p2,p3⟩:=vM d (bT h.dev) q;rw[Vc h.dev,Jv h.dev,PU h.dev,Pp h.dev,p1,p2];simp only[Aa,An,Ad]
 cases a:(v.2.2 !=0)with
 |true=>rfl
 |false=>
  cases l:(q.Kind==6)with
  |true=>
   have hq:ADd q:=by
    obtain⟨i,j,no⟩:=v;have:no=0:=by simpa using a
    subst this;exact TE h.dev p1
   obtain⟨k,hk⟩:∃k:Nat,q.Sector=(k:Int):=⟨_,(AR hq.sec.1).symm⟩;simp only[Al];rw[hk,pH h q.Vol (by have:=hq.sec;omega),Yk h.dev]
  |false=>
   rw[WQ h.dev.fl,bS h hw 20];obtain⟨v5,b⟩:=Lm h.dev.fl;rw[b];simp only[Aa];have clean:∃e all re,(cond (decide<|v5<12) ((Ez d 20).bind λv6=>some (v6.2,v6.1.Flash.Blocks,v6.1.Store.Vols,v6.1.Store.Arena.Knots,v6.1.Store.Next,v6.1.Seq,v6.1.Tx,v6.1.Base)) (some ([],d.Flash.Blocks,d.Store.Vols,d.Store.Arena.Knots,d.Store.Next,d.Seq,d.Tx,d.Base)):Option (List AF×List Block×List Vol×List Ba×Int×Int×Int×Int))=some (all,Flash.Blocks<|Av.Flash e,e.Store.Vols,e.Store.Arena.Knots,e.Store.Next,e.Seq,e.Tx,e.Base)/\G8 20 d r e re:=by
    cases decide (v5<12)with
    |false=>exact⟨d,[],r,rfl,G8.refl h⟩
    |true=>
     obtain⟨e,all,re,k1,k2,k3,_⟩:=TH h hw 20;rw[k1];exact⟨e,all,re,rfl,k2⟩
   obtain⟨e,all,re,k1,k5⟩:=clean;rw[k1];simp only[Aa];have c:Av.mk (Flash.mk e.Flash.Blocks) (Store.mk e.Store.Vols (Arena.mk e.Store.Arena.Knots) e.Store.Next) e.Seq e.Tx e.Base=e:=rfl;have f:Flash.mk e.Flash.Blocks=e.Flash:=rfl;rw[c,f,WS h k5 q,p1,WQ k5.good.dev.fl];simp only[Aa];obtain⟨st,ok,w1,w2,w3⟩:=Ow e k5.good.dev.fl.cap v.1 (by omega) v.2.1;obtain⟨v9,g⟩:=Lm k5.good.dev.fl;rw[w1,w2,g];simp only[Aa];rw[SY k5.good.dev.fl st<|by omega]
   grind
theorem AAc {n:Nat} (h:G9 d r):KD n d r []:=⟨⟨d.Flash,rfl⟩,λk g _ hg=>by
 obtain⟨m,m1,m2⟩:=hg;rw[List.take_nil]at m1;obtain rfl:m=d.Flash:=m1
 rcases m2 with rfl|⟨s,s1,_⟩
 ·obtain⟨x,hx⟩:=(G8.refl (n:=n) h).torn h.dev.fl rfl λ_ h=>h;exact⟨x,r,hx⟩
 simp at s1⟩
def AEy (d:Av) (r:List Ak) (d':Av) (r':List Ak) (g:Flash):Prop:=∃x rx,Cr g=some (x,true)/\x.Flash=g/\G9 x rx/\x.Store.Next<=d.Store.Next+1/\(∀w:Int,DW d.Flash w->DW x.Flash (w+21))/\
 ((AT x.Store=AT d.Store/\∀c,DD (AT d.Store) c->BX rx c=BX r c)\/(AT x.Store=AT d'.Store/\rx=r'))
structure iR (d:Av) (r:List Ak) (q:Oz) (d':Av) (steps:List AF) (t:ByteArray) (no:Int) (r':List Ak):Prop where
 good:G9 d' r'
 len:steps.length<=4010
 nx:d'.Store.Next<=d.Store.Next+1
 ids:ABR d d' q.Vol
 wear:∀w:Int,DW d.Flash w->DW d'.Flash (w+20)
 tk:∀c,DD (AT d.Store) c->BX r' c=BX r c
 kept:no≠0\/q.Kind=6->AT d'.Store=AT d.Store
 text:q.Kind≠6\/no≠0->t=bs []
 read:q.Kind=6->no=0->∃ok,LH d q.Vol q.Sector=some (t,ok)
 done:∃recs text n,DQ d q=some (recs,text,n)/\(n≠0->no=n)/\(n=0->no=0\/no=4\/q.Kind=6/\no=1)/\(no=0->q.Kind≠6->(recs=[]/\AT d'.Store=AT d.Store)\/
  ∃x,recs=[x]/\sF d r q x text/\CQ (AT d.Store) d.Store.Next x=some (AT d'.Store,d'.Store.Next)/\(L text≠ []->BX r' x.Chunk=some q.Text))
 walk:Steps d.Flash steps d'.Flash
 cut:∀k g,k<=steps.length->Zx d.Flash steps k g->AEy d r d' r' g
theorem G8.served {q:Oz} {no:Int} {steps:List AF} (k:G8 20 d r e re) (hs:Steps d.Flash steps e.Flash) (hc:KD 20 d r steps) (hl:steps.length<=4010) (ht:q.Kind≠6\/no≠0->t=bs []) (hr:q.Kind=6->no=0->∃ok,LH d q.Vol q.Sector=some (t,ok)) (hd:∃c text n,DQ d q=some (c,text,n)/\(n≠0->no=n)/\(n=0->no=0\/no=4\/q.Kind=6/\no=1)/\(no=0->q.Kind≠6->c=[])):iR d r q e steps t no re:=by
 obtain⟨c,text,n,h1,h2,h3,h4⟩:=hd;refine⟨k.good,hl,by have:=k.nx;omega,Kg k.ab _,k.wear,k.text,λ_=>k.ab,ht,hr,⟨c,text,n,h1,h2,h3,λa b=> .inl ⟨h4 a b,k.ab⟩⟩,hs,λj g hj hg=>?_⟩;obtain⟨x,rx,x1,x2,x3⟩:=hc.2 j g hj hg;exact⟨x,rx,x1,x2,x3.good,by have:=x3.nx;omega,λw hw b hb=>by have:=x3.wear w hw b hb;omega,.inl ⟨x3.ab,x3.text⟩⟩
theorem tG (h:G9 d r) (hw:DW d.Flash 999999000) (n:d.Store.Next<1000000000) (q:Oz):∃d' steps t no r',NK d q=some (d',steps,t,no)/\iR d r q d' steps t no r':=by
 unfold NK;rw[Jv h.dev,Pp h.dev];obtain⟨f,text,no,p1,p2,p3⟩:=Vi h.dev q;obtain⟨recs',text',no',t1,t2,_⟩:=AAv h.dev n q;rw[p1]at t1;rw[p1];simp only[Aa];have k0:G8 20 d r d r:=G8.refl h;have c0:KD 20 d r []:=AAc h
 cases i:(no !=0)with
 |true=>
  have hn:no≠0:=by simpa using i
  exact⟨_,_,_,_,r,rfl,k0.served rfl c0 (by simp) (λ_=>rfl) (λ_ e=>absurd e hn) ⟨_,_,_,p1,λ_=>rfl,λe=>absurd e hn,λe=>absurd e hn⟩⟩
 |false=>
  have o:no=0:=by simpa using i
  subst o;have hq:=TE h.dev p1
  cases j:(q.Kind==6)with
  |true=>
   have hk:q.Kind=6:=by simpa using j
   obtain⟨k,v⟩:∃k:Nat,q.Sector=(k:Int):=⟨_,(AR hq.sec.1).symm⟩;obtain⟨u,ok,u1⟩:∃u ok,LH d q.Vol q.Sector=some (u,ok):=by
    rw[Yk h.dev,v]
    rcases Wq h q.Vol (k:=k) (by have:=hq.sec;omega)with⟨_,e⟩|⟨h6,c,_,_,_,⟨_,e⟩|⟨_,_,u,_,e⟩⟩<;>exact⟨_,_,e⟩
   rw[u1]
   cases ok with
   |false=>exact⟨_,_,_,_,r,rfl,k0.served rfl c0 (by simp) (λ_=>rfl) (λ_ e=>by cases e) ⟨_,_,_,p1,λe=>absurd rfl e,λ_=> .inr (.inr ⟨hk,rfl⟩),λe=>by cases e⟩⟩
   |true=>exact⟨_,_,_,_,r,rfl,k0.served rfl c0 (by simp) (λe=>by omega) (λ_ _=>⟨true,u1⟩) ⟨_,_,_,p1,λe=>absurd rfl e,λ_=> .inl rfl,λ_ e=>absurd hk e⟩⟩
  |false=>
   have hk:q.Kind≠6:=by simpa using j
   obtain⟨v5,z⟩:=Lm h.dev.fl;rw[z];simp only[Aa];have clean:∃e all re,(cond (decide<|v5<12) ((Ez d 20).bind λv6=>some (v6.2,v6.1.Flash.Blocks,v6.1.Store.Vols,v6.1.Store.Arena.Knots,v6.1.Store.Next,v6.1.Seq,v6.1.Tx,v6.1.Base)) (some ([],d.Flash.Blocks,d.Store.Vols,d.Store.Arena.Knots,d.Store.Next,d.Seq,d.Tx,d.Base)):Option (List AF×List Block×List Vol×List Ba×Int×Int×Int×Int))=some (all,Flash.Blocks<|Av.Flash e,e.Store.Vols,e.Store.Arena.Knots,e.Store.Next,e.Seq,e.Tx,e.Base)/\G8 20 d r e re/\all.length<=4000/\Steps d.Flash all e.Flash/\KD 20 d r all:=by
    cases decide (v5<12)with
    |false=>exact⟨d,[],r,rfl,k0,by simp,rfl,c0⟩
    |true=>
     obtain⟨e,all,re,k1,k2,k3,k4,k5⟩:=TH h hw 20
     grind
   obtain⟨e,all,re,k1,k5,k4,k3,kc⟩:=clean;rw[k1];simp only[Aa];have h0:Av.mk (Flash.mk e.Flash.Blocks) (Store.mk e.Store.Vols (Arena.mk e.Store.Arena.Knots) e.Store.Next) e.Seq e.Tx e.Base=e:=rfl;have h1:Flash.mk e.Flash.Blocks=e.Flash:=rfl;have k2:=k5.good;have l:=WS h k5 q;rw[h0,h1,l,p1];simp only[Aa];have stay:iR d r q e all (bs []) 4 re:=k5.served k3 kc (by omega) (λ_=>rfl) (λhh=>absurd hh hk) ⟨_,_,_,p1,λe=>absurd rfl e,λ_=> .inr (.inl rfl),λe=>by cases e⟩;obtain⟨v9,h2⟩:=Lm k2.dev.fl;obtain⟨st,ok,w1,_,w3⟩:=Ow e k2.dev.fl.cap f (by grind) text;rw[w1,h2]
   cases h3:ok with
   |false=>grind
   |true=>
    subst h3;simp only[An,Ad,Aa]
    cases decide (v9<8)with
    |true=>grind
    |false=>
     rcases p2 with⟨rfl,rfl⟩|⟨_,x,rfl,p4⟩
     ·have h7:Cv e [] (bs [])=some ([],true):=rfl
      injection w1 with w1
      injection w1 with w1 _
      subst w1;obtain⟨d',u1,u2,u3⟩:=k5.torn k2.dev.fl rfl λ_ hh=>hh;rw[M2 k2.dev (steps:=[]) rfl (by simp) u1,Aa,Bw (by simp;omega),AO];exact⟨_,_,_,_,re,rfl,u3.served (by rw[u2];exact k3) kc (by omega) (λ_=>rfl) (λhh=>absurd hh hk) ⟨_,_,_,p1,λe=>absurd rfl e,λ_=> .inl rfl,λ_ _=>rfl⟩⟩
     obtain⟨recs2,text2,no2,s1,s2,_⟩:=Vi k2.dev q;rw[l,p1]at s1;have h4:sF e re q x text:=by grind
     rcases rA k2 h4 with w|⟨steps,d',r',a1,a2,a3,a4,a5,_,a7,_,aw,a8,tt,_,ac⟩
     ·grind
     rw[a1]at w1
     injection w1 with w1
     injection w1 with w1 _
     subst w1;rw[a3,Aa,Bw<|by omega];obtain⟨p,hp⟩:∃p,CQ (AT d.Store) d.Store.Next x=some p:=by grind
     rw[k5.ab,k5.nx,hp,CX]at a5;have hnx':=k5.nx
     have a:∀w:Int,DW d.Flash w->DW d'.Flash (w+20):=λw hw=>aw _<|k5.wear w hw
     refine⟨_,_,_,_,r',rfl,⟨a4,by simp;omega,by omega,λy hy=>by rw[<-p4.2.2.1];grind [Zv,CQ],a,λc hc=>by rw[tt.1 c (by rw[k5.ab];exact hc),k5.text c hc],λhh=>by omega,λ_=>rfl,λhh=>absurd hh hk,
      ⟨_,_,_,p1,λe=>absurd rfl e,λ_=> .inl rfl,λ_ _=> .inr ⟨x,rfl,p4,by rw[hp,a5],λe=>?_⟩⟩,(MR _ _ _ _).2 ⟨_,k3,a8⟩,λk g h8 hg=>?_⟩⟩
     ·rw[tt.2 e]
      rcases p4.2.2.2 with⟨q1,_⟩|⟨_,_,_,q4,_⟩
      ·exact absurd q1 e
      exact q4
     rcases eD hg k3 with⟨c1,c2⟩|⟨c1,c2⟩
     ·obtain⟨x,rx,x1,x2,x3⟩:=kc.2 k g (by omega) c2;exact⟨x,rx,x1,x2,x3.good,by have:=x3.nx;omega,λw hw b hb=>by have:=x3.wear w hw b hb;omega,.inl ⟨x3.ab,x3.text⟩⟩
     by_cases h5:k-all.length<steps.length
     ·obtain⟨y,ry,y1,y2,y3,_⟩:=ac _ g h5 c2;exact⟨y,ry,y1,y2,y3.good,by have:=y3.nx;omega,λw hw b hb=>by have:=y3.wear _ (k5.wear w hw) b hb;omega,.inl ⟨by rw[y3.ab,k5.ab],λc hc=>by rw[y3.text c (by rw[k5.ab];exact hc),k5.text c hc]⟩⟩
     obtain⟨m,m1,m2⟩:=c2;rw[AQ<|by omega]at m1;obtain rfl:=Ll m1 a8
     rcases m2 with rfl|⟨s,s1,_⟩
     ·obtain⟨y,u1,u2,u3⟩:=Kx a4.dev.fl a4.dev.sr;obtain⟨e1,e2,_⟩:=GO a4.dev u2 rfl;exact⟨y,r',u1,u3,⟨u2,a4.core,by rw[e1];exact a4.data,a4.hist⟩,by omega,λw hw b hb=>by rw[u3]at hb;have:=a w hw b hb;omega,.inr ⟨e1,rfl⟩⟩
     grind
def Gv (b:Block):Nat:=if b.Bad=true then 0 else 4-Fj b.Leaves
def Cn (f:Flash):Nat:=(f.Blocks.map Gv).sum
def QC (l:List Leaf):Nat:=(l.filter λx=>x.Is==0).length
theorem VX:∀{l:List Leaf},XR l->QC l=l.length-Fj l
 |[],_=>rfl
 |x::l,h=>by
  have ht:XR l:=λk a b ha hb=>h (k+1) a b (by simpa using ha)<|by simpa using hb
  have ih:=VX ht;have d:=VE l;by_cases e:x.Is=0
  ·have c:∀(k:Nat) y,(x::l)[k]?=some y->y.Is=0:=by
    intro k
    induction k with
    |zero=>intro y hy;simp at hy;rw[<-hy];exact e
    |succ k ihk=>
     intro y hy;have hk:k<(x::l).length:=by have:=(Ae.1 hy).1;omega
     exact h k _ y (Ab hk) hy<|ihk _<|Ab hk
   have h1:Fj (x::l)=0:=by unfold Fj;rw[List.takeWhile_cons_of_neg<|by simp[e]];rfl
   have h2:QC (x::l)=(x::l).length:=by
    unfold QC;rw[Ev.2 λy hy=>?_];obtain⟨k,hk⟩:=List.getElem?_of_mem hy;simpa using c k y hk
   rw[h1,h2];omega
  have h1:Fj (x::l)=Fj l+1:=by unfold Fj;rw[List.takeWhile_cons_of_pos<|by simp[e]];rfl
  have h2:QC (x::l)=QC l:=by unfold QC;rw[I4<|by simp[e]]
  rw[h1,h2,ih,AD];omega
theorem uD {b:Block} (h:IB b):Gv b=if b.Bad=true then 0 else QC b.Leaves:=by unfold Gv;rw[VX h.turn,h.four]
theorem xJ (b:Block):Gv b<=4:=by unfold Gv;split<;>omega
theorem rV (l:List Block):(l.map Gv).sum<=4*l.length:=by
 induction l with
 |nil=>simp
 |cons b l ih=>have:=xJ b;rw[CJ,EV,AD];omega
theorem xI (h:AX f):Cn f<=40:=by have:=rV f.Blocks;have:=h.n;unfold Cn;omega
theorem ZI (h:AX f):E7 f=some ((Cn f:Nat):Int):=by
 have hn:=h.n;unfold E7;obtain⟨b,h1,h2⟩:=AA (body:=λs:Int×Int=>GF f s.1 s.2) (λ(o:Int) i=>(o,i)) f.Blocks.length (λi o=>o=(((f.Blocks.take i).map Gv).sum:Nat)) (λb=>b=((Cn f:Nat):Int))
  (λo i hi ho=>by
   have hx:=Ab hi;have hP:=h.blk _<|Ar hi;have h4:=hP.four;have et:f.Blocks.take (i+1)=f.Blocks.take i++ [f.Blocks[i]]:=Af hi;have a:=rV<|f.Blocks.take i;rw[I2]at a;simp only[GF,DL hi];obtain⟨c,q1,q2⟩:=AA (body:=λs:Int×Int=>GE f (i:Int) s.1 s.2) (λ(o:Int) k=>(o,k)) f.Blocks[i].Leaves.length (λk z=>z=o+((if f.Blocks[i].Bad=true then 0 else QC (f.Blocks[i].Leaves.take k):Nat):Int)) (λz=>z=o+((Gv f.Blocks[i]:Nat):Int))
    (λz k hk hz=>by
     have hy:=Ab hk;have ek:f.Blocks[i].Leaves.take (k+1)=f.Blocks[i].Leaves.take k++ [f.Blocks[i].Leaves[k]]:=Af hk;have g:QC (f.Blocks[i].Leaves.take k)<=k:=by unfold QC;have:=GL (λx:Leaf=>x.Is==0)<|f.Blocks[i].Leaves.take k;rw[I2]at this;omega
     have d:QC (f.Blocks[i].Leaves.take<|k+1)=QC (f.Blocks[i].Leaves.take k)+(if f.Blocks[i].Leaves[k].Is=0 then 1 else 0):=by
      rw[ek];unfold QC;rw[Cb,A9];congr 1;by_cases e:f.Blocks[i].Leaves[k].Is=0
      ·rw[BE e,I3<|by simp[e]];rfl
      rw[Bi e,I4<|by simp[e]];rfl
     simp only[GE,Ap,hx,Aa,DL hk,hy];rw[ad1];refine .inl ?_
     cases hb:f.Blocks[i].Bad with
     |true=>
      rw[hb,BE rfl]at hz;exact⟨z,rfl,by rw[BE rfl];exact hz⟩
     |false=>
      rw[hb,Bi<|by simp]at hz;simp only[BK,Al];rw[Bi (by simp),d];by_cases e:f.Blocks[i].Leaves[k].Is=0
      ·rw[show(f.Blocks[i].Leaves[k].Is==0)=true by simp[e],Al,BZ,BE e];exact⟨_,rfl,by omega⟩
      rw[show(f.Blocks[i].Leaves[k].Is==0)=false by simp[e],Ad,Bi e]
      exact⟨_,rfl,by omega⟩)
    (λz hz=>⟨z,by simp only[GE,Ap,hx,Aa,Dx],by rw[hz,D1,uD hP]⟩) (s:=o) (by
     simp[QC])
   rw[q1,q2,Aa,ad1];refine .inl ⟨_,rfl,?_⟩;rw[et,Jp,List.sum_append,ho]
   simp)
  (λo ho=>⟨o,by simp only[GF,Dx],by rw[ho,D1];rfl⟩) (s:=0) rfl
 rw[h1,h2];rfl
theorem eX:∀(l:List Block) (c:Nat) (x y:Block),l[c]?=some x->((l.set c y).map Gv).sum+Gv x=(l.map Gv).sum+Gv y
 |[],c,x,y,h=>by simp at h
 |b::l,0,x,y,h=>by
  simp only[MS,Ay]at h;rw[SB,CJ,EV,CJ,EV,h];omega
 |b::l,c+1,x,y,h=>by
  have:=eX l c x y (by simpa using h);rw[List.set_cons_succ,CJ,EV,CJ,EV];omega
theorem dB {l:Int} (h:AX f) (hm:aT f b l t):Cn (Q8 f b l (Leaf.mk 1 t))+1=Cn f:=by
 obtain⟨x,x1,x2,rfl,x4,_⟩:=hm;obtain⟨k1,k2⟩:=C0 x1;obtain⟨c,rfl⟩:∃c:Nat,b=(c:Int):=⟨_,(AR k1).symm⟩;rw[C1]at k2;have hP:=h.blk x<|Ao k2;unfold Q8 Cn;rw[x1];simp only[Ew];have hs:=eX f.Blocks c x (Block.mk x.Bad x.Wear<|x.Leaves.set (Fj x.Leaves)<|Leaf.mk 1 t) k2;have j:Gv x=4-Fj x.Leaves:=by unfold Gv;rw[x2];rfl
 have n:Gv (Block.mk x.Bad x.Wear<|x.Leaves.set (Fj x.Leaves)<|Leaf.mk 1 t)=4-(Fj x.Leaves+1):=by
  unfold Gv;simp only[x2];rw[Bi<|by simp];congr 1;have d:Fj x.Leaves<x.Leaves.length:=by rw[hP.four];exact x4
  have g:∀(l:List Leaf) (y:Leaf),y.Is≠0->Fj l<l.length->XR l->Fj (l.set (Fj l) y)=Fj l+1:=by
   intro l
   induction l with
   |nil=>intro y _ h;simp at h
   |cons a l ih=>
    intro y hy i ht;by_cases e:a.Is=0
    ·have h0:Fj (a::l)=0:=by unfold Fj;rw[List.takeWhile_cons_of_neg<|by simp[e]];rfl
     rw[h0,SB];unfold Fj;rw[List.takeWhile_cons_of_pos<|by simpa using hy]
     cases l with
     |nil=>rfl
     |cons z m=>
      have hz:=ht 0 a z rfl rfl e;rw[List.takeWhile_cons_of_neg<|by simp[hz]];rfl
    have h0:Fj (a::l)=Fj l+1:=by unfold Fj;rw[List.takeWhile_cons_of_pos<|by simp[e]];rfl
    rw[h0,List.set_cons_succ];have h1:Fj (a::l.set (Fj l) y)=Fj (l.set (Fj l) y)+1:=by unfold Fj;rw[List.takeWhile_cons_of_pos<|by simp[e]];rfl
    rw[h1,ih y hy (by rw[h0,AD]at i;omega) λk u v hu hv=>ht (k+1) u v (by simpa using hu)<|by simpa using hv]
  exact g x.Leaves (Leaf.mk 1 t) (by simp) d hP.turn
 omega
theorem wE {l:List Block} (h:∀b∈l,b.Bad=false->Fj b.Leaves=4):(l.map Gv).sum=0:=by
 induction l with
 |nil=>rfl
 |cons b l ih=>
  rw[CJ,EV,ih λx hx=>h x<|by simp[hx]];unfold Gv;split
  ·rfl
  rename_i e;rw[h b (by simp)<|by simpa using e]
theorem kQ {g:Flash} {ss:List AF} {ps:List Page} {p:Page} (hg:AX g) (h:FR f ss ps g) (hs:ss.length<=1000) (hp:GH p) (hr:0<Cn g):∃s g',CO g ss p=some (g',ss++ [s],true)/\FR f (ss++ [s]) (ps++ [p]) g'/\AX g'/\Cn g'+1=Cn g:=by
 obtain⟨t,t1,t2,t3,t4⟩:=dG hp;obtain⟨b,l,room,p1,p2,p3⟩:=Wz hg
 cases room with
 |false=>
  have:=wE<|p3 rfl;unfold Cn at hr;omega
 |true=>
  obtain⟨x,a1,a2,a3,a4⟩:=p2 rfl;have hm:aT g b l t:=⟨x,a1,a2,a3,a4,t2,t3⟩
  rcases Tk hg ss (by omega) p t1 (λ_=>⟨t2,t3⟩)with⟨_,b',l',q1,q3,q2⟩|q
  ·rw[p1]at q3
   injection q3 with q3
   obtain⟨rfl,rfl⟩:b=b'/\l=l':=by injection q3 with e1 e2;injection e2 with e2 _;exact⟨e1,e2⟩
   exact⟨_,_,q2,TD h hm t4,(Nl hg hm).1,dB hg hm⟩
  exfalso;unfold CO at q;rw[t1,p1]at q;simp only[Aa,An,Ad]at q;have hd:=Po hg<|AF.mk 1 b l t
  rcases hd with⟨_,e⟩|⟨e,_⟩
  ·rw[e]at q;simp only[Aa]at q;rw[Bw (by simp;omega)]at q;simp at q
  exact e<|.inl ⟨rfl,hm⟩
theorem uN {ss0:List AF} (ps:List Page) (e:ps.length<=9) (c:∀p∈ps,GH p) {a:List Page} {g0:Flash} (h:FR f ss0 a g0) (hg:AX g0) (h1:ss0.length<=1) (hr:ps.length<=Cn g0):∃ss,Ai (λs:List AF×Bool×Int×List Block=>Bj (ps,true) s.1 s.2.1 s.2.2.1 s.2.2.2) (ss0,true,0,g0.Blocks)=some (ss,true):=by
 obtain⟨b,q1,ss,q2⟩:=AA (body:=λs:List AF×Bool×Int×List Block=>Bj (ps,true) s.1 s.2.1 s.2.2.1 s.2.2.2) (λ(o:List AF×Flash) i=>(o.1,true,i,o.2.Blocks)) ps.length
  (λi o=>FR f o.1 (a++ps.take i) o.2/\AX o.2/\o.1.length<=i+1/\Cn o.2+i=Cn g0) (λb=>∃ss,b=(ss,true))
  (λo i hi hs=>by
   obtain⟨ss,g⟩:=o;obtain⟨k1,k2,k3,k4⟩:=hs;simp only at k1 k2 k3 k4;have hx:=Ab hi;have d:Flash.mk g.Blocks=g:=rfl;obtain⟨s,g',p1,p2,p3,p4⟩:=kQ k2 k1 (by omega) (c _<|Ar hi) (by omega);simp only[Bj,JB,Ac hi,Al,Ap,hx,Aa];rw[d,p1,Aa,ad1]
   exact .inl ⟨(ss++ [s],g'),rfl,by rw[Af hi,<-BA];exact p2,p3,by simp;omega,by show Cn g'+(i+1)=_;omega⟩)
  (λo _=>⟨_,by simp only[Bj,JB,Nat.lt_irrefl,decide_false,Ad,Aa],o.1,rfl⟩) (s:=(ss0,g0)) ⟨by rw[bN,AO];exact h,hg,by simpa using h1,by simp⟩
 exact⟨ss,by rw[<-q2];exact q1⟩
theorem o6 {T:List ByteArray} {seq tx:Int} (h1:1<=seq) (h2:seq+T.length-1<=1000000000) (h3:1<=tx) (h4:tx<=1000000000) (h9:T.length<=9) (ht:∀t∈T,(L t).length<=90):∀p∈Bz seq tx T,GH p:=by
 intro p hp;unfold Bz at hp;obtain⟨i,hi,rfl⟩:=Au hp;rw[List.length_mapIdx]at hi;rw[List.getElem_mapIdx];have:=ht _<|Ar hi;unfold GH;simp;omega
theorem nT (hf:AX d.Flash) (b:List Ch) (i:b≠ []) (hr:b.length<=8) (j:∀r∈b,FM r=true) (a:ByteArray) (n:1<=d.Seq/\d.Seq<=999999900) (h:1<=d.Tx/\d.Tx<=1000000000) (k:L a≠ []->(L a).length<=90/\∀c,b[b.length-1]?=some c->1<=c.Chunk/\c.Chunk<=1000000000) (l:b.length+2<=Cn d.Flash):∃steps,Cv d b a=some (steps,true):=by
 have o:0<b.length:=Il.2 i;obtain⟨c,g⟩:∃c,b[b.length-1]?=some c:=⟨_,Ab<|by omega⟩;unfold Cv;rw[show(ln b==0)=false by rw[beq_eq_false_iff_ne,Bh];omega];simp only[Ad];have first:∃ss0 g0,(cond (!(seq a<|bs [])) (((gi b<|sb (ln b) 1).bind λx1=>(CO d.Flash []<|Page.mk 1 d.Seq x1.Chunk 0 1 a).bind λv1=>some (v1.2.1,v1.2.2,v1.1.Blocks):Option (List AF×Bool×List Block)).bind λj2=>some (j2.1,ad d.Seq 1,j2.2.1,j2.2.2)) (some ([],d.Seq,true,d.Flash.Blocks)):Option (List AF×Int×Bool×List Block))=some (ss0,Fi d a,true,Flash.Blocks g0)/\FR d.Flash ss0 (Cg d c.Chunk a) g0/\AX g0/\ss0.length<=1/\Cn d.Flash<=Cn g0+1:=by
  by_cases ht:L a=[]
  ·have:seq a (bs [])=true:=by rw[KJ,AZ];exact JJ (by rw[ht,DH])
   rw[this];refine⟨[],d.Flash,?_,?_,hf,by simp,by omega⟩
   ·unfold Fi;rw[BE ht];rfl
   unfold Cg;rw[BE ht];rfl
  have:seq a (bs [])=false:=by
   rw[KJ,decide_eq_false_iff_not];intro e;exact ht<|by rw[e,DH]
  obtain⟨hl,hc⟩:=k ht;have hc:=hc c g;rw[this];simp only[BK,Al];rw[Bh,BL,show(b.length:Int)-1=((b.length-1:Nat):Int) by omega,Ap,g,Aa,BZ];have e1:Fi d a=d.Seq+1:=by unfold Fi;rw[Bi ht]
  have e2:Cg d c.Chunk a=[Page.mk 1 d.Seq c.Chunk 0 1 a]:=by unfold Cg;rw[Bi ht]
  rw[e1,e2];obtain⟨s,g',q1,q2,q3,q4⟩:=kQ (f:=d.Flash) (ss:=[]) (ps:=[]) hf rfl (by simp) (p:=Page.mk 1 d.Seq c.Chunk 0 1 a) (by unfold GH;simp;omega) (by omega);rw[q1];exact⟨_,g',rfl,q2,q3,by simp,by omega⟩
 obtain⟨ss0,g0,e0,h0,h1,h2,h3⟩:=first
 rw[e0];simp only[Aa];have m:1<=Fi d a/\Fi d a<=999999901:=by unfold Fi;split<;>omega
 obtain⟨T,t1,t2,t3,tl,t4⟩:=eN (Fi d a) d.Tx b (by omega) j
 rcases t4 with⟨t4,t5,t6,t7,t8,t9⟩|⟨t4,t5⟩
 ·rw[t4];simp only[Aa];have q:(Bz (Fi d a) d.Tx T).length=T.length:=by unfold Bz;rw[List.length_mapIdx]
  obtain⟨ss,q1⟩:=uN (Bz (Fi d a) d.Tx T) (by omega) (o6 t6 t7 t8 t9 t5 t3) h0 h1 h2 (by omega);rw[q1];exact⟨ss,rfl⟩
 exact absurd ⟨by omega,m.1,by omega,h.1,h.2⟩ t5
theorem ZL:∀{f:Flash} {ss:List AF} {ps:List Page} {g:Flash},AX f->FR f ss ps g->Cn g+ss.length=Cn f
 |f,[],[],g,_,h=>by rw[show g=f from h];rfl
 |f,s::ss,p::ps,g,hf,h=>by
  have e:JP f s=Q8 f s.Block s.Leaf (Leaf.mk 1 s.Text):=by unfold JP;rw[BE h.1]
  have h1:=dB hf h.2.1;have h2:=ZL (by rw[e];exact(Nl hf h.2.1).1) h.2.2.2;rw[e]at h2;rw[AD];omega
 |f,[],q::ps,g,_,h=>h.elim
 |f,s::ss,[],g,_,h=>h.elim
theorem ADQ {o s:Int} (hk:3<=k/\k<=6) (hv:1<=v/\v<=9) (hs:0<=s/\s<=15) (h0:k≠6->s=0) (ho:if k=4 then 1<=o/\o<=9 else o=0):Ka (Oz.mk k v s o (bs []))=some true:=by
 unfold Ka;simp only[DV,Bo,DH];rw[Ac (by omega:(1:Int)<=k/\k<=6),Ac hv,Ac hs,show seq (bs []) (bs [])=true by rw[KJ];simp,show(k !=1)=true by simp;omega];by_cases h4:k=4
 ·subst h4;rw[BE rfl]at ho;rw[Ac ho,h0<|by omega];rfl
 rw[Bi h4]at ho;subst ho;rw[show(k==4)=false by simpa using h4];by_cases h6:k=6
 ·subst h6;rfl
 rw[h0 h6]
 rcases(by omega:k=3\/k=5)with rfl|rfl<;>rfl
theorem yE {s:Int} (h:Fe d r) (hk:k=5\/k=6) (hv:1<=v/\v<=9) (hs:0<=s/\s<=15) (h0:k≠6->s=0):DQ d (Oz.mk k v s 0 (bs []))=some (if K3 (AT d.Store) v=none then([],bs [],1)else if k=5 then([Ch.mk 3 v 0 0],bs [],0)else([],bs [],0)):=by
 have a:=h.st.len;obtain⟨w,w1,w2⟩:=qC d.Store (by omega) v;unfold DQ;rw[ADQ (by omega) hv hs h0<|by rw[Bi<|by omega]];simp only[Aa,An,Ad];rw[w1];simp only[Aa];by_cases e:K3 (AT d.Store) v=none
 ·rw[BE e,Ah (by have:=w2.2 e;omega:¬w>=0)]
  rcases hk with rfl|rfl<;>rfl
 rw[Bi e,Ac (Int.not_lt.1 λhh=>e (w2.1 hh):w>=0)]
 rcases hk with rfl|rfl<;>rfl
theorem pL (h:Fe d r):R7 d=some true:=by
 have hn:=h.fl.n;have a:=h.fl.few;have e:r.length<=nl d.Flash.Blocks:=by
  have h1:=f9 0 d.Flash.Blocks;have h3:=h.sr.2.len;omega
 unfold R7;obtain⟨v,h1,h2⟩:=AA (body:=λs:Int×Int=>Ma d s.1 s.2) (λ(s:Int) i=>(s,i)) d.Flash.Blocks.length (λi n=>n=(((d.Flash.Blocks.take i).map λb=>b.Leaves.length).sum:Nat)) (λv=>v= .inl ((nl d.Flash.Blocks:Nat):Int))
  (λn i hi hs=>by
   have hb:d.Flash.Blocks[i]?=some d.Flash.Blocks[i]:=Ab hi;have hw:=(h.fl.blk _<|Ar hi).wear;have c:=O5 (λb:Block=>b.Leaves.length) d.Flash.Blocks i hi;have f:=LA (λb:Block=>b.Leaves.length) d.Flash.Blocks<|i+1;unfold nl at a;simp only[Ma,DL hi,Ap,hb,Aa];rw[VN,Ac hw];simp only[Aa,An,Ad];rw[ad1,BZ (by rw[Bh];omega) (by rw[Bh];omega),Bh]
   exact .inl ⟨_,rfl,by omega⟩)
  (λn hs=>⟨.inl n,by simp only[Ma,Dx],by rw[hs,D1];rfl⟩) (s:=0) (by simp)
 rw[h1,h2];obtain⟨w,w1,w2,w3,w4⟩:=S4 d.Flash h.fl.cap (by have:=h.fl.few;omega);simp only[Aa,Df];rw[w2,Aa,cT,h.scan.i,Aa,Bh,Ac<|by omega]
theorem ACV (h:code.length<=1048576):bV code=some false:=by grind [Bh,bV]
def OE (f:Flash):Prop:=5<=f.Blocks.length/\∀b∈f.Blocks,b.Bad=false
theorem wM {α:Type} {l:List α} {x y:α} (h:y∈si l i x):y∈l\/y=x:=Cx h
theorem jJ (h:OE f) (s:AF):OE (JP f s):=by
 obtain⟨h1,h2⟩:=h;unfold JP;split
 ·unfold Q8
  cases hx:gi f.Blocks s.Block with
  |none=>exact⟨h1,h2⟩
  |some x=>
   refine⟨by unfold si;simpa using h1,λb hb=>?_⟩
   rcases wM hb with hb|rfl
   ·exact h2 b hb
   exact h2 x<|Ao (C0 hx).2
 unfold Qr
 cases hx:gi f.Blocks s.Block with
 |none=>exact⟨h1,h2⟩
 |some x=>
  refine⟨by unfold si;simpa using h1,λb hb=>?_⟩
  rcases wM hb with hb|rfl
  ·exact h2 b hb
  rfl
theorem Ok:∀{f:Flash} {ss:List AF} {g:Flash},Steps f ss g->OE f->OE g
 |f,[],g,h,hb=>by rw[show g=f from h];exact hb
 |f,s::ss,g,h,hb=>Ok h.2 (jJ hb s)
theorem AAe {l:List Leaf} (ht:XR l):(∃x∈l,x.Is≠0)↔0<Fj l:=by
 have h1:=VX ht;have h2:=VE l;constructor
 ·rintro⟨x,hx,e⟩
  refine Nat.pos_of_ne_zero λh0=>?_
  rw[h0]at h1;unfold QC at h1;have:=List.length_filter_eq_length_iff.1 (show(l.filter λx=>x.Is==0).length=l.length by omega) x hx;exact e<|by simpa using this
 intro h;have a:QC l<l.length:=by omega
 refine Classical.byContradiction λhh=>?_
 have:QC l=l.length:=by
  unfold QC
  rw[Ev.2 λx hx=>by
   have:x.Is=0:=Classical.byContradiction λe=>hh ⟨x,hx,e⟩
   simpa using this]
 omega
theorem pB (h:IB x):Jg x=some (!decide (0<Fj x.Leaves)):=by
 have h4:=h.four;unfold Jg;obtain⟨b,h1,h2⟩:=AA (body:=λs:Int=>EE x s) (λ(_:Unit) i=>i) x.Leaves.length (λi _=>∀j y,j<i->x.Leaves[j]?=some y->y.Is=0) (λb=>(b= .inl ()/\∀y∈x.Leaves,y.Is=0)\/(b= .inr false/\∃y∈x.Leaves,y.Is≠0))
  (λ_ i hi hs=>by
   have hx:=Ab hi;simp only[EE,DL hi,Ap,hx,Aa];by_cases e:x.Leaves[i].Is=0
   ·rw[show(x.Leaves[i].Is !=0)=false by simp[e],Ad,ad1];refine .inl ⟨(),rfl,λj y hj hy=>?_⟩;by_cases a:j=i
    ·subst a;rw[hx]at hy
     injection hy with hy
     rw[<-hy];exact e
    exact hs j y (by omega) hy
   rw[show(x.Leaves[i].Is !=0)=true by simpa using e,Al]
   exact .inr ⟨_,rfl,.inr ⟨rfl,_,Ar hi,e⟩⟩)
  (λ_ hs=>⟨_,by simp only[EE,Dx],.inl ⟨rfl,λy hy=>by
   obtain⟨j,hj,e⟩:=Au hy
   exact hs j y hj (by rw[<-e];exact Ab hj)⟩⟩) (s:=()) (λj y hj=>by omega)
 rw[h1]
 rcases h2 with⟨rfl,h2⟩|⟨rfl,h2⟩
 ·rw[Ah λhh=>by
   obtain⟨y,hy,e⟩:=(AAe h.turn).2 hh
   exact e<|h2 y hy]
  rfl
 rw[Ac<|(AAe h.turn).1 h2];rfl
theorem YI (h:Fe d r) (hv:AT d.Store=[]):En d.Store=some []:=by
 obtain⟨l,l1,_,l3,_⟩:=FV h.st
 have:l=[]:=List.eq_nil_iff_forall_not_mem.2 λx hx=>by
  obtain⟨_,p,hp,_⟩:=(l3 x).1 hx;rw[hv]at hp;cases hp
 rw[l1,this]
theorem ADc (h:Fe d r) (hv:AT d.Store=[]):∃l,FK d=some l/\(∀b∈l,∃c:Nat,∃x,b=(c:Int)/\d.Flash.Blocks[c]?=some x/\x.Bad=false/\0<Fj x.Leaves)/\
  (l=[]->∀(i:Nat) x,d.Flash.Blocks[i]?=some x->x.Bad=false->0<Fj x.Leaves->∃y∈r,y.Block=i/\y.Page.Kind=2/\d.Base<=y.Page.Tx):=by
 have hn:=h.fl.n;unfold FK;rw[h.scan.s,YI h hv];simp only[Aa];rw[Jc r [] d.Base h.scan.len<|by simp];simp only[List.foldl_nil,Aa];obtain⟨b,q1,q2⟩:=AA (body:=λs:List Int×Int=>CA d r (r.map<|CB d.Base) s.1 s.2) (λ(o:List Int) i=>(o,i)) d.Flash.Blocks.length
  (λi o=>o.length<=i/\(∀b∈o,∃c:Nat,∃x,b=(c:Int)/\d.Flash.Blocks[c]?=some x/\x.Bad=false/\0<Fj x.Leaves)/\
   (o=[]->∀(j:Nat) x,j<i->d.Flash.Blocks[j]?=some x->x.Bad=false->0<Fj x.Leaves->∃y∈r,y.Block=j/\y.Page.Kind=2/\d.Base<=y.Page.Tx))
  (λo=>(∀b∈o,∃c:Nat,∃x,b=(c:Int)/\d.Flash.Blocks[c]?=some x/\x.Bad=false/\0<Fj x.Leaves)/\
   (o=[]->∀(j:Nat) x,d.Flash.Blocks[j]?=some x->x.Bad=false->0<Fj x.Leaves->∃y∈r,y.Block=j/\y.Page.Kind=2/\d.Base<=y.Page.Tx))
  (λo i hi ho=>by
   obtain⟨o1,o2,o3⟩:=ho;have hx:=Ab hi;have hP:=h.fl.blk _<|Ar hi;simp only[CA,DL hi,Ap,hx,Aa];rw[pB hP,SH r _ (i:Int) h.scan.len (by simp),ad1];simp only[Aa,Bool.not_not];refine .inl ?_
   cases p:d.Flash.Blocks[i].Bad with
   |true=>
    refine⟨o,rfl,by omega,o2,λe j x hj a hb f=>?_⟩;by_cases g:j=i
    ·subst g;rw[hx]at a
     injection a with a
     rw[<-a,p]at hb;cases hb
    exact o3 e j x (by omega) a hb f
   |false=>
    by_cases m:0<Fj d.Flash.Blocks[i].Leaves
    ·rw[Ac m];simp only[BK,Al,Aa]
     cases hz:(((cn r.length (λj=>(r.map<|CB d.Base)[j]?.getD false&&bk r (i:Int) j):Nat):Int)==0)with
     |true=>
      simp only[Al];rw[Bw (by simp;omega)];refine⟨o++ [(i:Int)],rfl,by simp;omega,λb hb=>?_,λe=>by simp at e⟩;rw[Az,B8]at hb
      rcases hb with hb|rfl
      ·exact o2 b hb
      exact⟨i,_,rfl,hx,p,m⟩
     |false=>
      refine⟨o,rfl,by omega,o2,λe j x hj a hb f=>?_⟩;by_cases g:j=i
      ·subst g;have hc:cn r.length (λk=>(r.map<|CB d.Base)[k]?.getD false&&bk r (j:Int) k)≠0:=by simpa using hz
       unfold cn at hc;obtain⟨k,hk⟩:=List.exists_mem_of_length_pos<|Nat.pos_of_ne_zero hc;obtain⟨k1,k2⟩:=AG.1 hk;rw[N8]at k1;have hr:=Ab k1;rw[F7,hr,Aj]at k2;unfold bk at k2;rw[hr]at k2;simp only[Hq,CX,CB,Aj,G5,AZ]at k2;exact⟨_,Ar k1,k2.2,k2.1.1,k2.1.2⟩
      exact o3 e j x (by omega) a hb f
    rw[Ah m];refine⟨o,rfl,by omega,o2,λe j x hj a hb f=>?_⟩;by_cases g:j=i
    ·subst g;rw[hx]at a
     injection a with a
     rw[<-a]at f;exact absurd f m
    exact o3 e j x (by omega) a hb f)
  (λo ho=>⟨o,by simp only[CA,Dx],ho.2.1,λe j x hj=>ho.2.2 e j x (Ae.1 hj).1 hj⟩) (s:=[]) ⟨by simp,(λb hb=>by cases hb),λ_ j x hj=>by omega⟩
 exact⟨b,by rw[q1];rfl,q2⟩
theorem mX (h:Fe d r) (hv:AT d.Store=[]) (ht:∀y∈r,y.Page.Kind=2->y.Page.Tx<1000000000):HE d=some (-1):=by
 have hn:=h.fl.n;unfold HE;rw[h.scan.s,YI h hv];simp only[Aa];rw[Jc r [] d.Base h.scan.len (by simp),Jc r [] 1000000000 h.scan.len<|by simp];simp only[List.foldl_nil,Aa];obtain⟨b,h1,rfl⟩:=AA (body:=λs:Int×Int×Int=>C3 d r (r.map<|CB d.Base) (r.map<|CB 1000000000) s.1 s.2.1 s.2.2) (λ(_:Unit) i=>(-1,4,i)) d.Flash.Blocks.length (λ_ _=>True) (λb=>b= -1)
  (λo i hi _=>by
   have hx:=Ab hi;have hP:=h.fl.blk _<|Ar hi;have h0:cn r.length (λj=>(r.map<|CB 1000000000)[j]?.getD false&&bk r (i:Int) j)=0:=by
    unfold cn;rw[List.length_eq_zero_iff,B9];intro k hk hh;rw[N8]at hk;have hr:=Ab hk;rw[F7,hr,Aj]at hh;have h2:=hh.1;simp only[Hq,CX,CB,Aj,G5,AZ]at h2;have:=ht _ (Ar hk) h2.1;omega
   simp only[C3,DL hi,Ap,hx,Aa];rw[SH r _ (i:Int) h.scan.len (by simp),SH r _ (i:Int) h.scan.len (by simp),HK _ hP.four,ad1,h0];simp only[Aa];refine .inl ⟨(),?_,trivial⟩;generalize cn r.length _=m
   cases d.Flash.Blocks[i].Bad with
   |true=>rfl
   |false=>
    simp only[BK,Al]
    cases _==(4:Int)with
    |false=>rfl
    |true=>
     cases hm:((m:Int)==((0:Nat):Int))with
     |false=>rfl
     |true=>
      have:m=0:=by simpa using hm
      subst this
      rfl)
  (λo _=>⟨-1,by simp only[C3,Dx],rfl⟩) (s:=()) trivial
 rw[h1];rfl
def Bd (d:Av) (r:List Ak):Prop:=∃x,Cy (A6 r)=[x]/\X3 x=true/\d.Tx=x.Num+1
theorem u9 {x:Tx} (h:Fe d r) (hx:x∈A6 r):x.Num<d.Tx:=by
 obtain⟨_,y,y1,y2,y3⟩:=(Lg h.pages).1 hx;have:=(Hs r).1 y y1 y2;rw[h.tx];omega
theorem ABT (h:Fe d r):∃v,H7 d=some v/\(v=true↔Bd d r):=by
 have hr:=h.pages;have n:1<=d.Tx/\d.Tx<=1000000001:=by
  rw[h.tx];exact⟨(Hs r).2.1,(Hs r).2.2 _ (by omega) λy hy _=>by have:=(hr.tx y hy).2;omega⟩
 obtain⟨g1,_⟩:=Qd hr;have a:=Zi r hr;have bd:Bd d r->∃x∈A6 r,x.Num=d.Base/\d.Base=d.Tx-1/\X3 x=true:=by
  rintro⟨x,x1,x2,x3⟩;obtain⟨A,a1,_⟩:=NB<|A6 r;refine⟨x,by rw[a1,x1];simp,?_,?_,x2⟩
  ·rw[h.base,x1];rfl
  rw[h.base,x1];show x.Num=_;omega
 unfold H7;rw[BL];by_cases hb:d.Base=d.Tx-1
 ·rw[show(d.Base !=d.Tx-1)=false by simpa using hb,Ad,h.scan.s,Aa,LK r hr];simp only[Aa];obtain⟨b,q1,q2⟩:=AA (body:=λs:Int=>D4 d (A6 r) s) (λ(_:Unit) i=>i) (A6 r).length (λi _=>∀j x,j<i->(A6 r)[j]?=some x->x.Num≠d.Base)
   (λb=>(b= .inl ()/\∀x∈A6 r,x.Num≠d.Base)\/∃x∈A6 r,x.Num=d.Base/\b= .inr (X3 x))
   (λ_ i hi hs=>by
    have hx:=Ab hi;simp only[D4,DL hi,Ap,hx,Aa];rw[ad1];by_cases e:(A6 r)[i].Num=d.Base
    ·rw[show((A6 r)[i].Num==d.Base)=true by simpa using e];refine .inr ?_
     cases f:(A6 r)[i].Recs with
     |nil=>exact⟨_,rfl,.inr ⟨_,Ar hi,e,by unfold X3;rw[f]⟩⟩
     |cons q m=>
      have hg:gi (q::m) 0=some q:=Ap (i:=0);simp only[Al];rw[Bh,AD,Ac (by omega),hg];exact⟨_,rfl,.inr ⟨_,Ar hi,e,by unfold X3;rw[f]⟩⟩
    rw[show((A6 r)[i].Num==d.Base)=false by simpa using e];refine .inl ⟨(),rfl,λj x hj c=>?_⟩;by_cases g:j=i
    ·subst g;rw[hx]at c
     injection c with c
     rw[<-c];exact e
    exact hs j x (by omega) c)
   (λ_ hs=>⟨.inl (),by simp only[D4,Dx],.inl ⟨rfl,λx hx=>by
    obtain⟨j,hj,e⟩:=Au hx
    exact hs j x hj (by rw[<-e];exact Ab hj)⟩⟩) (s:=()) (λj x hj=>by omega)
  rw[q1]
  rcases q2 with⟨rfl,q2⟩|⟨x,hx,q2,rfl⟩
  ·refine⟨false,rfl,by simp,λhh=>?_⟩;obtain⟨x,x1,x2,_⟩:=bd hh;exact absurd x2<|q2 x x1
  refine⟨X3 x,rfl,λhB=>?_,λhh=>?_⟩
  ·
   obtain⟨i,hi,e⟩:=Au hx;have k:i+1=(A6 r).length:=by
    refine Classical.byContradiction λo=>?_
    have h1:=Cc.1 a i (i+1) hi (by omega) (by omega);have h2:=u9 h (Ar<|show i+1<(A6 r).length by omega);rw[e]at h1;omega
   have l:A6 r=(A6 r).take i++ [x]:=by
    have:=Af hi;rw[AQ (by omega),e]at this;exact this
   exact⟨x,by rw[l,MF,BE hB],hB,by omega⟩
  obtain⟨z,z1,z2,_,z4⟩:=bd hh;obtain⟨i,hi,e⟩:=Au hx;obtain⟨j,hj,e'⟩:=Au z1;have:i=j:=by
   rcases N7 i j with hl|hl|hl
   ·have:=Cc.1 a i j hi hj hl;rw[e,e']at this;omega
   ·exact hl
   have:=Cc.1 a j i hj hi hl;rw[e,e']at this;omega
  subst this;rw[<-e,e'];exact z4
 rw[show(d.Base !=d.Tx-1)=true by simpa using hb];refine⟨false,rfl,by simp,λhh=>?_⟩;obtain⟨_,_,_,x3,_⟩:=bd hh;exact absurd x3 hb
theorem nV {c:Nat} (hx:f.Blocks[c]?=some x) (hb:x.Bad=false):Cn (Qr f (c:Int))+(4-Fj x.Leaves)=Cn f+4:=by
 unfold Cn Qr;rw[Ap,hx];simp only[Ew];have hs:=eX f.Blocks c x (Block.mk false (x.Wear+1) Lj) hx;have h1:Gv x=4-Fj x.Leaves:=by unfold Gv;rw[hb];rfl
 have h2:Gv (Block.mk false (x.Wear+1) Lj)=4:=by rfl
 omega
theorem kN:∀(l:List Block),(∀x∈l,x.Bad=false)->(∀x∈l,¬0<Fj x.Leaves)->(l.map Gv).sum=4*l.length
 |[],_,_=>rfl
 |x::l,h1,h2=>by
  have ih:=kN l (λy hy=>h1 y<|by simp[hy]) λy hy=>h2 y<|by simp[hy]
  have e1:=h1 x (by simp);have e2:=h2 x (by simp);have:Gv x=4:=by unfold Gv;rw[e1];simp;omega
  rw[CJ,EV,AD];omega
theorem kM:∀(l:List Block),(∀x∈l,x.Bad=false)->(∀(i j:Nat) x y,l[i]?=some x->l[j]?=some y->0<Fj x.Leaves->0<Fj y.Leaves->i=j)->4*l.length<=(l.map Gv).sum+4
 |[],_,_=>by simp
 |x::l,h1,h2=>by
  rw[CJ,EV,AD];by_cases hx:0<Fj x.Leaves
  ·have:=kN l (λy hy=>h1 y<|by simp[hy]) λy hy hh=>by
    obtain⟨j,hj⟩:=List.getElem?_of_mem hy;have:=h2 0 (j+1) x y rfl (by simpa using hj) hx hh;omega
   omega
  have ih:=kM l (λy hy=>h1 y<|by simp[hy]) λi j a b ha hb c d=>by
   have:=h2 (i+1) (j+1) a b (by simpa using ha) (by simpa using hb) c d;omega
  have e1:=h1 x (by simp);have:Gv x=4:=by unfold Gv;rw[e1];simp;omega
  omega
theorem qV (h:G9 d r) (hv:AT d.Store=[]) (hw:DW d.Flash 999999999) (ht:d.Tx<=100000) (hq:d.Seq<=100000000) (hb:OE d.Flash):
  (∃steps d' r',GS d=some (steps,true)/\0<steps.length/\steps.length<=200/\FU d steps=some d'/\Steps d.Flash steps d'.Flash/\G8 1 d r d' r'/\
   ((Cn d.Flash<Cn d'.Flash/\(Bd d r->Bd d' r'))\/(¬Bd d r/\Cn d'.Flash+1=Cn d.Flash/\Bd d' r')))\/
  (GS d=some ([],false)/\((¬Bd d r/\Cn d.Flash<3)\/16<=Cn d.Flash)):=by
 obtain⟨steps,ok,c1,c2,c3,c4⟩:=TG h hw;obtain⟨dead,e1,e2,e3⟩:=ADc h.dev hv;obtain⟨dead',f1,_,f3⟩:=QW h.dev;rw[e1]at f1
 injection f1 with f1
 subst f1;have a:=c1;unfold GS at c1;rw[e1]at c1;simp only[Aa]at c1
 cases hd:dead with
 |cons b m=>
  left;rw[hd]at c1;rw[Ac (by rw[Bh,AD];omega:ln (b::m)>0),show gi (b::m) 0=some b from Ap (i:=0)]at c1
  injection c1 with c1
  injection c1 with p1 p2
  subst p1;subst p2;obtain⟨x,rx,k1,k2,k3⟩:=(c4 rfl).full h (by simp);obtain⟨c,y,rfl,y1,y2,y3⟩:=e2 b (by rw[hd];simp);have s:x.Flash=Qr d.Flash (c:Int):=k2.2;refine⟨_,x,rx,a,by simp,by simp,k1,k2,k3,.inl ⟨?_,?_⟩⟩
  ·have:=nV y1 y2;have h4:=VE y.Leaves;have:=(h.dev.fl.blk _<|Ao y1).four;rw[s];omega
  rintro⟨z,z1,z2,z3⟩;have a0:vI d.Flash (c:Int):=by
   rcases k2.1 with⟨q,_⟩|⟨_,q⟩
   ·cases q
   exact q
  obtain⟨w1,w2⟩:=QG h.dev.fl a0
  have l:rx=r.filter λy=>y.Block !=(c:Int):=by
   have hs:=k3.good.dev.sr;rw[s,w2]at hs;exact hs.uniq<|h.dev.sr.filter _
  obtain⟨u,_,_,u3⟩:=f3 (c:Int) (by rw[hd];simp);have f:Cy (A6 rx)=Cy (A6 r):=by
   rw[l]
   refine Uj r h.core.pages h.core.mu _ λy hy hk a2=>?_
   have:y.Block≠(c:Int):=λe=>by
    have:=(u3 y hy e).1 hk;rw[h.dev.base]at this;omega
   simpa using this
  refine⟨z,by rw[f,z1],z2,?_⟩;have n:d.Base=z.Num:=by rw[h.dev.base,z1];rfl
  obtain⟨A,a1,_⟩:=NB<|A6 r;obtain⟨_,y',y'1,y'2,y'3⟩:=(Lg h.core.pages).1 (show z∈A6 r by rw[a1,z1];simp);have a3:y'∈rx:=by
   rw[l,AG];refine⟨y'1,?_⟩
   have:y'.Block≠(c:Int):=λe=>by
    have:=(u3 y' y'1 e).1 y'2;omega
   simpa using this
  have g1:=(Hs rx).1 y' a3 y'2
  have g2:=(Hs rx).2.2 (Dy r) (Hs r).2.1 λy hy hk=>(Hs r).1 y (by rw[l]at hy;exact(AG.1 hy).1) hk
  rw[k3.good.dev.tx];rw[h.dev.tx]at z3;omega
 |nil=>
  rw[hd]at c1;rw[show decide (ln ([]:List Int)>0)=false from rfl]at c1;simp only[Ad]at c1;obtain⟨v,v1,v2⟩:=ABT h.dev;rw[v1]at c1;simp only[Aa]at c1
  cases v with
  |false=>
   have t:¬Bd d r:=λhh=>by cases v2.2 hh
   simp only[BK,Al]at c1;unfold J7 at c1;rw[Pr h.dev.st,hv]at c1;simp only[Aa]at c1;have a4:VsP ([]:Vs) d.Store.Next:=by have:=h.dev.st.vs;rwa [hv]at this
   obtain⟨b1,b2⟩:=We a4;have a5:1<=d.Seq:=by rw[h.dev.seq];exact(Mj r).2.1
   have k:1<=d.Tx:=by rw[h.dev.tx];exact(Hs r).2.1
   have h0:H1 [] d.Store.Next≠ []:=by unfold H1;simp
   have b3:(H1 [] d.Store.Next).length=1:=rfl
   cases ok with
   |false=>
    right;rw[c3 rfl]at a;refine⟨a,.inl ⟨t,?_⟩⟩
    refine Classical.byContradiction λo=>?_
    obtain⟨ss,w⟩:=nT h.dev.fl (H1 [] d.Store.Next) h0 (by omega) b1 (bs []) ⟨a5,by omega⟩ ⟨k,by omega⟩ (λe=>absurd (DH _) e) (by omega);rw[w]at c1
    injection c1 with c1
    injection c1 with _ c1
    cases c1
   |true=>
    left;obtain⟨x,rx,k1,k2,k3⟩:=(c4 rfl).full h<|by omega
    rcases MD h.dev.fl h.dev.seqs (H1 [] d.Store.Next) h0 b2 b1 (bs [])with w|⟨ss,T,g,h5,w1,w2,w3,w4,w5,w6,w7,w8,w9,wT⟩
    ·rw[w]at c1
     injection c1 with c1
     injection c1 with _ c1
     cases c1
    rw[w2]at c1;simp only[Aa]at c1;obtain rfl:ss=steps:=by
     injection c1 with c1
     injection c1
    have h6:=(DJ w7).2;have a6:(Bz (Fi d<|bs []) d.Tx T).length=T.length:=by unfold Bz;rw[List.length_mapIdx]
    have h7:Cg d h5.Chunk (bs [])=[]:=by rfl
    rw[A9,h7,a6,Jq]at h6;have hT:T.length=1:=by omega
    have a7:x.Flash=g:=Ll k2 (DJ w7).1;obtain⟨m,d2,r2,q1,q2,q3,q4,q5,q6,_,_,_,_,q9⟩:=RL h b1 w3 w4 w5 w6 w7 w9 (λhh=>absurd (DH _) hh) ss.length<|A3 _;rw[D1]at q1;have a8:x.Flash=m:=Ll k2 q1;have a9:rx=r2:=Fe.uniq k3.good.dev q4 (by rw[q5,a8]);obtain⟨⟨q,p⟩,_⟩:=q9 rfl;rw[<-a9]at p q6;have o:=ZL h.dev.fl w7;refine⟨ss,x,rx,a,by omega,c2,k1,k2,k3,.inr ⟨t,by rw[a7];omega,_,by rw[p,MF,BE];rfl,rfl,?_⟩⟩;rw[k3.good.dev.tx];show Dy rx=d.Tx+1;obtain⟨_,y,y1,y2,y3⟩:=(Lg k3.good.core.pages).1 (show Tx.mk d.Tx q (H1 [] d.Store.Next)∈A6 rx by rw[p];simp);have u1:=(Hs rx).1 y y1 y2
    have u2:=(Hs rx).2.2 (d.Tx+1) (by omega) λz hz hk=>by
     rw[q6]at hz
     rcases Az.1 hz with hz|hz
     ·have:=(Hs r).1 z hz hk;rw[<-h.dev.tx]at this;omega
     have h8:=HO _ _ _ z hz;rw[h7,A5]at h8;rw[VA h8];omega
    simp only at y3;omega
  |true=>
   obtain⟨z,z1,z2,z3⟩:=v2.1 rfl
   have k:∀y∈r,y.Page.Kind=2->y.Page.Tx<d.Tx:=λy hy hk=>by rw[h.dev.tx];exact(Hs r).1 y hy hk
   rw[mX h.dev hv λy hy hk=>by have:=k y hy hk;omega]at c1
   injection c1 with c1
   injection c1 with p1 p2
   subst p1;subst p2;refine .inr ⟨a,.inr ?_⟩;obtain⟨A,a1,_⟩:=NB<|A6 r;obtain⟨h1,h2⟩:=h.hist z (by rw[a1,z1];simp);have h9:=h.dev.ab;rw[z1,hv]at h9;have b0:=h2 z2 (by rw[<-h9]);have n:d.Base=z.Num:=by rw[h.dev.base,z1];rfl
   have one:∀y∈r,y.Page.Kind=2->d.Base<=y.Page.Tx->y.Page.Tx=z.Num/\y.Page.Part=0:=λy hy hk a2=>by
    have:=k y hy hk;have e:y.Page.Tx=z.Num:=by omega
    have h3:=h1 y hy hk e;have h4:=h.core.pages.part y hy;rw[b0]at h3;exact⟨e,by omega⟩
   obtain⟨b1,b2⟩:=hb
   have:=kM d.Flash.Blocks b2 λi j x y hi hj hx hy=>by
    obtain⟨u,u1,u2,u3,u4⟩:=e3 hd i x hi (b2 x<|Ao hi) hx;obtain⟨w,w1,w2,w3,w4⟩:=e3 hd j y hj (b2 y<|Ao hj) hy;obtain⟨s1,s2⟩:=one u u1 u3 u4;obtain⟨t1,t2⟩:=one w w1 w3 w4;have:=h.core.mu.uniq u u1 w w1 u3 w3 (by rw[s1,t1]) (by rw[s2,t2]);rw[this,w2]at u2;omega
   unfold Cn;omega
theorem qW (h:G9 d r) (hv:AT d.Store=[]) (hw:DW d.Flash 999999000) (ht:d.Tx<=90000) (hq:d.Seq<=90000000) (hb:OE d.Flash):
  ∃n all r',Ez d 20=some (n,all)/\G9 n r'/\Cn d.Flash<=Cn n.Flash+1/\(8<=Cn n.Flash\/Cn d.Flash<4):=by
 unfold Ez;rw[Jv h.dev];simp only[Aa];obtain⟨b,h1,n,all,r',h2,h3,h4⟩:=AA (body:=λs:List AF×Int×List Block×List Vol×List Ba×Int×Int×Int×Int=>CR 20 s.1 s.2.1 s.2.2.1 s.2.2.2.1 s.2.2.2.2.1 s.2.2.2.2.2.1 s.2.2.2.2.2.2.1 s.2.2.2.2.2.2.2.1 s.2.2.2.2.2.2.2.2)
  (λ(o:List AF×Av) i=>(o.1,i,o.2.Flash.Blocks,o.2.Store.Vols,o.2.Store.Arena.Knots,o.2.Store.Next,o.2.Seq,o.2.Tx,o.2.Base)) 20
  (λi o=>o.1.length<=200*i/\OE o.2.Flash/\∃r',G8 i d r o.2 r'/\Cn d.Flash<=Cn o.2.Flash+1/\((Bd o.2 r'/\i<=Cn o.2.Flash+2)\/(¬Bd o.2 r'/\i<=Cn o.2.Flash/\Cn d.Flash<=Cn o.2.Flash)))
  (λb=>∃n all r',(b= .inr (n,all)\/b= .inl (all,n.Flash.Blocks,n.Store.Vols,n.Store.Arena.Knots,n.Store.Next,n.Seq,n.Tx,n.Base))/\G9 n r'/\Cn d.Flash<=Cn n.Flash+1/\(8<=Cn n.Flash\/Cn d.Flash<4))
  (λo i hi hs=>by
   obtain⟨all,e⟩:=o;obtain⟨g,f,r',hg,c,a⟩:=hs;simp only at g f hg c a;have j:Av.mk (Flash.mk e.Flash.Blocks) (Store.mk e.Store.Vols (Arena.mk e.Store.Arena.Knots) e.Store.Next) e.Seq e.Tx e.Base=e:=rfl;have k:Flash.mk e.Flash.Blocks=e.Flash:=rfl;simp only[CR];rw[j,k,ZI hg.good.dev.fl,Ac (by omega:(i:Int)<20)];simp only[Al,Aa,Kz];by_cases l:Cn e.Flash<12
   ·rw[Ac (by omega:((Cn e.Flash:Nat):Int)<12)];simp only[Al,Aa];have etx:e.Tx<=100000:=by have:=hg.tx;rw[hg.good.dev.tx];rw[h.dev.tx]at ht;omega
    have esq:e.Seq<=100000000:=by have:=hg.sq;rw[hg.good.dev.seq];rw[h.dev.seq]at hq;omega
    rcases qV hg.good (by rw[hg.ab,hv]) (λx hx=>by have:=hg.wear _ hw x hx;omega) etx esq f with⟨steps,d',r2,c1,c2,c3,c4,c5,c6,c7⟩|⟨c1,c2⟩
    ·rw[c1];simp only[Aa,An,Ad];rw[c4,Aa,Bw (by omega),ad1];refine .inl ⟨(all++steps,d'),rfl,by simp;omega,Ok c5 f,r2,hg.trans c6,?_,?_⟩
     ·show Cn d.Flash<=Cn d'.Flash+1
      rcases c7 with⟨c7,_⟩|⟨c7,c8,_⟩
      ·omega
      rcases a with⟨q,_⟩|⟨_,_,q⟩
      ·exact absurd q c7
      omega
     show(Bd d' r2/\i+1<=Cn d'.Flash+2)\/(¬Bd d' r2/\i+1<=Cn d'.Flash/\Cn d.Flash<=Cn d'.Flash)
     rcases c7 with⟨c7,c8⟩|⟨c7,c8,c9⟩
     ·rcases a with⟨q,q1⟩|⟨q,q1,q2⟩
      ·exact .inl ⟨c8 q,by omega⟩
      by_cases hB:Bd d' r2
      ·exact .inl ⟨hB,by omega⟩
      exact .inr ⟨hB,by omega,by omega⟩
     rcases a with⟨q,_⟩|⟨_,q1,_⟩
     ·exact absurd q c7
     exact .inl ⟨c9,by omega⟩
    rw[c1];simp only[Aa];refine .inr ⟨_,rfl,e,all,r',.inl rfl,hg.good,c,?_⟩
    rcases c2 with⟨c2,c3⟩|c2
    ·rcases a with⟨q,_⟩|⟨_,_,q⟩
     ·exact absurd q c2
     right;omega
    left;omega
   rw[Ah (by omega:¬((Cn e.Flash:Nat):Int)<12)]
   exact .inr ⟨_,rfl,e,all,r',.inr rfl,hg.good,c,.inl<|by omega⟩)
  (λo hs=>by
   obtain⟨all,e⟩:=o;obtain⟨g,f,r',hg,c,a⟩:=hs;simp only at g f hg c a;refine⟨.inl (all,e.Flash.Blocks,e.Store.Vols,e.Store.Arena.Knots,e.Store.Next,e.Seq,e.Tx,e.Base),?_,e,all,r',.inr rfl,hg.good,c,.inl ?_⟩
   ·simp only[CR]
    grind
   ·rcases a with⟨_,q⟩|⟨_,q,_⟩<;>omega) (s:=([],d)) ⟨by simp,hb,r,G8.refl h,by simp,by
   by_cases hB:Bd d r
   ·exact .inl ⟨hB,by simp⟩
   exact .inr ⟨hB,by simp,by simp⟩⟩
 rw[h1]
 rcases h2 with rfl|rfl
 ·exact⟨n,all,r',rfl,h3,h4⟩
 exact⟨n,all,r',rfl,h3,h4⟩
theorem lE {c:Bn} (h:Mf c):∃d c' r,NF c=some (d,c')/\Mf c'/\G9 d r/\d.Store.Next<=13/\Ext d r/\OE d.Flash:=by
 unfold NF;obtain⟨v,c1,a1,a2,a3⟩:=MT h (n:=4) (by omega);rw[show((4:Nat):Int)=4 from rfl]at a1;rw[a1,Aa,BZ,show(5:Int)+(v:Int)=((5+v:Nat):Int) by omega];obtain⟨d0,b1,b2,b3,b4,b5⟩:=nL (n:=5+v) (by omega);rw[b1];simp only[Aa];obtain⟨a,h1,d,cc,r,h2,h3,h4,h5,h6,h7⟩:=AA (body:=λs:Int×List Block×List Vol×List Ba×Int×Int×Int×Int×List Int×Int×Int=>HC s.1 s.2.1 s.2.2.1 s.2.2.2.1 s.2.2.2.2.1 s.2.2.2.2.2.1 s.2.2.2.2.2.2.1 s.2.2.2.2.2.2.2.1 s.2.2.2.2.2.2.2.2.1 s.2.2.2.2.2.2.2.2.2.1 s.2.2.2.2.2.2.2.2.2.2)
  (λ(o:Av×Bn) i=>(i,o.1.Flash.Blocks,o.1.Store.Vols,o.1.Store.Arena.Knots,o.1.Store.Next,o.1.Seq,o.1.Tx,o.1.Base,o.2.b_,o.2.i_,o.2.h_)) 12
  (λi o=>Mf o.2/\(∃r,G9 o.1 r/\AAA o.1 r/\Dy r<=1+21*i/\CT r<=1+4010*i/\DW o.1.Flash (20*i))/\o.1.Store.Next<=1+i/\OE o.1.Flash)
  (λa=>∃d cc r,a=(d.Flash.Blocks,d.Store.Vols,d.Store.Arena.Knots,d.Store.Next,d.Seq,d.Tx,d.Base,Bn.b_ cc,cc.i_,cc.h_)/\Mf cc/\G9 d r/\d.Store.Next<=13/\Ext d r/\OE d.Flash)
  (λo i hi hs=>by
   obtain⟨e,cu⟩:=o;obtain⟨k1,⟨r,k2,kx,kt,kq,kw⟩,k3,kb⟩:=hs;simp only at k1 k2 k3 kx kw kb;have f:Av.mk (Flash.mk e.Flash.Blocks) (Store.mk e.Store.Vols (Arena.mk e.Store.Arena.Knots) e.Store.Next) e.Seq e.Tx e.Base=e:=rfl;simp only[HC];rw[f];obtain⟨w,c3,w1,w2,w3⟩:=MT (Od k1) (n:=12) (by omega);rw[show((12:Nat):Int)=12 from rfl]at w1;rw[w1];simp only[Aa];by_cases b:(i:Int)<(w:Int)
   ·rw[Ac b,Al];obtain⟨q,c4,q1,q2,q3⟩:=AC4 w2 e k2.dev.st.len λv hv=>kx.ids (v.Id,Fc e.Store.Arena.Knots v.Root)<|AB.2 ⟨v,hv,rfl⟩;rw[q1];simp only[Aa];obtain⟨d',steps,t,no,r',s1,s2,s3,s4,s5,s6,s7⟩:=tH k2 (λx hx=>by have:=kw x hx;omega) q;have g:OE d'.Flash:=by
     obtain⟨d2,ss2,t2,no2,r2,z1,z2⟩:=tG k2 (λx hx=>by have:=kw x hx;omega) (by omega) q;rw[s1]at z1
     injection z1 with z1
     injection z1 with z1 z3
     rw[z1];exact Ok z2.walk kb
    rw[s1,Aa,ad1];exact .inl ⟨(d',c4),rfl,q2,⟨r',s2,kx.step q3 (by omega) s5 s6,by have:=s5.2.1;omega,by have:=s5.2.2;omega,λx hx=>by have:=s7 _ kw x hx;omega⟩,by grind,g⟩
   rw[Ah b,Ad]
   exact .inr ⟨_,rfl,e,c3,r,rfl,w2,k2,by omega,⟨kx,by omega,by omega,λx hx=>by have:=kw x hx;omega⟩,kb⟩)
  (λo hs=>by
   obtain⟨e,cu⟩:=o;obtain⟨k1,⟨r,k2,kx,kt,kq,kw⟩,k3,kb⟩:=hs;simp only at k1 k2 k3 kx kw kb;simp only[HC];obtain⟨w,c3,w1,w2,w3⟩:=MT (Od k1) (n:=12) (by omega);rw[show((12:Nat):Int)=12 from rfl]at w1;rw[show((12:Nat):Int)=12 from rfl,w1,Aa,cF];exact⟨_,rfl,e,c3,r,rfl,w2,k2,by omega,⟨kx,by omega,by omega,λx hx=>by have:=kw x hx;omega⟩,kb⟩) (s:=(d0,c1)) ⟨a2,⟨[],b2,⟨λp hp=>(by grind),λy hy=>by cases hy⟩,by simp[Dy],by simp[CT],λx hx=>by grind⟩,by grind,by
   rw[show d0.Flash=_ from b5];refine⟨by simp,λx hx=>?_⟩
   rw[(List.mem_replicate.1 hx).2]⟩
 rw[h1,h2];exact⟨d,cc,r,rfl,h3,h4,h5,h6,h7⟩
theorem iZ (h:code.length<=1048576):∃d r,M4 code=some d/\G9 d r/\d.Store.Next<=13/\Ext d r/\OE d.Flash:=by
 unfold M4;obtain⟨c,c1,c2⟩:=ADX h;obtain⟨d,c',r,d1,d2,d3,d4,d5,d6⟩:=lE c2;rw[c1,Aa,d1];exact⟨d,r,rfl,d3,d4,d5,d6⟩
structure tN (i:Nat) (d:Av) (r:List Ak):Prop where
 good:G9 d r
 nx:d.Store.Next<=13+i
 ids:∀p∈AT d.Store,(i:Int)<p.1/\p.1<=3
 tx:Dy r<=1000+21*i
 sq:CT r<=100000+4010*i
 wear:DW d.Flash (1000+20*i)
 nb:OE d.Flash
theorem vD {i:Nat} (hi:i<3) (h:tN i d r):∃d' steps t no r',UO d (Oz.mk 5 ((i:Int)+1) 0 0 (bs []))=some (d',steps,t,no)/\G9 d' r'/\(no≠4->tN (i+1) d' r'):=by
 have hw:DW d.Flash 999999000:=λx hx=>by have:=h.wear x hx;omega
 have g:=h.nx;obtain⟨d',steps,t,no,r',s1,s2⟩:=tG h.good hw (by omega)<|Oz.mk 5 ((i:Int)+1) 0 0<|bs [];obtain⟨d2,ss2,t2,no2,r2,z1,z2,z3,z4,z5,z6,z7⟩:=tH h.good hw<|Oz.mk 5 ((i:Int)+1) 0 0<|bs [];rw[s1]at z1
 injection z1 with z1
 injection z1 with z1 _
 subst z1;obtain rfl:r2=r':=Fe.uniq z2.dev s2.good.dev rfl;refine⟨d',steps,t,no,r2,by rw[qN h.good hw];exact s1,s2.good,λh4=>⟨s2.good,by omega,λp hp=>?_,by have:=z5.2.1;have:=h.tx;omega,by have:=z5.2.2;have:=h.sq;omega,λx hx=>by have:=z7 _ h.wear x hx;omega,Ok s2.walk h.nb⟩⟩;obtain⟨a,b,n,e1,e2,e3,e5⟩:=s2.done;rw[yE h.good.dev (k:=5) (.inl rfl) (by omega) (by omega) λ_=>rfl]at e1;by_cases hg:K3 (AT d.Store) ((i:Int)+1)=none
 ·rw[BE hg]at e1
  injection e1 with e1
  obtain⟨rfl,rfl,rfl⟩:a=[]/\b=bs []/\n=1:=by grind
  have c:=e2 (by omega);rw[s2.kept<|.inl<|by omega]at hp;have:=h.ids p hp
  have f:p.1≠(i:Int)+1:=λe=>by
   unfold K3 at hg;rw[Option.map_eq_none_iff,List.find?_eq_none]at hg;exact hg p hp<|by simpa using e
  omega
 rw[Bi hg,BE rfl]at e1
 injection e1 with e1
 obtain⟨rfl,rfl,rfl⟩:a=[Ch.mk 3 ((i:Int)+1) 0 0]/\b=bs []/\n=0:=by grind
 have c:no=0:=by
  rcases e3 rfl with e|e|⟨e,_⟩
  ·exact e
  ·exact absurd e h4
  cases e
 rcases e5 c (by simp)with⟨e,_⟩|⟨x,y1,_,y3,_⟩
 ·cases e
 injection y1 with y1 _
 subst y1;obtain⟨_,hv⟩:True/\AT d'.Store=ACS (AT d.Store) ((i:Int)+1):=by
  refine⟨trivial,?_⟩;unfold CQ at y3;split at y3
  ·cases y3
  rw[Bi (by simp),Bi<|by simp]at y3;split at y3
  ·cases y3
  rw[BE rfl]at y3
  injection y3 with y3
  injection y3 with y3
  exact y3.symm
 rw[hv]at hp;unfold ACS at hp;obtain⟨p1,p2⟩:=AG.1 hp;have:=h.ids p p1;have f:p.1≠(i:Int)+1:=by simpa using p2
 omega
theorem UW (hs:code.length<=1048576):IC code=some true:=by
 obtain⟨d,r,d1,d2,d3,d4,d5⟩:=iZ hs;unfold IC;rw[ACV hs];simp only[Aa,Ad];rw[d1,Aa];obtain⟨b,l1,l2⟩:=AA (body:=λs:Int×List Block×List Vol×List Ba×Int×Int×Int×Int=>Gj s.1 s.2.1 s.2.2.1 s.2.2.2.1 s.2.2.2.2.1 s.2.2.2.2.2.1 s.2.2.2.2.2.2.1 s.2.2.2.2.2.2.2)
  (λ(d:Av) i=>(i+1,d.Flash.Blocks,d.Store.Vols,d.Store.Arena.Knots,d.Store.Next,d.Seq,d.Tx,d.Base)) 3 (λi d=>∃r,tN i d r) (λb=>b= .inr true\/∃(d:Av) (r:List Ak),b= .inl (d.Flash.Blocks,d.Store.Vols,d.Store.Arena.Knots,d.Store.Next,d.Seq,d.Tx,d.Base)/\tN 3 d r)
  (λd i hi hd=>by
   obtain⟨r,hr⟩:=hd;obtain⟨d',steps,t,no,r',e1,e2,e3⟩:=vD hi hr;have a:Av.mk (Flash.mk d.Flash.Blocks) (Store.mk d.Store.Vols (Arena.mk d.Store.Arena.Knots) d.Store.Next) d.Seq d.Tx d.Base=d:=rfl;simp only[Gj];rw[cT,a,e1];simp only[Aa];by_cases h4:no=4
   ·rw[show(no==4)=true by simpa using h4,Al,PU e2.dev];exact .inr ⟨_,rfl,.inl rfl⟩
   rw[show(no==4)=false by simpa using h4,Ad,BZ]
   exact .inl ⟨d',by simp,r',e3 h4⟩)
  (λd hd=>by
   obtain⟨r,hr⟩:=hd;refine⟨_,?_,.inr ⟨d,r,rfl,hr⟩⟩;simp only[Gj]
   rw[cF]) (s:=d) ⟨r,d2,by omega,λp hp=>by have:=d4.ids p hp;omega,by have:=d4.tx;omega,by have:=d4.sq;omega,λx hx=>by have:=d4.wear x hx;omega,d5⟩
 have l1':=l1;rw[show((0:Int)+1)=1 from rfl]at l1';rw[l1']
 rcases l2 with rfl|⟨e,re,rfl,he⟩
 ·rfl
 simp only[Aa,Df];have c:Store.mk e.Store.Vols (Arena.mk e.Store.Arena.Knots) e.Store.Next=e.Store:=rfl;have f:Flash.mk e.Flash.Blocks=e.Flash:=rfl;have a:Av.mk e.Flash e.Store e.Seq e.Tx e.Base=e:=rfl;rw[c,f,a]
 have hv:AT e.Store=[]:=List.eq_nil_iff_forall_not_mem.2 λp hp=>by
  have:=he.ids p hp;omega
 have g:e.Store.Vols.length=0:=by rw[<-IW,hv];rfl
 obtain⟨n,all,rn,c1,c2,c3,c4⟩:=qW he.good hv (λx hx=>by have:=he.wear x hx;omega) (by rw[he.good.dev.tx];have:=he.tx;omega) (by rw[he.good.dev.seq];have:=he.sq;omega) he.nb;rw[show(ln e.Store.Vols !=0)=false by rw[Bh,g];rfl,YI he.good.dev hv];simp only[Aa,Ad];rw[show(ln ([]:List Int) !=0)=false from rfl,Ad,c1];simp only[Aa];rw[PU c2.dev,pL c2.dev,ZI c2.dev.fl,ZI he.good.dev.fl];have h:=xI he.good.dev.fl;simp only[Aa,Al];rw[BL,Ac (by omega:((Cn n.Flash:Nat):Int)>=((Cn e.Flash:Nat):Int)-1)];have fin:(bif decide (((Cn n.Flash:Nat):Int)>=8)then some true else some (decide<|((Cn e.Flash:Nat):Int)<4):Option Bool)=some true:=by
  rcases c4 with q|q
  ·rw[Ac<|by omega];rfl
  rw[Ac (by omega:((Cn e.Flash:Nat):Int)<4)];cases decide (((Cn n.Flash:Nat):Int)>=8)<;>rfl
 simp only[Al];rw[fin];cases ln all==0<;>rfl
theorem fnRoomAgain_true (code:List Int) (hc:ol (oK .u8) code):IC code=some true:=by
 by_cases h:code.length<=1048576
 ·exact UW h
 unfold IC bV;rw[Bh,Ac<|by omega];rfl
end Go.TI
