/- Drawn lives are as the document tells. No condition; no program is in sight. -/
import Derived.Test.YtkekljphpcfbmaaGreatTPP2
set_option linter.unusedVariables false
set_option linter.unusedSimpArgs false
namespace Go.TI
open Go
def AA7 (b:Int) (nd:List Bool) (r:List Al):Nat->Nat->List Al
 |0,_=>[]
 |n+1,i=>Ll b (i:Int) nd r++AA7 b nd r n (i+1)
theorem AA6 (b i:Int) (nd:List Bool) (r:List Al):(Ll b i nd r).length<=r.length:=by
 unfold Ll
 grind
variable {r r' re:List Al} {d e:Device} {f:Flash} {s a b:Store} {k n i:Nat} {code l:List Int} {ss:List AG} {q:Ask} {M:List Shelf} {y:Al} {v:Vol} {t:ByteArray} {p:Int×List Int} {vol:Int} {α:Type} {w:World}
theorem wO {nd:List Bool} (hr:r.length<=40) (hk:∀y∈r,y.Page.Kind=1->y.Page.Count=1/\y.Page.Part=0) (c:nd.length=r.length) (hn:∀(j:Nat) y,r[j]?=some y->nd[j]?=some true->y.Page.Kind=1) (b:Int):∀(n i:Nat),i+n=4->∀{m:Nat} {o:MvS},MvI m o->m+n*40<=1000->
  Ah (λs:List AG×Int×Int×List Block=>Fj b r nd s.1 s.2.1 s.2.2.1 s.2.2.2) (o.2.1,o.1,(i:Int),o.2.2)=(mv b (AA7 b nd r n i) o).map λq=>match q with
   |some o'=> .inl o'.2.1
   |none=> .inr ([],false)
 |0,i,hi,m,o,ho,hm=>by
  rw[Aw];simp only[Fj];rw[cF];rfl
 |n+1,i,hi,m,o,ho,hm=>by
  rw[Aw];simp only[Fj];rw[cT];have a:=wP hr hk c hn b (i:Int) r.length 0 (by omega) ho (by omega);simp only[List.drop_zero]at a;rw[show((0:Nat):Int)=0 from rfl]at a;rw[a];have d:=AA6 b (i:Int) nd r;obtain⟨v,v1,v2⟩:=ABO (b:=b) (Ll b (i:Int) nd r) ho (by omega);have es:AA7 b nd r (n+1) i=Ll b (i:Int) nd r++AA7 b nd r n (i+1):=rfl;rw[es,ABP,v1]
  cases v with
  |none=>rfl
  |some o'=>
   rw[ad1];exact wO hr hk c hn b n (i+1) (by omega) (v2 o' rfl)<|by omega
theorem yM (d:Device) (b:Int) (X:List Al) (hX:X.length<=100) (hd:0<=d.Seq/\d.Seq<=1000000001):∀(n i:Nat),i+n=X.length->∀{m:Nat} {o:MvS},MvI m o->m+n<=1000->o.1=d.Seq+i->
  Ah (λs:Int×List Block×List AG=>Ix d b X s.1 s.2.1 s.2.2) ((i:Int),o.2.2,o.2.1)=(mv b (X.drop i) o).map λq=>match q with
   |some o'=> .inl (o'.2.2,o'.2.1)
   |none=> .inr ([],false)
 |0,i,hi,m,o,ho,hm,hs=>by
  rw[Aw];simp only[Ix,Fl];rw[cF,List.drop_of_length_le (by omega)];rfl
 |n+1,i,hi,m,o,ho,hm,hs=>by
  have a:i<X.length:=by omega
  have hx:=Ab a;rw[Aw];simp only[Ix,Do a,Aq,hx,Aa];rw[Ch,<-hs,AB a];have ep:Page.mk 1 o.1 X[i].Page.Tx 0 1 X[i].Page.Text=e7 o.1 X[i]:=rfl;rw[ep]
  rcases tW (b:=b) (y:=X[i]) ho (by omega)with⟨s,g',a1,a2,a3,a4,a5⟩|⟨a1,⟨w,a2⟩,_⟩
  ·rw[a5,a3];rw[ad1];exact yM d b X hX hd n (i+1) (by omega) a4 (by omega)<|by omega
  grind
theorem iF {x:Al} (h:GM d r) (hx:x∈r) (hy:y∈r) (hb:x.Block=y.Block) (hl:x.Leaf=y.Leaf):x=y:=by
 obtain⟨b,l,g1,g2,_,g3⟩:=h.scan.page x hx;obtain⟨b',l',k1,k2,_,k3⟩:=h.scan.page y hy;rw[hb,k1]at g1
 injection g1 with g1
 subst g1;rw[hl,k2]at g2
 injection g2 with g2
 subst g2;rw[k3]at g3
 injection g3 with g3
 cases x;cases y
 grind
theorem AAa (h:GM d r) (hy:y∈r):0<=y.Leaf/\y.Leaf<4:=by
 obtain⟨b,l,g1,g2,_,g3⟩:=h.scan.page y hy;obtain⟨_,k1⟩:=Cm g1;obtain⟨q0,k2⟩:=Cm g2;have:=(h.fl.blk b<|Ao k1).four
 grind
theorem dR (h:GM d r) (m:r.length<=40) {live:List Int} (l1:EF d.Store=some live) (l2:asc live) (l3:∀x,x∈live↔Dt (AF d.Store) x) (l4:live.length<=16777216) (b:Int):
  ∃v,mv b (Qw b (Cv r live 1000000001) r) (d.Seq,[],d.Flash.Blocks)=some v/\GW d b=some (match v with|some o=>(o.2.1,true)|none=>([],false))/\MD d b=some (match v with|some o=>(o.2.1,true)|none=>([],false))/\
  (Qw b (Cv r live 1000000001) r).length=(Kq r b live).length/\(Qw b (Cv r live 1000000001) r).length<=4/\∀y,y∈Qw b (Cv r live 1000000001) r↔y∈Kq r b live:=by
 have n:=h.pages;have w:1<=d.Seq/\d.Seq<=1000000001:=by
  rw[h.seq];have h1:=NS r;refine⟨h1.2.1,h1.2.2 _ (by omega) λy hy=>?_⟩;have:=(n.seq y hy).2;omega
 have hk:∀y∈r,y.Page.Kind=1->y.Page.Count=1/\y.Page.Part=0:=by
  intro y hy k1;obtain⟨_,_,_,c1,c2,_,c3⟩:=ADS h hy;omega
 have hn:∀(j:Nat) y,r[j]?=some y->(Cv r live 1000000001)[j]?=some true->y.Page.Kind=1:=λj y hy hj=>(aV h l3 hy hj).1
 have f:∀(j:Nat) y,r[j]?=some y->(Cv r live 1000000001)[j]?=some true->RM y.Page.Tx r r.length=some j/\y.Page.Tx∈live:=by
  intro j y hy hj;rw[PN r live _ hy]at hj
  injection hj with hj
  rw[H4]at hj
  rcases hj with hj|hj
  ·simp only[Dz,Aj,HE,Bm]at hj;have:=(n.tx y<|Ao hy).2;omega
  grind [PA,IX]
 have hm:∀y,y∈Qw b (Cv r live 1000000001) r↔y∈Kq r b live:=by
  intro y;have e1:y∈Qw b (Cv r live 1000000001) r↔(∃j:Nat,r[j]?=some y/\(Cv r live 1000000001)[j]?=some true)/\y.Block=b:=by
   unfold Qw;simp only[A6,ZJ];constructor
   ·grind
   rintro⟨⟨j,q1,q2⟩,q3⟩;have:=AAa h<|Ao q1
   grind
  rw[e1];constructor
  ·rintro⟨⟨j,q1,q2⟩,q3⟩;obtain⟨q4,q5⟩:=f j y q1 q2;refine List.mem_filterMap.2 ⟨y.Page.Tx,q5,?_⟩
   grind [bk]
  intro hy;obtain⟨c,c1,j,c2,c3,c4,c5,c6⟩:=To hy;refine⟨⟨j,c3,?_⟩,c4⟩;rw[PN r live _ c3,Az,H4]
  grind
 have p:∀y∈Kq r b live,y∈r/\y.Block=b:=λy hy=>by grind [To]
 have q:∀x∈Kq r b live,∀y∈Kq r b live,x.Leaf=y.Leaf->x=y:=λx hx y hy e=>iF h (p x hx).1 (p y hy).1 (by grind) e
 have t:∀i:Int,∀y∈Ll b i (Cv r live 1000000001) r,y∈r/\y.Block=b/\y.Leaf=i:=λi y hy=>by grind [ZJ]
 have h3:∀i:Int,(Ll b i (Cv r live 1000000001) r).length<=1:=by
  intro i;have hd:=oP (λj y hy hj=>(f j y hy hj).1) b i
  rcases hc:Ll b i (Cv r live 1000000001) r with _|⟨x,_|⟨y,l⟩⟩
  ·exact Ja 1
  ·exact A0 1
  have hx:=t i x (by rw[hc];simp);have hy:=t i y (by rw[hc];simp);rw[hc]at hd;exact absurd (iF h hx.1 hy.1 (by rw[hx.2.1,hy.2.1])<|by rw[hx.2.2,hy.2.2]) λe=>(Cj.1 hd).1 y (by simp)<|by rw[e]
 have z:(Qw b (Cv r live 1000000001) r).length<=4:=by
  unfold Qw
  grind
 have h0:nD (Qw b (Cv r live 1000000001) r):=by
  have hd:∀i:Int,nD (Ll b i (Cv r live 1000000001) r):=λi=>oP (λj y hy hj=>(f j y hy hj).1) b i
  have cross:∀i k:Int,i≠k->∀x∈Ll b i (Cv r live 1000000001) r,∀y∈Ll b k (Cv r live 1000000001) r,x.Page.Tx≠y.Page.Tx:=by grind [ZJ]
  grind [Qw,nD]
 have a:BC Bx (Kq r b live) (Qw b (Cv r live 1000000001) r):=AA9 (gO r b<|jT l2) h0 (λy=>(hm y).symm) q;have u:=a.len;have g:srt Bx (Qw b (Cv r live 1000000001) r):=by
  have hc:∀i:Int,srt Bx (Ll b i (Cv r live 1000000001) r):=by
   intro i
   refine List.pairwise_of_forall_mem_list λx hx y hy=>?_
   show x.Leaf<=y.Leaf
   grind
  have cross:∀i k:Int,i<=k->∀x∈Ll b i (Cv r live 1000000001) r,∀y∈Ll b k (Cv r live 1000000001) r,Bx x<=Bx y:=by
   intro i k h4 x hx y hy;show x.Leaf<=y.Leaf
   grind
  grind [Qw,srt]
 have I0:MvI 0 (d.Seq,[],d.Flash.Blocks):=⟨h.fl.cap,A0 _,by omega,by omega⟩;obtain⟨v,v1,v2⟩:=ABO (b:=b) (Qw b (Cv r live 1000000001) r) I0 (by omega);refine⟨v,v1,?_,?_,u.symm,z,hm⟩
 ·unfold GW;rw[h.scan.s,l1];simp only[Aa];rw[Nq r live _ h.scan.len l4];have h2:live.foldl (e8 r) (r.map<|Dz 1000000001)=Cv r live 1000000001:=rfl;rw[h2];have ho:=wO m hk (JW r live 1000000001) hn b 4 0 (by omega) I0 (by omega)
  grind [AA7,Qw]
 unfold MD;rw[ADb h.scan (bU h.st l1) l4 b];simp only[Aa];obtain⟨X,x1,x2,x3⟩:=gQ Bx (Kq r b live) (by omega);have hX:X=Qw b (Cv r live 1000000001) r:=NN Bx x2 g (λk=>by rw[x3 k,<-a k]);rw[x1,hX];have ho:=yM d b (Qw b (Cv r live 1000000001) r) (by omega) ⟨by omega,w.2⟩ (Qw b (Cv r live 1000000001) r).length 0 (by omega) I0 (by omega)<|by omega
 grind
theorem ACE (s:Store) (hv:s.Vols.length<=1048576) (id:Int):∃w,CM s id=some w/\(w<0↔IQ (AF s) id=none):=by
 rcases E8 s hv id with⟨e,h⟩|⟨k,v,e,h1,h2,_⟩
 ·grind [IP]
 grind [IP]
theorem ACN (h:GM d r) (hn:d.Store.Next<1000000000) (q:Ask):∃b text no,Ep d q=some (b,text,no)/\(b=[]\/∃x p,b=[x]/\CJ (AF d.Store) d.Store.Next x=some p)/\(L text≠ []->q.Kind=1):=by
 have n:=h.st.len;have f:=h.st.nx;obtain⟨v,a1,a2⟩:=PF q
 have a:∀{P:Prop},L (bs [])≠ []->P:=λhh=>absurd (DO _) hh
 unfold Ep;rw[a1];simp only[Aa]
 cases v with
 |false=>exact⟨_,_,_,rfl,.inl rfl,a⟩
 |true=>
  have hq:=a2 rfl;simp only[An,Ad];have j:=hq.kind;obtain⟨w,hw,k⟩:=ACE d.Store (by omega) q.Vol;rw[hw];simp only[Aa];by_cases h34:q.Kind=3\/q.Kind=4
  ·have:(cond (q.Kind==3) (some true) (some<|q.Kind==4):Option Bool)=some true:=by grind
   rw[this];simp only[Aa,Ap];by_cases g:w<0
   ·rw[Ai (by omega:¬w>=0)];simp only[Ad];obtain⟨u,hu,o⟩:=ACE d.Store (by omega) q.Of;obtain⟨j2,l,s⟩:∃j2,(cond (q.Kind==4) ((CM d.Store q.Of).bind λv3=>some<|decide<|v3<0) (some false):Option Bool)=some j2/\(j2=false->q.Kind=4->IQ (AF d.Store) q.Of≠none):=by grind
    rw[l];simp only[Aa]
    cases j2 with
    |true=>exact⟨_,_,_,rfl,.inl rfl,a⟩
    |false=>
     simp only[Ad];rw[Bc];by_cases i:(d.Store.Vols.length:Int)>=3
     ·rw[Ac i];exact⟨_,_,_,rfl,.inl rfl,a⟩
     rw[Ai i];refine⟨_,_,_,rfl,.inr ⟨_,(bG (AF d.Store) q.Vol (if 0<q.Of then(IQ (AF d.Store) q.Of).getD NJ else NJ),d.Store.Next),rfl,?_⟩,a⟩;unfold CJ;rw[B9 (by rw[AEZ hq.vol hq.of_];simp),B9 (by simp),Cc rfl,B9];simp only[not_or];refine⟨?_,by grind,by rw[KT];omega⟩;rintro⟨e1,e2⟩
     rcases h34 with e|e
     ·have:=hq.no (by omega);omega
     grind
   rw[Ac (by omega:w>=0)];exact⟨_,_,_,rfl,.inl rfl,a⟩
  have:(cond (q.Kind==3) (some true) (some<|q.Kind==4):Option Bool)=some false:=by grind
  rw[this];simp only[Aa,Ad];by_cases g:w<0
  ·rw[Ai (by omega:¬w>=0)];exact⟨_,_,_,rfl,.inl rfl,a⟩
  rw[Ac (by omega:w>=0)]
  have hg:IQ (AF d.Store) q.Vol≠none:=λe=>g<|k.2 e
  have taken:∀x:Cn,Gi x=true->x.Kind≠1->x.Kind≠2->x.Vol=q.Vol->x.Chunk<1000000000->∃p,CJ (AF d.Store) d.Store.Next x=some p:=by
   intro x x1 x2 x3 x4 x5;unfold CJ;have x6:¬(IQ (AF d.Store) x.Vol=none\/x.Chunk=1000000000):=by grind
   rw[B9 (by rw[x1];simp),B9 x2,B9 x3,B9 x6];split<;>exact⟨_,rfl⟩
  simp only[An,Ad]
  cases k1:(q.Kind==1)with
  |true=>
   simp only[Ap];have k1':q.Kind=1:=by simpa using k1
   obtain⟨live,l1,l2,l3,l4⟩:=Gg h.st;obtain⟨c,f1,f2⟩:=R8 h l4 q.Text;rw[l1,Aa,f1];simp only[Aa]
   rcases f2 with⟨rfl,f2⟩|⟨f2,f3⟩
   ·obtain⟨z,z1,z2,z3⟩:=rX q.Text hq.text;rw[show((0:Int)==0)=true from rfl,z1];obtain⟨p,hp⟩:=taken (Cn.mk 4 q.Vol q.Sector d.Store.Next) (ABn hq.vol (by have:=hq.sec;omega) ⟨f.1,f.2⟩) (by simp) (by simp) rfl hn;exact⟨_,_,_,rfl,.inr ⟨_,_,rfl,hp⟩,λ_=>k1'⟩
   have m:=(l3 c).1 f2;have t:=Zb h.st m;rw[show(c==0)=false by grind];obtain⟨p,hp⟩:=taken (Cn.mk 4 q.Vol q.Sector c) (ABn hq.vol (by have:=hq.sec;omega)<|by omega) (by simp) (by simp) rfl (by show c<_;omega);exact⟨_,_,_,rfl,.inr ⟨_,_,rfl,hp⟩,λ_=>k1'⟩
  |false=>
   simp only[Ad]
   cases k2:(q.Kind==2)with
   |true=>
    obtain⟨p,hp⟩:=taken (Cn.mk 5 q.Vol q.Sector 0) (by
     have:=hq.vol;have:=hq.sec
     grind [Gi]) (by simp) (by simp) rfl<|by grind
    exact⟨_,_,_,rfl,.inr ⟨_,_,rfl,hp⟩,a⟩
   |false=>
    simp only[Ad]
    cases k5:(q.Kind==5)with
    |true=>
     obtain⟨p,hp⟩:=taken (Cn.mk 3 q.Vol 0 0) (by
      have:=hq.vol
      grind [Gi]) (by simp) (by simp) rfl<|by grind
     exact⟨_,_,_,rfl,.inr ⟨_,_,rfl,hp⟩,a⟩
    |false=>exact⟨_,_,_,rfl,.inl rfl,a⟩
theorem AAJ (h:Bg f):Pt f<=10000:=by
 have hl:∀l:List Leaf,(∀x∈l,lfP x)->(l.map Zs).sum<=120*l.length:=by
  intro l
  induction l with
  |nil=>intro _;simp
  |cons x l ih=>
   intro hx;rw[HF,List.sum_cons,AX];have:=ih (λy hy=>hx y<|by simp[hy]);have h1:Zs x<=120:=by
    have a:x.Text.size=(L x.Text).length:=by rfl
    unfold Zs
    rcases hx x (by simp)with⟨_,e⟩|⟨_,_,e⟩|⟨_,e⟩
    ·grind
    ·omega
    omega
   omega
 have hb:∀l:List Block,(∀b∈l,KV b)->(l.map MO).sum<=500*l.length:=by
  intro l
  induction l with
  |nil=>intro _;simp
  |cons b l ih=>
   intro hx;rw[HF,List.sum_cons,AX];have:=ih (λy hy=>hx y<|by simp[hy]);have h1:=hx b (by simp);have h2:=hl b.Leaves h1.leaf;have h4:=h1.four;have hz:MO b=b.Leaves.length+(b.Leaves.map Zs).sum:=rfl;omega
 have:=hb f.Blocks h.blk;have hn:=h.n;unfold Pt zl;omega
theorem y9 (hf:Bg d.Flash) (hs:Cq d.Store):Ko d<=1048576:=by
 have h1:=AAJ hf;have h2:=hs.len;have h3:=hs.small;have a:∀l:List Bf,(∀k∈l,k.Kids.length=4)->(l.map XD).sum=4*l.length:=by
  intro l
  induction l with
  |nil=>intro _;rfl
  |cons k l ih=>grind [XD]
 have h4:=a d.Store.Arena.Knots (λk hk=>by
  obtain⟨i,hi,rfl⟩:=Ay hk;have:=(Gn.1 hs.ar i hi).1
  grind [PR])
 have e1:HH d.Store=d.Store.Vols.length+(d.Store.Arena.Knots.length+(d.Store.Arena.Knots.map XD).sum):=rfl
 grind [Ko]
theorem Tm (h:GM d r):Ko d<=1048576:=y9 h.fl h.st
theorem sQ (s:Store) (hv:s.Vols.length<=1048576) (ha:MT s.Arena):∃l,L4 s=some l/\Rq s=some l/\l.length<=1+17*s.Vols.length:=by
 unfold L4 Rq;obtain⟨l,h1,h2,h3⟩:=GE (body:=λq:List Cn×Int=>Ek s q.1 q.2) (body':=λq:List Cn×Int=>Ju s q.1 q.2) (λ(l:List Cn) i=>(l,i)) s.Vols.length (λi l=>l.length<=1+17*i) (λl=>l.length<=1+17*s.Vols.length)
  (λl i hi hl=>by
   have hg:s.Vols[i]?=some s.Vols[i]:=Ab hi;obtain⟨a,a1,a2,a3⟩:=O6 s.Arena ha s.Vols[i].Root;have b:ap 32 l [Cn.mk 2 s.Vols[i].Id 0 0]=some (l++ [Cn.mk 2 s.Vols[i].Id 0 0]):=AY (by grind);simp only[Ek,Ju,Do hi,Aq,hg,Aa,b,a1,a2];obtain⟨u,u1,u2,u3⟩:=GE (body:=λq:List Cn×Int=>ET s (i:Int) a q.1 q.2) (body':=λq:List Cn×Int=>Jt s.Vols[i] a q.1 q.2) (λ(l:List Cn) k=>(l,k)) a.length (λk o=>o.length<=l.length+1+k) (λo=>o.length<=l.length+17)
    (λo k hk ho=>by
     have c:a[k]?=some a[k]:=Ab hk
     grind [Aq,ad1,AY,ET,Jt])
    (λo ho=>⟨by simp[CQ,ET,Jt],o,by simp[CQ,ET],by omega⟩) (s:=l++ [Cn.mk 2 s.Vols[i].Id 0 0]) (by simp)
   grind [ad1])
  (λl hl=>⟨by simp[CQ,Ek,Ju],l,by simp[CQ,Ek],hl⟩) (s:=[Cn.mk 1 0 s.Next 0]) (by simp)
 grind
theorem sP (h:GM d r):∃st ok,M2 d=some (st,ok)/\Pm d=some (st,ok)/\(ok=true->1<=st.length)/\st.length<=1048576:=by
 have hf:JF d.Flash:=h.fl.cap;obtain⟨a,r1,r2,r3⟩:=sQ d.Store (by have:=h.st.len;omega)<|nE h.st;have hb:=h.st.vs;obtain⟨b1,b2⟩:=jP hb;have e:=We h.st;rw[r1]at e
 injection e with e
 subst e;obtain⟨st,ok,w1,w2,w3⟩:=P5 d hf (Nc (AF d.Store) d.Store.Next) (by omega)<|bs [];refine⟨st,ok,?_,?_,?_,by omega⟩
 ·unfold M2;grind
 ·unfold Pm;grind
 intro ho;subst ho
 rcases R4 h.fl h.seqs (Nc (AF d.Store) d.Store.Next) (by unfold Nc;simp) b2 b1 (bs [])with w|⟨steps,T,g,b,q1,q2,q3,q4,q5,q6,q7,q8,q9⟩
 ·grind
 rw[w1]at q2
 injection q2 with q2
 injection q2 with q2 _
 subst q2;have c:=(EV q7).2
 grind [Cd]
theorem Xr (x a b:Int):Gl x a b=some (decide (a<=x/\x<=b)):=by
 unfold Gl
 grind
theorem MI (h:l.length<=1048576):Ik l=some l:=by grind [LH,Ik]
theorem SK (a:Arena) (h:ACy a.Knots):Im a=some a:=by
 unfold Im;have q:=S9 (body:=λs:Int×List Bf=>Il a s.1 s.2) a.Knots (λk=>k)
  (λi x b hx ho=>by
   have hi:=(Ae.1 hx).1;have hk:=h.2 x<|Ao hx;simp only[Il,Do hi,Aq,hx,Aa];rw[MI hk];simp only[Aa];have:=h.1;rw[AY (by simp;omega),ad1]
   rfl)
  (λb=>by simp[CQ,Il])
 rw[q];simp
theorem Oq (s:Store) (h:ACy s.Arena.Knots) (hv:s.Vols.length<=1048576):GX s=some s:=by
 unfold GX;rw[LH (by omega),SK _ h];rfl
theorem Rr (a:Arena) (ha:a.Knots.length<=1048576):IN a=some (C5 a.Knots):=by grind [WO,K5]
theorem SF (a:Arena) (ha:a.Knots.length<=1048576) (r:Int):GG a r=some (decide (0<=r/\r<(a.Knots.length:Int))&&!(BK a.Knots r).Leaf):=by
 unfold GG;rw[Xr,Bc,BV]
 grind [HD]
theorem pV {a:Arena} {r:Int} (ha:a.Knots.length<=1048576) (hr:Dc a.Knots r=true):(cond (r !=(-1)) ((GG a r).bind λv2=>some (!v2)) (some false):Option Bool)=some false:=by grind [BN,SF]
theorem uJ {r:Int} {s:Nat} {n:Int} (a:Arena) (ha:a.Knots.length<=1048000) (hK:C5 a.Knots=true) (hr:Dc a.Knots r=true) (hs:s<16) (hn:0<=n):
  Zg a r (s:Int) n=some (Arena.mk (Ki a.Knots r s n),(a.Knots.length:Int)+1):=by
 unfold Zg;rw[SK _ (KS hK<|by omega),Rr a (by omega),Xr,hK];rw[Ac (by omega:0<=(s:Int)/\(s:Int)<=15),Ai (by omega:¬n<0)];simp only[An,Ad,Aa];have hq:(cond (r !=(-1)) ((GG a r).bind λv2=>cond (!v2) (some true)<|some false) (some false):Option Bool)=some false:=by grind [BN,SF]
 rw[hq,mk4];simp only[Aa,Ad];have fin:∀(lf tp:List Int),lf.length=4->tp.length=4->Ki a.Knots r s n=a.Knots++ [Bf.mk true<|lf.set (s %4) n,Bf.mk false<|tp.set (s/4) (a.Knots.length:Int)]->
   ((gi lf<|Int.tmod (s:Int) 4).bind λx4=>(gi tp<|qu (s:Int) 4).bind λx5=>(ap 32 a.Knots [Bf.mk true<|si lf (Int.tmod (s:Int) 4) n,Bf.mk false<|si tp (qu (s:Int) 4)<|ln a.Knots]).bind λq2=>some (Arena.mk q2,ad (ln a.Knots) 1))=some (Arena.mk<|Ki a.Knots r s n,(a.Knots.length:Int)+1):=by
  intro lf tp h1 h2 h3;rw[qu4 hs,AAR,Aq,Aq,Ab (by omega),Ab (by omega),Aa,AY (by simp;omega),DL,DL,Bc,<-h3,ad1];rfl
 rcases BN hr with rfl|⟨h0,h1,hl⟩
 ·rw[Ai (by omega:¬(-1:Int)>=0)];simp only[Ad,Aa];have hx:gi [(-1:Int),-1,-1,-1] (qu (s:Int) 4)=some (-1):=by
   rw[qu4 hs,Aq]
   grind
  rw[hx,Aa,Ai (by omega:¬(-1:Int)>=0)];have:=fin [0,0,0,0] [-1,-1,-1,-1] rfl rfl rfl
  grind
 rw[cT,HD h0 h1];have h4:=(Fo hK h0 h1).1;rw[Aa,MI<|by omega];simp only[Aa];have hx:gi (BK a.Knots r).Kids (qu (s:Int) 4)=some (P7 (BK a.Knots r)<|s/4):=by rw[qu4 hs,qU (by omega:s/4<(BK a.Knots r).Kids.length)]
 rw[hx];simp only[Aa]
 rcases FZ hK h0 h1 hl (show s/4<4 by omega)with e|⟨e1,e2,e3⟩
 ·grind [Ki,RD,VC]
 rw[cT,HD e1<|by omega]
 grind [Fo,MI,Ki,RD,VC]
theorem Zi (l:List Int) (n:Int) (hl:l.length<=1048576):Oo l n=some (l.contains n):=by
 unfold Oo;obtain⟨b,h1,h2⟩:=A9 (body:=λs:Int=>M8 l n s) (λ(_:Unit) i=>i) l.length (λi _=>n∉l.take i) (λb=>(b= .inr true/\n∈l)\/(b= .inl ()/\n∉l))
  (λ_ i hi hs=>by
   have hx:=Ab hi;simp only[M8,Do hi,Aq,hx,Aa];rw[ad1]
   cases e:(l[i]==n)with
   |true=>grind
   |false=>
    refine .inl ⟨(),by rfl,?_⟩
    grind [Ag])
  (λ_ hs=>⟨.inl (),by simp[CQ,M8],.inr ⟨rfl,by grind⟩⟩) (s:=()) (by simp)
 grind
theorem Wz {r:Int} (a:Arena) (ha:a.Knots.length<=1048000) (hK:C5 a.Knots=true) (hr:Dc a.Knots r=true):∃l,PS a r=some l/\l.length<=5/\∀i:Nat,(i:Int)∈l↔O9 a.Knots r i=true:=by
 unfold PS;rw[SF a<|by omega]
 rcases BN hr with rfl|⟨h0,h1,hl⟩
 ·simp[O9]
 rw[Ac ⟨h0,h1⟩,hl,HD h0 h1];simp only[CC,Bool.and_self,An,Ad,Aa];obtain⟨h4,hk⟩:=Fo hK h0 h1;obtain⟨l,q1,q2,q3⟩:=A9 (body:=λs:List Int×Int=>KC a (BK a.Knots r) s.1 s.2) (λ(o:List Int) i=>(o,i)) (BK a.Knots r).Kids.length
  (λi o=>o.length<=1+i/\∀n:Nat,(n:Int)∈o↔(r=(n:Int)\/(n:Int)∈(BK a.Knots r).Kids.take i)) (λo=>o.length<=5/\∀n:Nat,(n:Int)∈o↔(r=(n:Int)\/(n:Int)∈(BK a.Knots r).Kids))
  (λo i hi ho=>by
   have hx:=Ab hi;have et:(BK a.Knots r).Kids.take (i+1)=(BK a.Knots r).Kids.take i++ [(BK a.Knots r).Kids[i]]:=Ag hi;refine .inl ?_;simp only[KC,Do hi,Aq,hx,Aa];rw[Xr,Bc,BV,ad1];simp only[Aa];have b:(BK a.Knots r).Kids[i]=P7 (BK a.Knots r) i:=by grind
   rcases FZ hK h0 h1 hl (show i<4 by omega)with e|⟨e1,e2,e3⟩
   ·grind
   rw[cT,Zi o _<|by omega];simp only[Aa]
   cases hc:o.contains (BK a.Knots r).Kids[i]with
   |true=>
    grind
   |false=>
    rw[AY (by simp;omega)];refine⟨_,rfl,by simp;omega,λn=>?_⟩
    grind)
  (λo ho=>⟨o,by simp[CQ,KC],by have:=ho.1;omega,by grind⟩) (s:=[r]) ⟨by simp,λn=>by simp[eq_comm]⟩
 grind [O9]
theorem fM (hr:Gp r):∃l,Ah (λs:List Int×Int=>Kc r s.1 s.2) ([],0)=some l/\l.Nodup/\(∀x,x∈l↔∃y∈r,y.Page.Kind=2/\y.Page.Tx=x)/\l.length<=r.length:=by
 have a:=hr.len;obtain⟨l,h1,h2,h3,h4⟩:=A9 (body:=λs:List Int×Int=>Kc r s.1 s.2) (λ(o:List Int) i=>(o,i)) r.length (λi o=>o.Nodup/\(∀x,x∈o↔∃y∈r.take i,y.Page.Kind=2/\y.Page.Tx=x)/\o.length<=i) (λo=>o.Nodup/\(∀x,x∈o↔∃y∈r,y.Page.Kind=2/\y.Page.Tx=x)/\o.length<=r.length)
  (λo i hi ho=>by
   have hx:=Ab hi;have et:r.take (i+1)=r.take i++ [r[i]]:=by simp
   refine .inl ?_;simp only[Kc,Do hi,Aq,hx,Aa];rw[ad1,Zi o _<|by omega]
   cases hk:(r[i].Page.Kind==2)with
   |false=>grind
   |true=>
    cases hc:o.contains r[i].Page.Tx with
    |true=>grind
    |false=>
     rw[AY<|by grind];refine⟨_,rfl,?_,λx=>?_,by simp;omega⟩
     ·grind
     grind)
  (λo ho=>⟨o,by simp[CQ,Kc],by grind⟩) (s:=[]) ⟨Dr,by simp,by simp⟩
 grind
theorem zH (hr:Gp r) (h1:l.Nodup) (h2:∀x,x∈l↔∃y∈r,y.Page.Kind=2/\y.Page.Tx=x):Un l=Dx r:=by
 obtain⟨n1,n2,n3⟩:=GC r λy hy=>(hr.tx y hy).1;refine WG ?_ n1 λx=>?_
 ·have hs:(Un l).Pairwise λx y=>x<=y:=by grind [List.pairwise_mergeSort,Un]
  have hd:(Un l).Nodup:=by grind [List.mergeSort_perm,Un]
  unfold asc;exact(hs.and hd).imp (λh=>by omega)
 simp_all [Un]
theorem iA (t:ByteArray) (ht:(L t).length<=20000):∀(n a:Nat) (c:List Cn),(L t).length-a<=n->a<=(L t).length->c.length<=a->Ah (λs:List Cn×Int=>Mb t s.1 s.2) (c,(a:Int))=Ah (λs:List Cn×ByteArray×Int×Bool=>Ee t s.1 s.2.1 s.2.2.1 s.2.2.2) (c,t,(a:Int),false)
 |n,a,c,hn,ha,ho=>by
  rw[Aw,Aw];simp only[Ee,Mb];rw[Bu];by_cases d:a<(L t).length
  ·rw[Ac (by omega:(a:Int)<((L t).length:Int))];rw[EI t d,ad1];obtain⟨r1,a1,a2,a3⟩:=I2 t ((a+1:Nat):Int) (by omega) ⟨by omega,by omega⟩;have f:oI r1.2.1:=by
    rcases a3 with⟨_,_,e⟩|⟨_,_,b,_,_,e,_,_,e2,_⟩
    ·rw[e];exact⟨by omega,by omega⟩
    rw[e];exact⟨by omega,by omega⟩
   obtain⟨r2,b1,b2,b3⟩:=I2 t r1.2.1 (by omega) f;rw[a2,Aa,b2];have l1:CW (EC.mk t ((a+1:Nat):Int) false)=some (if r1.2.2=true then(r1.1,EC.mk t r1.2.1 false)else(0,EC.mk t ((a+1:Nat):Int) true)):=by grind [CW]
   rw[l1]
   cases h1:r1.2.2 with
   |false=>grind [CW]
   |true=>
    simp only[C4,Aa,An,Ad];have l2:CW (EC.mk t r1.2.1 false)=some (if r2.2.2=true then(r2.1,EC.mk t r2.2.1 false)else(0,EC.mk t r1.2.1 true)):=by grind [CW]
    rw[l2]
    cases h2:r2.2.2 with
    |false=>rfl
    |true=>
     simp only[C4,Aa,An,Ad];obtain⟨v,c1,c2,_⟩:=dK<|Cn.mk (qu (IntKind.i64.wrap ((L t)[a].toNat:Int)) 16) (Int.tmod (IntKind.i64.wrap ((L t)[a].toNat:Int)) 16) r1.1 r2.1;rw[c1,c2];simp only[Aa]
     cases v with
     |false=>rfl
     |true=>
      rw[AY (by simp;omega)]
      rcases b3 with⟨e,_⟩|⟨_,aa,b,m,k1,k2,k3,k4,k5,_⟩
      ·grind
      rcases a3 with⟨e,_⟩|⟨_,aa',b',m',p1,p2,p3,p4,p5,_⟩
      ·grind
      rw[k2]
      match n,hn with
      |n+1,hn=>exact iA t ht n b _ (by omega) k5 (by simp;omega)
      |0,hn=>omega
  grind
theorem fJ (t:ByteArray) (ht:(L t).length<=20000):Rd t=HZ t:=by
 have h:=iA t ht (L t).length 0 [] (by omega) (by omega)<|by simp
 grind [Rd,HZ]
def AFI:Page:=Page.mk 0 0 0 0 0<|bs []
theorem iR (r:List Al) (hl:r.length<=1048576) (t a c:Int) (h:(a=0/\c=0)\/(0<a/\0<c)):SE r t a c=some (match SY r t a c with|some y=>(y.Page,true)|none=>(AFI,false)):=by
 have hp:∀y:Al,(cond (y.Page.Kind==2) (cond (y.Page.Tx==t) (cond (y.Page.Part==a) (cond (c==0) (some true)<|some<|y.Page.Count==c)<|some false)<|some false) (some false):Option Bool)=some (sT t a c y):=by grind [sT]
 unfold SE;obtain⟨b,h1,h2⟩:=A9 (body:=λs:Int=>M7 r t a c s) (λ(_:Unit) i=>i) r.length (λi _=>∀(j:Nat) x,j<i->r[j]?=some x->sT t a c x=false) (λb=>match SY r t a c with|some y=>b= .inr (y.Page,true)|none=>b= .inl ())
  (λ_ i hi hs=>by
   have hx:=Ab hi;simp only[M7,Do hi,Aq,hx,Aa];rw[hp,ad1]
   cases e:sT t a c r[i]with
   |true=>grind [nC,SY]
   |false=>
    refine .inl ⟨(),by rfl,λj x hj d=>?_⟩
    grind)
  (λ_ hs=>⟨.inl (),by simp[CQ,M7],by grind [yQ,SY]⟩) (s:=()) (λj x hj=>by omega)
 rw[h1]
 cases hf:SY r t a c with
 |none=>rw[hf]at h2;simp only at h2;rw[h2];rfl
 |some y=>grind
theorem ACf (r:List Al) (hr:Gp r) (t:Int) (v:Page×Bool) (hv:1<=v.1.Count/\v.1.Count<=9):∀(n:Nat) (a:Int) (text:ByteArray) (seq:Int),a+n=11->1<=a->a<=v.1.Count->(L text).length<=90*a.toNat->
  ∃b,Ah (λs:ByteArray×Int×Int=>LU r t v s.1 s.2.1 s.2.2) (text,seq,a)=some b/\(match parts r t n a v.1.Count (L text) seq with
   |none=>b= .inr (Tx.mk 0 0 [],false)
   |some (x,q)=>∃u,b= .inl (u,q)/\L u=x/\(L u).length<=1000)
 |0,a,text,seq,hn,h1,hc,ht=>by omega
 |n+1,a,text,seq,hn,h1,hc,ht=>by
  rw[Aw];simp only[LU,parts];by_cases e:a<v.1.Count
  ·rw[Ac e,Cc (.inr e)];rw[iR r hr.len t a v.1.Count (.inr ⟨by omega,by omega⟩)];simp only[Aa]
   cases hf:SY r t a v.1.Count with
   |none=>grind
   |some y=>
    simp only[An,Ad];have hy:=SX hf;have d:=hr.text y hy.1;have c:=yF hy.2 (by omega);rw[GL text y.Page.Text (by omega),Aa,Ch,c];have es:S7 a seq y=(if y.Page.Seq<seq then y.Page.Seq else seq):=by grind [S7]
    rw[es,<-Ha];exact ACf r hr t v hv n (a+1) _ _ (by omega) (by omega) (by omega)<|by grind [Ha]
  simp_all [Ai];grind
theorem mI (r:List Al) (hr:Gp r) (t:Int):∃x ok,QT r t=some (x,ok)/\Kh r t=(if ok=true then some x else none)/\x.Recs.length<=20000:=by
 unfold QT Kh;rw[iR r hr.len t 0 0<|.inl ⟨rfl,rfl⟩];simp only[Aa]
 have a:parts r t 11 0 0 [] 0=(match SY r t 0 0 with
  |none=>none
  |some y=>parts r t 10 1 y.Page.Count (L y.Page.Text) y.Page.Seq):=by rfl
 rw[a]
 cases hf:SY r t 0 0 with
 |none=>simp
 |some y=>
  simp only[An,Ad];have hy:=SX hf;have c:=hr.text y hy.1;have hc:=hr.cnt y hy.1;obtain⟨b,h1,h2⟩:=ACf r hr t (y.Page,true) hc 10 1 y.Page.Text y.Page.Seq (by omega) (by omega) hc.1 (by omega);rw[h1];simp only[Aa]
  cases hp:parts r t 10 1 y.Page.Count (L y.Page.Text) y.Page.Seq with
  |none=>grind
  |some w=>
   obtain⟨x,q⟩:=w;rw[hp]at h2;obtain⟨u,rfl,rfl,h4⟩:=h2;simp only[DM];obtain⟨l,ok,r1,r2,r3⟩:=dL u (by omega);rw[fJ u (by omega),r1,AGa,r2];simp_all;grind
theorem Yg (r:List Al) (hr:Gp r):SP r=some (AT r):=by
 have c:=hr.len;have a:=GC r λy hy=>(hr.tx y hy).1;obtain⟨l,l1,l2,l3,l4⟩:=fM hr;unfold SP;rw[l1];simp only[Aa];unfold VM;rw[Cc (by omega),zH hr l2 l3];simp only[Aa];obtain⟨b,h1,h2⟩:=A9 (body:=λs:List Tx×Int=>MF r (Dx r) s.1 s.2) (λ(o:List Tx) i=>(o,i)) (Dx r).length (λi o=>o=((Dx r).take i).filterMap (Kh r)) (λb=>b=AT r)
  (λo i hi ho=>by
   have hx:=Ab hi;have et:(Dx r).take (i+1)=(Dx r).take i++ [(Dx r)[i]]:=Ag hi;simp only[MF,Do hi,Aq,hx,Aa];rw[ad1];obtain⟨z,ok,k1,k2,k3⟩:=mI r hr (Dx r)[i]
   grind [AY])
  (λo ho=>⟨o,by simp[CQ,MF],by rw[ho,IS];rfl⟩) (s:=[]) rfl
 grind
theorem iY (x:Tx):SG x=some (uC x):=by grind [Bc,SG,uC,gi]
theorem vA (h:GM d r):Pe d=Ln d:=by
 have hr:=h.pages;unfold Pe Ln
 cases(d.Base !=sb d.Tx 1)with
 |true=>rfl
 |false=>
  rw[h.scan.s,h.scan.i];simp only[Aa];rw[OV r hr,Yg r hr];simp only[Aa];have hb:(λs:Int=>KE d (AT r) s)=(λs:Int=>Gf d (AT r) s):=by
   funext s;simp only[KE,Gf]
   cases decide (s<ln (AT r))with
   |false=>rfl
   |true=>
    cases hg:gi (AT r) s with
    |none=>rfl
    |some x=>simp_all [iY,Bc,uC,gi];grind
  rw[hb]
theorem fT (h:GM d r):QW d=Lr d:=by
 have hn:=h.fl.n;obtain⟨live,l1,l2,l3,l4⟩:=Gg h.st;unfold Lr QW;rw[h.scan.s,l1];simp only[Aa];rw[Nq r live d.Base h.scan.len l4,Nq r live 1000000000 h.scan.len l4];simp only[Aa]
 have c:∀b,live.foldl (e8 r) (r.map<|Dz b)=Cv r live b:=λ_=>rfl
 rw[c,c]
 have hi:∀b:Block,Ka b=ES b:=λ_=>rfl
 have step:∀(o:Int×Int) (i:Nat),i<d.Flash.Blocks.length->Hx d o.1 o.2 (i:Int)=Dg d r (Cv r live d.Base) (Cv r live 1000000000) o.1 o.2 (i:Int)/\∃o':Int×Int,Dg d r (Cv r live d.Base) (Cv r live 1000000000) o.1 o.2 (i:Int)=some (.inl (o'.1,o'.2,((i+1:Nat):Int))):=by
  intro o i a;have hx:=Ab a;have hP:=h.fl.blk _<|Av a;have e:Nr d.Flash.Blocks[i].Leaves<=4:=by have:=tV d.Flash.Blocks[i].Leaves;rw[hP.four]at this;exact this
  simp only[Dg,Hx,Do a,Aq,hx,Aa];rw[aO r _ (i:Int) h.scan.len<|JW _ _ _,aO r _ (i:Int) h.scan.len<|JW _ _ _,hi,K3 _ hP.four,ad1,(sE h l1 l2 l4 1000000000 (i:Int)).2,(sE h l1 l2 l4 d.Base (i:Int)).2];generalize cn r.length (λj=>(Cv r live d.Base)[j]?.getD false&&bk r (i:Int) j)=A;generalize cn r.length (λj=>(Cv r live 1000000000)[j]?.getD false&&bk r (i:Int) j)=C;simp only[Aa]
  cases d.Flash.Blocks[i].Bad with
  |true=>grind
  |false=>
   simp only[CC,Ap,Ad,Aa];by_cases q:Nr d.Flash.Blocks[i].Leaves=4
   ·rw[Ai (by omega:¬((Nr d.Flash.Blocks[i].Leaves:Nat):Int)<4),show(((Nr d.Flash.Blocks[i].Leaves:Nat):Int)==4)=true by simp;omega];simp_all;grind
   grind
 obtain⟨v,e1,e2,_⟩:=GE (body:=λs:Int×Int×Int=>Dg d r (Cv r live d.Base) (Cv r live 1000000000) s.1 s.2.1 s.2.2) (body':=λs:Int×Int×Int=>Hx d s.1 s.2.1 s.2.2) (λ(o:Int×Int) i=>(o.1,o.2,i)) d.Flash.Blocks.length (λ_ _=>True) (λ_=>True)
  (λo i a _=>by simp_all)
  (λo _=>⟨by simp[CQ,Dg,Hx],o.1,by simp[CQ,Dg],trivial⟩) (s:=(-1,4)) trivial
 grind
theorem f7 (h:IY d r):Ro d=L0 d:=by
 obtain⟨l,d1,d2,_⟩:=fZ d<|Tm h.dev;obtain⟨st,ok,b1,b2,_⟩:=sP h.dev;obtain⟨live,l1,l2,l3,l4⟩:=Gg h.dev.st
 have hm:∀b,MD d b=GW d b:=λb=>by
  obtain⟨v,_,v2,v3,_⟩:=dR h.dev h.few l1 l2 l3 l4 b;rw[v2,v3]
 unfold Ro L0;rw[d1,d2,vA h.dev,fT h.dev,b1,b2]
 grind
theorem gE {c:Nat} {s:AG} (hc:s.Block=(c:Int)) (B:Int×List Block->Option ((Int×List Block)⊕List Block)) (hB:∀i bl,B (i,bl)=EK s i bl):∀(n i:Nat) (bl:List Block) (x:Block),bl[c]?=some x->i+n=x.Leaves.length->x.Leaves.length<=4->(∀(k:Nat),k<i->x.Leaves[k]?=some (Leaf.mk 2 (bs [])))->
  Ah B ((i:Int),bl)=some (bl.set c (Block.mk x.Bad x.Wear (List.replicate x.Leaves.length (Leaf.mk 2 (bs [])))))
 |0,i,bl,x,hx,hi,h4,hk=>by
  rw[Aw,hB];simp only[EK,hc,Aq,hx,Aa,Fl];rw[cF];have e:x.Leaves=List.replicate x.Leaves.length (Leaf.mk 2 (bs [])):=by
   apply B8
   grind
  rw[<-e];have:bl.set c x=bl:=by
   apply B8
   grind
  cases x
  grind
 |n+1,i,bl,x,hx,hi,h4,hk=>by
  have a:i<x.Leaves.length:=by omega
  have hl:=Ab a;rw[Aw,hB];simp only[EK,hc,Aq,hx,Aa,Do a,hl,DL];rw[ad1];have:=gE (s:=s) hc B hB n (i+1) (bl.set c<|Block.mk x.Bad x.Wear<|x.Leaves.set i<|Leaf.mk 2<|bs []) (Block.mk x.Bad x.Wear<|x.Leaves.set i<|Leaf.mk 2<|bs []) (by grind) (by simp;omega) (by simpa using h4) (λk b=>by grind);simp_all
theorem AEP {s:AG} (h:Bg f) (hs:Qt f s):∃g,N6 f s=some (g,true)/\AAN f s g:=by
 have hd:Jg f s=some (MY f s,true):=by grind [Q9]
 unfold N6;rw[hd,Cu f h.cap];simp only[Aa,An,Ad]
 rcases hs with⟨k1,hm⟩|⟨k1,hc⟩
 ·rw[show(s.Kind==1)=true by simpa using k1];simp only[Ap];obtain⟨_,_,A,B,e1,_,e2⟩:=QJ h hm;obtain⟨x,x1,x2,x3,x4,x5,x6⟩:=hm;have hP:=h.blk x<|Ao (Cm x1).2;rw[x1];simp only[Aa];have hq:qu (Gz s.Text) 2=(((L s.Text).length/2:Nat):Int):=by grind [Bu,O8,qu]
  rw[hq,show sub s.Text 0 (((L s.Text).length/2:Nat):Int)=sub s.Text ((0:Nat):Int) (((L s.Text).length/2:Nat):Int)from rfl,FM s.Text (Ja _)<|by omega];simp only[Aa];have hx:gi x.Leaves s.Leaf=some (x.Leaves[Nr x.Leaves]'(by rw[hP.four];exact x4)):=by grind [Aq]
  rw[hx];simp only[Aa];refine⟨_,rfl,?_,λn hw=>j9 hw<|hw x<|Ao (Cm x1).2,.inl ⟨k1,?_⟩⟩
  ·obtain⟨b0,b1⟩:=Cm x1;obtain⟨c,a⟩:∃c:Nat,s.Block=(c:Int):=⟨_,(AK b0).symm⟩;rw[a,x3,DL,DL];refine MH h (Ve hP rfl x4 (.inr<|.inr ⟨rfl,?_⟩)<|by simp)
   grind [Kg]
  grind [Va]
 rw[show(s.Kind==1)=false by simp;omega];simp only[Ad];obtain⟨x,x1,x2,x3⟩:=hc;obtain⟨b0,b1⟩:=Cm x1;obtain⟨c,a⟩:∃c:Nat,s.Block=(c:Int):=⟨_,(AK b0).symm⟩;rw[a,Cf]at b1;have hP:=h.blk x<|Ao b1;have hl:=gE (s:=s) a (λq:Int×List Block=>EK s q.1 q.2) (λ_ _=>rfl) x.Leaves.length 0 f.Blocks x b1 (by omega) (by rw[hP.four];omega) (λk hk=>by omega);rw[show((0:Nat):Int)=0 from rfl]at hl;rw[hl];refine⟨_,rfl,?_,λn hw y hy=>?_,.inr ⟨k1,?_⟩⟩
 ·refine MH h ⟨by simp[hP.four],hP.wear,λy hy=>?_,λk y z hy hz h0=>?_⟩
  ·rw[DG hy];exact .inr<|.inr ⟨rfl,by rw[DO];simp⟩
  grind
 ·rcases C3 hy with hy|rfl
  ·exact hw y hy
  exact hw x<|Ao b1
 grind [XZ,Wn]
theorem vX (hf:Bg f) (hk:k<=ss.length) (hl:ss.length<=1000000) (h:∃m,Steps f ss m) (torn:Bool):∃g,Ic f ss (k:Int) torn=some (g,true)/\Bg g/\Yo f ss k g:=by
 obtain⟨z,hz⟩:=h;rw[<-BE k ss]at hz;obtain⟨m,h1,h2⟩:=(H3 _ _ _ _).1 hz;have hm:=Ue hf h1;unfold Ic;rw[Bc,Dj];simp only[Aa];rw[Ac (by omega:0<=(k:Int)/\(k:Int)<=(ss.length:Int))];have b:dr ss 0 (k:Int)=some (ss.take k):=by
  unfold dr
  grind
 have a:(ss.take k).length=k:=by grind
 rw[b];simp only[Aa];rw[M1 hf h1 (by omega),a];simp only[Aa];rw[Ai (by omega:¬(k:Int)<(k:Int))]
 cases torn with
 |false=>exact⟨m,rfl,hm,m,h1,.inl rfl⟩
 |true=>
  simp only[An,Ad,Aa];by_cases e:k=ss.length
  ·rw[show((k:Int)==(ss.length:Int))=true by simp;omega];exact⟨m,rfl,hm,m,h1,.inl rfl⟩
  rw[show((k:Int)==(ss.length:Int))=false by simp;omega];have hx:=Ab (show k<ss.length by omega);rw[AB<|show k<ss.length by omega]at h2;rw[Aq,hx];simp only[Aa];obtain⟨g,g1,g2⟩:=AEP hm h2.1;rw[g1];exact⟨g,rfl,g2.1,m,h1,.inr ⟨_,hx,h2.1,g2⟩⟩
theorem ZV (h:GM d r) (vol k:Int):Ob d vol k=(EX r d.Store vol k):=by
 unfold Ob;rw[h.scan.s];simp only[Aa];cases EX r d.Store vol k<;>rfl
theorem cS {body:Int×Int->Option ((Int×Int)⊕Int)} (l:List Int) (p:Int->Bool) (n0:Int) (h0:0<=n0) (hM:(l.length:Int)+n0<=1152921504606846976) (hb:∀(n:Int) (i:Nat) x,l[i]?=some x->body (n,(i:Int))=(bif p x then some (.inl (ad n 1,ad (i:Int) 1))else some (.inl (n,ad (i:Int) 1)))) (he:∀n,body (n,(l.length:Int))=some (.inr n)):Ah body (n0,0)=some (n0+((l.filter p).length:Int)):=by
 obtain⟨b,h1,rfl⟩:=A9 (body:=body) (λ(n:Int) i=>(n,i)) l.length (λi n=>n=n0+(((l.take i).filter p).length:Int)) (λn=>n=n0+((l.filter p).length:Int))
  (λn i hi hn=>by
   have hg:l[i]?=some l[i]:=Ab hi;have a:=Ba p<|l.take i;simp only[Fe]at a;refine .inl ?_;rw[hb n i _ hg];have et:l.take (i+1)=l.take i++ [l[i]]:=by simp
   cases hp:p l[i]with
   |true=>
    rw[Ch,ad1]
    grind
   |false=>
    rw[ad1]
    grind)
  (λn hn=>⟨n,he n,by grind⟩) (s:=n0) (by simp)
 exact h1
theorem jV (s:Store) (hv:s.Vols.length<=1048576) (ha:MT s.Arena) (c:Int) (hc:0<c):∃n:Int,VW s c=some n/\W1 s c=some n/\0<=n/\n<=16777216/\n=(((GP s s.Vols.length).filter λx=>x==c).length:Int):=by
 have hN:=PL s ha s.Vols.length<|A0 _;have b:=Ba (λx:Int=>x==c)<|GP s s.Vols.length;refine⟨(((GP s s.Vols.length).filter λx=>x==c).length:Int),?_,?_,by omega,by omega,rfl⟩
 ·unfold VW;obtain⟨n,h1,rfl⟩:=A9 (body:=λq:Int×Int=>Mv s c q.1 q.2) (λ(n:Int) i=>(n,i)) s.Vols.length (λi n=>n=(((GP s i).filter λx=>x==c).length:Int)) (λn=>n=(((GP s s.Vols.length).filter λx=>x==c).length:Int))
   (λn i hi hn=>by
    have hg:s.Vols[i]?=some s.Vols[i]:=Ab hi;obtain⟨a,a1,_,a2⟩:=O6 s.Arena ha s.Vols[i].Root;have d:=PL s ha i (by omega);have e:=Ba (λx:Int=>x==c)<|GP s i;refine .inl ?_;simp only[Mv,Fl,Ac hi,Ap,Aq,hg,Aa,a1];rw[Ac (by omega:c>0)]
    rw[cS (body:=λq:Int×Int=>Mu c a q.1 q.2) a (λx=>x==c) n (by omega) (by omega)
     (λm k y hy=>by grind [Fl,Aq,Mu])
     (λm=>by grind [Fl,Mu])]
    grind [ad1,PK])
   (λn hn=>⟨n,by grind [Fl,Mv],hn⟩) (s:=0) (by simp[GP])
  rw[h1];rfl
 unfold W1;rw[Tc s hv ha];simp only[Aa];have f:=Ba (λx:Int=>decide<|x>0)<|GP s s.Vols.length
 rw[cS (body:=λq:Int×Int=>MC c ((GP s s.Vols.length).filter λx=>decide<|x>0) q.1 q.2) ((GP s s.Vols.length).filter λx=>decide<|x>0) (λx=>x==c) 0 (by omega) (by omega)
  (λm k y hy=>by grind [Fl,Aq,MC])
  (λm=>by grind [Fl,MC])]
 simp_all;grind
theorem yN (d:Device) (hv:d.Store.Vols.length<=1048576) (ha:MT d.Store.Arena):Ah (λs:Int×Int=>ID d s.1 s.2) (0,0)=some (((GP d.Store d.Store.Vols.length).filter λx=>decide (x>0)).length:Int):=by
 obtain⟨n,h1,rfl⟩:=A9 (body:=λq:Int×Int=>ID d q.1 q.2) (λ(n:Int) i=>(n,i)) d.Store.Vols.length (λi n=>n=(((GP d.Store i).filter λx=>decide<|x>0).length:Int)) (λn=>n=(((GP d.Store d.Store.Vols.length).filter λx=>decide<|x>0).length:Int))
  (λn i hi hn=>by
   have hg:d.Store.Vols[i]?=some d.Store.Vols[i]:=Ab hi;obtain⟨a,a1,_,a2⟩:=O6 d.Store.Arena ha d.Store.Vols[i].Root;have b:=PL d.Store ha i (by omega);have c:=Ba (λx:Int=>decide<|x>0)<|GP d.Store i;refine .inl ?_;simp only[ID,Do hi,Aq,hg,Aa,a1]
   rw[cS (body:=λq:Int×Int=>K4 a q.1 q.2) a (λx=>decide<|x>0) n (by omega) (by omega)
    (λm k y hy=>by
     have hk:=(Ae.1 hy).1
     simp_all [Aq,Do,K4])
    (λm=>by simp[CQ,K4])]
   grind [ad1,PK])
  (λn hn=>⟨n,by simp[CQ,ID],hn⟩) (s:=0) (by simp[GP])
 exact h1
theorem vZ (d:Device) (hz:Ko d<=1048576):∃v,Lz d=some v/\Qa d=some v:=by
 unfold Ko at hz;obtain⟨r,hr⟩:=Zr d.Flash (by omega);have hs:HH d.Store<=1048576:=by omega
 have hv:d.Store.Vols.length<=1048576:=by grind [HH]
 have ha:MT d.Store.Arena:=by grind [UG,HH,WP,MT]
 obtain⟨l,l1,l2,⟨l3,l4⟩,l5⟩:=Qj d.Store hv ha;unfold Lz Qa;rw[l1,l2,hr.s];simp only[Aa];obtain⟨v,h1,h2,_⟩:=K9 (body:=λs:Int×List ByteArray×Int=>EN d l r s.1 s.2.1 s.2.2) (body':=λs:Int×List ByteArray×Int=>IM d l s.1 s.2.1 s.2.2) (λ(q:Int×List ByteArray) i=>(q.1,q.2,i)) (λ(q:Int×List ByteArray) i=>(q.1,q.2,i)) l.length (λi q=>0<=q.1/\q.1<=16777216*(i:Int)/\q.2.length=i) (λ_=>True)
  (λq i hi hq=>by
   have hg:l[i]?=some l[i]:=Ab hi;have a:0<l[i]:=((l4 _).1<|Av hi).2;obtain⟨n,n1,n2,n3,n4⟩:=jV d.Store hv ha l[i] a;obtain⟨u,ok,t1,t2⟩:=R9 hr l[i];simp only[EN,IM,Do hi,Aq,hg,Aa,n1,n2,t1,t2]
   cases ok with
   |false=>grind
   |true=>
    have b:∃w,Ah (λs:Int=>EM q.2 (u,true) s) 0=some w/\Ah (λs:Int=>N1 q.2 (u,true) s) 0=some w/\(w= .inl ()\/w= .inr (.inr<|.inr false)):=
     GE (body:=λs:Int=>EM q.2 (u,true) s) (body':=λs:Int=>N1 q.2 (u,true) s) (λ(_:Unit) k=>k) q.2.length (λ_ _=>True) (λw=>w= .inl ()\/w= .inr (.inr<|.inr false))
      (λ_ k hk _=>by
       have c:q.2[k]?=some q.2[k]:=Ab hk;refine⟨rfl,?_⟩;simp only[EM,Do hk,Aq,c,Aa]
       cases seq q.2[k] u with
       |true=>grind
       |false=>
        rw[ad1]
        simp)
      (λ_ _=>⟨rfl,_,by simp[CQ,EM],.inl rfl⟩) (s:=()) trivial
    obtain⟨w,w1,w2,w3⟩:=b;rw[w1,w2]
    rcases w3 with rfl|rfl
    ·rw[AY (by grind),ad1,Ch];exact .inl ⟨(q.1+n,q.2++ [u]),rfl,rfl,by simp only;omega,by simp only;omega,by grind⟩
    grind)
  (λq hq=>⟨_,by simp only[EN,CQ];rfl,by simp[CQ,IM],trivial⟩) (s:=(0,[])) ⟨by simp,by simp,rfl⟩
 have h1':Ah (λs:Int×List ByteArray×Int=>EN d l r s.1 s.2.1 s.2.2) (0,[],0)=some v:=h1;have h2':Ah (λs:Int×List ByteArray×Int=>IM d l s.1 s.2.1 s.2.2) (0,[],0)=some v:=h2;rw[h1',h2',yN d hv ha,Tc d.Store hv ha]
 cases v with
 |inl v=>exact⟨_,rfl,rfl⟩
 |inr v=>simp
noncomputable def NK (r:List Al) (c:Int):ByteArray:=if 0<c then(BT r c).getD (bs [])else bs []
noncomputable def Fy (r:List Al) (p:Int×List Int):Shelf:=Shelf.mk p.1 ((List.range 16).map λk=>NK r (p.2[k]?.getD 0))
noncomputable def Kj (r:List Al) (l:Vs):List Shelf:=l.map (Fy r)
theorem ABo (h:IY d r) (hv:v∈d.Store.Vols) (hk:k<16):EX r d.Store v.Id (k:Int)=some (NK r ((Et d.Store.Arena.Knots v.Root)[k]?.getD 0),true):=by
 have hg:=LE h.dev.st.asc hv
 grind [XN,NK]
theorem Za (h:IY d r):DH d=some (Kj r (AF d.Store))/\FI d=some (Kj r (AF d.Store)):=by
 have c:=h.dev.st.len;have hs:DH d=some (Kj r<|AF d.Store):=by
  unfold DH;rw[h.dev.scan.s];simp only[Aa];obtain⟨b,h1,rfl⟩:=A9 (body:=λs:List Shelf×Int=>CN d r s.1 s.2) (λ(o:List Shelf) i=>(o,i)) d.Store.Vols.length (λi o=>o=Kj r ((AF d.Store).take i)) (λo=>o=Kj r (AF d.Store))
   (λo i hi ho=>by
    have hg:d.Store.Vols[i]?=some d.Store.Vols[i]:=Ab hi;simp only[CN,Do hi,Aq,hg,Aa];have:=S9 (body:=λs:Int×List ByteArray=>DX d r d.Store.Vols[i] s.1 s.2) (List.range 16) (λk=>NK r<|(Et d.Store.Arena.Knots d.Store.Vols[i].Root)[k]?.getD 0)
     (λk x a hx ho=>by grind [ABo,AY,ad1,DX])
     (λa=>by rfl)
    grind [AY,ad1,Ag,Kj,AF,Fy])
   (λo ho=>⟨o,by simp[CQ,CN],by grind [AP,AF]⟩) (s:=[]) rfl
  rw[h1];rfl
 obtain⟨m,m1,m2⟩:=XC d<|Tm h.dev
 grind
theorem iS {l:Vs} (h:∀c,Dt l c->BT r' c=BT r c):Kj r' l=Kj r l:=by
 refine D4 λp hp=>Co (Shelf.mk p.1)<|D4 λk _=>?_
 unfold NK;split
 ·rename_i hc;rw[h _ ⟨hc,p,hp,?_⟩]
  grind
 rfl
theorem Xj (h:GM d r):Qv (Kj r (AF d.Store)):=by
 have:=h.st.len;refine⟨by grind [Kj,AF],λx hx=>?_⟩;obtain⟨p,_,rfl⟩:=A8.1 hx;simp[Fy]
theorem ACu (p q:Int->Bool) (h:∀x,p x=true->q x=true->False):∀N:List Int,(N.filter λx=>p x||q x).length=(N.filter p).length+(N.filter q).length
 |[]=>rfl
 |x::N=>by
  have ih:=ACu p q h N
  grind
theorem jH (h:IY d r):Lz d=some true/\Qa d=some true:=by
 have hs:Lz d=some true:=by
  have j:=h.dev.st.len;have o:=h.dev.st.small;have ha:MT d.Store.Arena:=by unfold MT;omega
  obtain⟨l,l1,l2,⟨l3,l4⟩,_⟩:=Qj d.Store (by omega) ha;obtain⟨l',k1,_,k2,_⟩:=Gg h.dev.st;rw[l1]at k1
  injection k1 with k1
  subst k1;unfold Lz;rw[l1,h.dev.scan.s];simp only[Aa];have hN:=PL d.Store ha d.Store.Vols.length<|A0 _
  have fl:=λp=>Ba p<|GP d.Store d.Store.Vols.length
  obtain⟨b,h1,rfl⟩:=A9 (body:=λs:Int×List ByteArray×Int=>EN d l r s.1 s.2.1 s.2.2) (λ(q:Int×List ByteArray) i=>(q.1,q.2,i)) l.length
   (λi q=>q.1=(((GP d.Store d.Store.Vols.length).filter λx=>(l.take i).contains x).length:Int)/\q.2=(l.take i).map (NK r)) (λb=>b= .inl (((GP d.Store d.Store.Vols.length).filter λx=>l.contains x).length:Int))
   (λq i hi hq=>by
    obtain⟨n,ts⟩:=q;obtain⟨rfl,rfl⟩:=hq;have hg:l[i]?=some l[i]:=Ab hi;have a:=(k2 l[i]).1<|Av hi;obtain⟨m,n1,_,n3,n4,rfl⟩:=jV d.Store (by omega) ha l[i] a.1;obtain⟨u,hu⟩:=h.data.data _ a;obtain⟨w,ok,t1,t2⟩:=ZR h.core.pages l[i];rw[hu]at t2
    cases ok with
    |false=>cases t2
    |true=>
     injection t2 with t2
     subst t2;simp only[EN,Do hi,Aq,hg,Aa,n1,t1,An,Ad]
     have old:∀k (hk:k<i),l[k]'(by omega)<l[i]:=λk hk=>C1.1 l3 k i (by omega) hi hk
     obtain⟨w,w1,rfl⟩:=A9 (body:=λs:Int=>EM ((l.take i).map<|NK r) (u,true) s) (λ(_:Unit) k=>k) i (λ_ _=>True) (λw=>w= .inl ())
      (λ_ k hk _=>by
       have f:k<l.length:=by omega
       have hx:((l.take i).map<|NK r)[k]?=some (NK r l[k]):=by grind
       have c:=(k2 l[k]).1<|Av f;obtain⟨z,hz⟩:=h.data.data _ c;have g:seq (NK r l[k]) u=false:=by
        rw[IV,decide_eq_false_iff_not];unfold NK;rw[Cc c.1,hz,Dy];intro e;have:=h.data.dist _ _ c a<|by rw[hz,hu,e]
        grind
       simp only[EM];rw[Bc,Bw,Fe,cT,Aq,hx,Aa,g,Ad,ad1]
       simp)
      (λ_ _=>⟨_,by grind [Bc,EM],rfl⟩) (s:=()) trivial
     rw[w1]
     have:=fl λx=>(l.take i).contains x
     rw[AY (by simp;omega),ad1,Ch];refine .inl ⟨(_,_),rfl,?_,?_⟩
     ·have:=ACu (λx=>(l.take i).contains x) (λx=>x==l[i]) (λx h1 h2=>by grind [Ay])<|GP d.Store d.Store.Vols.length;rw[Ag hi];simp only[List.contains_append,List.contains_cons,List.contains_nil,Bool.or_false];omega
     grind [Ag,NK])
   (λq hq=>⟨_,by simp only[EN,CQ];rfl,by grind⟩) (s:=(0,[])) ⟨by grind [BI],rfl⟩
  grind [yN,List.filter_congr]
 obtain⟨m,m1,m2⟩:=vZ d<|Tm h.dev
 grind
theorem mN (a:Arena) (ha:a.Knots.length<=1048000) (hK:C5 a.Knots=true) (R:List Int) (hc:R.length<=1000) (hR:∀r∈R,Dc a.Knots r=true) (v:List Int):∃l,Ah (λs:List Int×Int=>FG a R v s.1 s.2) ([],0)=some (.inl l)/\l.length<=5000/\∀i:Nat,(i:Int)∈l↔C6 a.Knots R i=true:=by
 obtain⟨b,h1,l,rfl,h3,h4⟩:=A9 (body:=λs:List Int×Int=>FG a R v s.1 s.2) (λ(o:List Int) i=>(o,i)) R.length (λi o=>o.length<=5*i/\∀n:Nat,(n:Int)∈o↔C6 a.Knots (R.take i) n=true) (λb=>∃l,b= .inl l/\l.length<=5000/\∀i:Nat,(i:Int)∈l↔C6 a.Knots R i=true)
  (λo i hi ho=>by
   obtain⟨o1,o2⟩:=ho;have hx:=Ab hi;have hr:=hR _<|Av hi;obtain⟨m,m1,m2,m3⟩:=Wz a ha hK hr;simp only[FG,Do hi,Aq,hx,Aa];rw[pV (by omega) hr];simp only[Aa,Ad];rw[m1,Aa,AY (by omega),ad1]
   simp_all [VF,C6];grind)
  (λo ho=>⟨_,by simp[CQ,FG],o,rfl,by have:=ho.1;omega,by grind⟩) (s:=[]) ⟨by simp,λn=>by simp[C6]⟩
 grind
theorem fC (a:Arena) (ha:a.Knots.length<=1048000) (hK:C5 a.Knots=true) (R:List Int) (hR:∀r∈R,Dc a.Knots r=true) (l:List Int) (z:l.length<=5000) (hl:∀i:Nat,(i:Int)∈l↔C6 a.Knots R i=true):
  Ah (λs:List Int×Int×List Bf=>FE a l s.1 s.2.1 s.2.2) (List.replicate a.Knots.length 0,0,[])=some (Vw a.Knots R a.Knots.length,VG a.Knots R):=by
 have h:∀i:Nat,l.contains (i:Int)=C6 a.Knots R i:=λi=>by grind
 obtain⟨b,h1,h2⟩:=A9 (body:=λs:List Int×Int×List Bf=>FE a l s.1 s.2.1 s.2.2) (λ(o:List Int×List Bf) i=>(o.1,i,o.2)) a.Knots.length
  (λi o=>o=(Vw a.Knots R i,((List.range i).filter<|C6 a.Knots R).map<|ZB a.Knots R)) (λb=>b=(Vw a.Knots R a.Knots.length,VG a.Knots R))
  (λo i hi ho=>by
   subst ho;have h0:(0:Int)<=(i:Int):=by omega
   have f:(i:Int)<(a.Knots.length:Int):=by omega
   simp only[FE,Do hi];rw[HD h0 f,Zi l _ (by omega),h];simp only[Aa]
   cases hu:C6 a.Knots R i with
   |false=>
    rw[ad1];refine .inl ⟨(Vw a.Knots R i,((List.range i).filter<|C6 a.Knots R).map<|ZB a.Knots R),rfl,?_⟩;simp_all [DN,Vw];grind
   |true=>
    obtain⟨h4,hk⟩:=Fo hK h0 f;have n:gi (Vw a.Knots R i) (i:Int)=some 0:=by grind [Aq,Vw]
    rw[n,MI<|by omega];simp only[Aa];have y:=AEs (K:=a.Knots) (R:=R) i;have h3:(((List.range i).filter<|C6 a.Knots R).map<|ZB a.Knots R).length=nZ a.Knots R i:=by rw[Bw];rfl
    have d:si (Vw a.Knots R i) (i:Int) (ln<|((List.range i).filter<|C6 a.Knots R).map<|ZB a.Knots R)=Vw a.Knots R (i+1):=by simp_all [Bc,DL,PH,Vw];grind
    have inner:Ah (λs:Int×List Int=>FD (Vw a.Knots R i) (i:Int) (((List.range i).filter<|C6 a.Knots R).map<|ZB a.Knots R) (BK a.Knots (i:Int)) s.1 s.2) (0,(BK a.Knots (i:Int)).Kids)=some (ZB a.Knots R i).Kids:=by
     have q:=Om (body:=λs:Int×List Int=>FD (Vw a.Knots R i) (i:Int) (((List.range i).filter<|C6 a.Knots R).map<|ZB a.Knots R) (BK a.Knots (i:Int)) s.1 s.2) (λl k=>(k,l)) (λ_ x=>bif(BK a.Knots (i:Int)).Leaf then x else RO a.Knots R x) (BK a.Knots (i:Int)).Kids
      (λk l x p t g=>by
       have u:=(Ae.1 g).1;have v:k<4:=by omega
       have ex:x=P7 (BK a.Knots (i:Int)) k:=by grind
       have same:l.set k x=l:=by
        apply B8
        grind
       simp only[FD,Do u,Aq,g,Aa];rw[d]
       cases j:(BK a.Knots (i:Int)).Leaf with
       |true=>grind [ad1]
       |false=>
        simp only[CC,Ap,Ad,Aa]
        rcases FZ hK h0 f j v with e|⟨e1,e2,e3⟩
        ·grind [ad1,RO]
        obtain⟨c,hc⟩:∃c:Nat,x=(c:Int):=⟨x.toNat,by omega⟩;have w:x∈(BK a.Knots (i:Int)).Kids:=Ao g;have m:=V8 (Zz hK hR hu j) h0 w (by omega);rw[hc]at m;rw[hc,Aq];unfold Vw;rw[NA (by omega),Aa,Cc ⟨by omega,m⟩,t,Aa,DL,ad1]
        rfl)
      (λl p=>by simp[CQ,FD])
     rw[IF]at q;rw[q];unfold ZB
     cases(BK a.Knots (i:Int)).Leaf with
     |true=>simp
     |false=>rfl
    rw[inner,Aa,AY (by grind),Aa,ad1,d];refine .inl ⟨(_,_),rfl,?_⟩;congr 1;rw[DN,Cl,NH hu,List.filter_nil,JI]
    rfl)
  (λo ho=>⟨o,by simp[CQ,FE],ho⟩) (s:=(List.replicate a.Knots.length 0,[])) (by grind [Nd,FJ,Vw])
 grind
theorem uG (a:Arena) (ha:a.Knots.length<=1048000) (hK:C5 a.Knots=true) (R:List Int) (hc:R.length<=1000) (hR:∀r∈R,Dc a.Knots r=true):Nu a R=some (Arena.mk (VG a.Knots R),R.map (RO a.Knots R)):=by
 unfold Nu;rw[MI<|by omega];simp only[Aa];obtain⟨l,l1,l2,l3⟩:=mN a ha hK R hc hR R;rw[l1,Rr a (by omega),hK];simp only[Aa,DM,An,Ad];rw[Bc,aZ (by omega) (by omega),Aa,fC a ha hK R hR l l2 l3];simp only[Aa];have q:=Om (body:=λs:List Int×Int=>Hq R (Vw a.Knots R a.Knots.length,VG a.Knots R) s.1 s.2) (λl k=>(l,k)) (λ_ x=>RO a.Knots R x) R
  (λk l x g h b=>by
   have hk:=(Ae.1 b).1;simp only[Hq,Do hk,Aq,b,Aa]
   rcases BN (hR x<|Ao b)with e|⟨e1,e2,e3⟩
   ·rw[cF,ad1];have:RO a.Knots R x=x:=by unfold RO;omega
    rw[this,show l.set k x=l from by
     apply B8
     grind]
   rw[cT];obtain⟨c,d⟩:∃c:Nat,x=(c:Int):=⟨x.toNat,by omega⟩;have f:=P9 (K:=a.Knots) (Ao b) e1;rw[d]at f;rw[d,Aq];unfold Vw;rw[NA (by omega),Aa,Cc ⟨by omega,f⟩,h,Aa,DL,ad1]
   rfl)
  (λl g=>by simp[CQ,Hq])
 grind [IF]
theorem QR (h:StoreR s):Ma s=some (Lh s):=by
 have hl:=h.len;have hf:=h.few;have d:(Bq s).length=s.Vols.length:=by unfold Bq;rw[Bw]
 unfold Ma;have hr:Ah (λq:List Int×Int=>Fc s q.1 q.2) ([],0)=some (Bq s):=by
  obtain⟨b,h1,h2⟩:=A9 (body:=λq:List Int×Int=>Fc s q.1 q.2) (λ(o:List Int) i=>(o,i)) s.Vols.length (λi o=>o=(s.Vols.take i).map Vol.Root) (λb=>b=Bq s)
   (λo i hi ho=>by
    have hx:=Ab hi;simp only[Fc,Do hi,Aq,hx,Aa]
    grind [AY,ad1,D5])
   (λo ho=>⟨o,by simp[CQ,Fc],by rw[ho,AP<|A0 _];rfl⟩) (s:=[]) rfl
  grind
 rw[hr];simp only[Aa];rw[uG _ (by omega) h.ar _ (by omega) h.root];simp only[Aa];have q:=Om (body:=λq:Int×List Vol=>GH s (Arena.mk<|VG s.Arena.Knots<|Bq s,(Bq s).map<|RO s.Arena.Knots<|Bq s) q.1 q.2) (λl i=>(i,l)) (λ_ v=>Vol.mk v.Id<|RO s.Arena.Knots (Bq s) v.Root) s.Vols
  (λi l x a e c=>by
   have hi:=(Ae.1 c).1;simp only[GH,Do hi]
   grind [Aq,DL,ad1,Bq])
  (λl a=>by simp[CQ,GH])
 rw[IF]at q;rw[q];rfl
theorem ABY {K:Ks} {R:List Int} {n:Int} (hK:C5 K=true) (hR:∀r∈R,Dc K r=true) (hi:i<K.length) (hu:C6 K R i=true) (hl:(BK K (i:Int)).Leaf=true) (hn:n∈(BK K (i:Int)).Kids):∃r∈R,n∈Et K r:=by
 unfold C6 at hu;obtain⟨r,hr,h⟩:=Ff.1 hu;unfold O9 at h;rw[Aj,Bm,H4,Bm,Ff]at h;obtain⟨h0,h⟩:=h
 rcases BN (hR r hr)with e|⟨_,h1,h2⟩
 ·omega
 rcases h with h|⟨x,hx,he⟩
 ·grind
 obtain⟨h4,hk⟩:=Fo hK h0 h1;obtain⟨j,hj,a⟩:=Ay hx;have b:P7 (BK K r) j=(i:Int):=by grind
 obtain⟨g4,gk⟩:=Fo hK (r:=(i:Int)) (by omega) (by omega);obtain⟨t,ht,c⟩:=Ay hn;have d:P7 (BK K (i:Int)) t=n:=by grind
 refine⟨r,hr,A8.2 ⟨4*j+t,by simp;omega,?_⟩⟩
 grind [RJ]
theorem Yf (h:Cq s):PV s=some true:=by
 have hl:=h.len;have hf:=h.few;unfold PV;rw[Bc,cF,Rr _ (by omega),h.ar,Xr,Ac h.nx];obtain⟨b,h1,l,rfl,h3,h4⟩:=A9 (body:=λq:List Int×Int=>KL s q.1 q.2) (λ(o:List Int) i=>(o,i)) s.Vols.length (λi o=>o.length<=5*i/\∀n:Nat,(n:Int)∈o↔C6 s.Arena.Knots ((Bq s).take i) n=true) (λb=>∃l,b= .inl l/\l.length<=5000/\∀i:Nat,(i:Int)∈l↔C6 s.Arena.Knots (Bq s) i=true)
  (λo i hi ho=>by
   obtain⟨o1,o2⟩:=ho;have hx:=Ab hi;have hm:s.Vols[i]∈s.Vols:=Av hi;have a:s.Vols[i].Root∈Bq s:=A8.2 ⟨_,hm,rfl⟩;have hr:=h.root _ a;have f:(Bq s)[i]?=some s.Vols[i].Root:=by unfold Bq;grind
   obtain⟨m,m1,m2,m3⟩:=Wz s.Arena (by omega) h.ar hr;simp only[KL,Do hi,Aq,hx,Aa];rw[Xr,Ac<|h.ids _ hm,pV (by omega) hr];have hj:(cond (decide<|(i:Int)>0) ((gi s.Vols<|sb (i:Int) 1).bind λx2=>cond (decide<|x2.Id>=s.Vols[i].Id) (some true)<|some false) (some false):Option Bool)=some false:=by
    by_cases h0:i=0
    ·rw[cF]
    rw[cT,BV,show(i:Int)-1=((i-1:Nat):Int) by omega,Aq,Ab<|by omega];simp only[Aa];have:=S3 h.asc (show i-1<i by omega) (x:=s.Vols[i-1].Id) (y:=s.Vols[i].Id) (by grind) (by grind);rw[cF]
   rw[hj];simp only[Aa,Ad];rw[m1,Aa,AY (by omega),ad1]
   simp_all [VF,C6];grind)
  (λo ho=>⟨_,by simp[CQ,KL],o,rfl,by have:=ho.1;omega,by grind [AP,Bq]⟩) (s:=[]) ⟨by simp,λn=>by simp[C6]⟩
 rw[h1];simp only[Aa,DM];obtain⟨c,q1,q2⟩:=A9 (body:=λq:Int=>KK s l q) (λ(_:Unit) i=>i) s.Arena.Knots.length (λ_ _=>True) (λc=>c= .inl ())
  (λ_ i hi _=>by
   have hu:=h.used i hi;simp only[KK,Do hi];rw[HD (by omega) (by omega),Zi l _ (by omega),List.contains_iff_mem.2<|(h4 i).2 hu];simp only[Aa,An,Ad];obtain⟨d,e1,e2⟩:=A9 (body:=λq:Int=>KJ s (BK s.Arena.Knots (i:Int)) q) (λ(_:Unit) i=>i) (BK s.Arena.Knots (i:Int)).Kids.length (λ_ _=>True) (λc=>c= .inl ())
    (λ_ k hk _=>by
     have hx:=Ab hk;have h44:=(Fo h.ar (r:=(i:Int)) (by omega)<|by omega).1;simp only[KJ,Do hk,Aq,hx,Aa];rw[ad1]
     cases e:(BK s.Arena.Knots (i:Int)).Leaf with
     |false=>simp
     |true=>
      obtain⟨r,r1,r2⟩:=ABY h.ar h.root hi hu e<|Av hk;have:=h.lt r r1 _ r2
      simp_all [Ai])
    (λ_ _=>⟨_,by simp[CQ,KJ],rfl⟩) (s:=()) trivial
   rw[e1,e2];rw[ad1]
   simp)
  (λ_ _=>⟨_,by simp[CQ,KK],rfl⟩) (s:=()) trivial
 grind
def AB9 (l:List Vol) (v:Vol):List Vol:=(l.filter λw=>decide<|w.Id<v.Id)++ [v]++l.filter λw=>decide<|w.Id>v.Id
theorem AA0 {l:List Vol} (h:(l.map Vol.Id).Pairwise (·<·)) (hv:∀w∈l,w.Id≠v.Id) (hl:l.length<=3):Lj (NC By) (l++ [v])=some (AB9 l v):=by
 have hk:∀x,By x=x.Id:=λ_=>rfl
 obtain⟨r,h1,h2,h3⟩:=gQ By (l++ [v]) (by simp;omega);have hs:srt By (AB9 l v):=by
  have:=ZH h v;rw[List.pairwise_map]at this
  exact this.imp λhh=>by grind
 have:r=AB9 l v:=by
  refine NN _ h2 hs λk=>?_
  rw[h3 k];unfold AB9;rw[Cl,Cl,Cl,DU,DU]
  rcases Int.lt_trichotomy k v.Id with e|e|e
  ·grind [BI]
  ·grind [BI]
  grind [BI]
 rw[h1,this]
theorem mC {r:Cn} {q:Int} (h:Cq s) (hn:CM s r.Vol=some (-1)) (hv:∀v∈s.Vols,v.Id≠r.Vol) (h3:s.Vols.length≠3) (hq:(cond (decide (r.Arg>0)) ((CM s r.Arg).bind λv1=>cond (decide (v1<0)) ((DE s).bind λv2=>some (.inr (v2,false))) ((gi s.Vols v1).bind λx1=>some (.inl x1.Root))) (some (.inl (-1))):Option (Int⊕(Store×Bool)))=some (.inl q)):FQ s r=some (Store.mk (AB9 s.Vols (Vol.mk r.Vol q)) s.Arena s.Next,true):=by
 have hl:=h.len;have c:=KS h.ar (by have:=h.few;omega);have a:=FT s c (by omega);unfold FQ;rw[hq,hn];simp only[Aa,DM];rw[cF,Bc,show((s.Vols.length:Int)==3)=false by simp;omega];rw[a];have k1:=TC (body:=λq:List Vol×Int=>GV s r q.1 q.2) s.Vols (λv=>decide<|v.Id<r.Vol) [] (by simp;omega)
  (λi v b hv ho=>by
   have hi:=(Ae.1 hv).1;simp only[GV,Do hi,Aq,hv,Aa]
   grind [ad1,AY])
  (λb=>by simp[CQ,GV])
 rw[Ax]at k1;rw[k1];simp only[Aa];have d:=gP s.Vols r.Vol;rw[AY (by simp;omega)];simp only[Aa];have k2:=TC (body:=λq:List Vol×Int=>GU s r q.1 q.2) s.Vols (λv=>decide<|v.Id>r.Vol) ((s.Vols.filter λv=>decide<|v.Id<r.Vol)++ [Vol.mk r.Vol q]) (by simp;omega)
  (λi v b hv ho=>by
   have hi:=(Ae.1 hv).1;simp only[GU,Do hi,Aq,hv,Aa]
   grind [ad1,AY])
  (λb=>by simp[CQ,GU])
 rw[k2];rfl
theorem rF {r:Cn} (h:Cq s) (hb:Gi r=true) (hk:r.Kind=2):∃t ok,FQ s r=some (t,ok)/\Ev s r.Vol r.Arg=some (ok,t):=by
 have hl:=h.len;have a:=KS h.ar (by have:=h.few;omega);have c:=FT s a (by omega);have hr:=hb;unfold Gi at hr;rw[hk]at hr;simp at hr
 have b:∀id,J6 s id=CM s id:=λ_=>rfl
 have root:(FQ s r=some (s,false)/\Ev s r.Vol r.Arg=some (false,s))\/∃q,(cond (decide<|r.Arg>0) ((CM s r.Arg).bind λv1=>cond (decide<|v1<0) ((DE s).bind λv2=>some<|.inr (v2,false))<|(gi s.Vols v1).bind λx1=>some<|.inl x1.Root) (some<|.inl<|-1):Option (Int⊕(Store×Bool)))=some (.inl q)/\(cond (r.Arg !=0) ((CM s r.Arg).bind λv1=>cond (decide<|v1<0) (some<|.inr (false,s))<|(gi s.Vols v1).bind λx1=>some<|.inl x1.Root) (some<|.inl<|-1):Option (Int⊕(Bool×Store)))=some (.inl q):=by grind [E8,Aq,FQ,Ev]
 rcases root with⟨g1,g2⟩|⟨q,g1,g2⟩
 ·grind
 rcases E8 s (by omega) r.Vol with⟨h1,h2⟩|⟨k,v,h1,h2,h3,_⟩
 ·by_cases h3:s.Vols.length=3
  ·simp_all [Bc,FQ,Ev]
  refine⟨_,true,mC h h1 h2 h3 g1,?_⟩;unfold Ev;rw[b,b,g2,h1];simp only[Aa,DM];rw[cF,Bc,Ai (by omega:¬(s.Vols.length:Int)>=3)];rw[AY (by simp;omega)];simp only[Aa];rw[AA0 h.asc (v:=Vol.mk r.Vol q) h2 hl];rfl
 simp_all [FQ,Ev]
theorem vV (h:Cq s) (r:Cn):Zh s r=T3 s r:=by
 have hl:=h.len;have d:=KS h.ar (by have:=h.few;omega);have e:=FT s d (by omega);have c:=Oq s d<|by omega
 have g:∀id,J6 s id=CM s id:=λ_=>rfl
 have f:Rc r=some (Gi r):=by
  obtain⟨v,a1,a2,_⟩:=dK r
  grind [N8]
 have a:=cN h r;unfold Zh;rw[c,Yf h,f];simp only[Aa,An,Ad]
 cases hb:Gi r with
 |false=>grind [LT,CJ]
 |true=>
  simp only[An,Ad];have hr:=hb;unfold Gi at hr;unfold T3 at a⊢;rw[Sp h,N8,hb]at a⊢;simp only[Aa,An,Ad]at a⊢;unfold Pz
  cases k1:(r.Kind==1)with
  |true=>
   have e1:r.Kind=1:=by simpa using k1
   rw[e1]at hr;simp at hr;simp only[Ap,Aa,An,Ad];have hj:(cond (r.Arg==0) (some 1) (some r.Arg):Option Int)=some (if 1>r.Arg then 1 else r.Arg):=by grind
   rw[hj];simp only[Aa];have hP:Cq (Store.mk [] (Arena.mk [])<|if 1>r.Arg then 1 else r.Arg):=by
    refine⟨⟨by simp,rfl,?_,by simp,by simp,by simp[Bq],by simp[Bq],by simp⟩,by simp⟩
    grind
   rw[QR hP.toStoreR,Z8 hP];rfl
  |false=>
   simp only[Ad];rw[k1]at hr a;simp only[Ad]at a
   cases k2:(r.Kind==2)with
   |true=>
    rw[k2]at a;simp only[Ap]at a⊢;obtain⟨t,ok,c1,c2⟩:=rF h hb (by simpa using k2);rw[c1]at a⊢;rw[c2];simp only[Aa]at a⊢;unfold LT at a
    cases ok with
    |false=>grind
    |true=>
     split at a
     ·grind
     obtain⟨t',q,hP,_⟩:=a
     injection q with q
     injection q with q _
     subst q;simp only[An,Ad];have i:Store.mk t.Vols (Arena.mk t.Arena.Knots) t.Next=t:=rfl;rw[i,QR hP.toStoreR,Z8 hP];rfl
   |false=>
    simp only[Ad];rw[k2]at hr;rw[g]
    rcases E8 s (by omega) r.Vol with⟨h1,h2⟩|⟨k,v,h1,h2,h3,_⟩
    ·grind
    rw[h1];simp only[Aa];rw[cF];simp only[Aa];have hm:=Ao h2;have j:=(Ae.1 h2).1
    cases hc:(r.Chunk==1000000000)with
    |true=>grind
    |false=>
     simp only[Ad];have l:r.Chunk≠1000000000:=by simpa using hc
     rw[e];simp only[Aa]
     cases k3:(r.Kind==3)with
     |true=>
      simp only[Ap];rw[Bc,ad1];have d1:dr s.Vols 0 (k:Int)=some (s.Vols.take k):=by grind [dr]
      have d2:dr s.Vols ((k+1:Nat):Int) (s.Vols.length:Int)=some (s.Vols.drop<|k+1):=by grind [AP,dr]
      rw[d1,d2];simp only[Aa];rw[LH (by simp;omega)];simp only[Aa];rw[AY (by simp;omega),P4 h.asc h2,h3];simp only[Aa,An,Ad];have hR:=ACp h r.Vol;simp_all [LR,QR]
     |false=>
      simp only[Ad];rw[k3]at hr;have ha:0<=r.Arg/\r.Arg<16/\0<=r.Chunk/\r.Chunk<=1000000000:=by grind
      obtain⟨t,ht⟩:∃t:Nat,r.Arg=(t:Int):=⟨_,(AK ha.1).symm⟩;have b:=h.root _<|A8.2 ⟨v,hm,rfl⟩;rw[Aq,h2];simp only[Aa];rw[ht,ZW _ (by have:=h.few;omega) h.ar b (by omega) ha.2.2.1,uJ _ (by have:=h.few;omega) h.ar b (by omega) ha.2.2.1];simp only[Aa,An,Ad];rw[DL,Ch];have hR:=AEr h h2 (show t<16 by omega) ha.2.2.1<|show r.Chunk+1<=1000000000 by omega
      grind [LR,QR]
theorem fX (h:Cq s) (a:List Cn) (hr:a.length<=1048576):Rl s a=Lx s a:=by
 have hl:=h.len;have d:=KS h.ar (by have:=h.few;omega);have e:=FT s d (by omega);have c:=Oq s d (by omega);unfold Rl Lx;rw[e,c];obtain⟨b,h1,h2,_⟩:=GE (body:=λq:Int×List Vol×List Bf×Int=>Ei s a q.1 q.2.1 q.2.2.1 q.2.2.2) (body':=λq:Int×List Vol×List Bf×Int=>Js s a q.1 q.2.1 q.2.2.1 q.2.2.2) (λ(t:Store) i=>(i,t.Vols,t.Arena.Knots,t.Next)) a.length (λ_ t=>Cq t) (λ_=>True)
  (λt i hi hP=>by
   have hx:=Ab hi;have f:Store.mk t.Vols (Arena.mk t.Arena.Knots) t.Next=t:=rfl;have g:=cN hP a[i];simp only[Ei,Js,Do hi,Aq,hx,Aa];rw[f,vV hP]
   grind [ad1,LT])
  (λt _=>⟨by simp[CQ,Ei,Js],.inl (t.Vols,t.Arena.Knots,t.Next),by simp[CQ,Ei],trivial⟩) (s:=s) h
 grind
theorem bP (l:List Tx) (hl:l.length<=1048576) (hr:∀x∈l,x.Recs.length<=20000):Pf l=some (C9 l):=by
 unfold Pf;obtain⟨b,h1,h2⟩:=A9 (body:=λs:Int×Int=>Iq l s.1 s.2) (λ(o:Int) i=>(o,i)) l.length (λi o=>o=(vE (l.take i):Int)) (λb=>b=(vE l:Int))
  (λo i hi ho=>by
   have hx:=Ab hi;have et:l.take (i+1)=l.take i++ [l[i]]:=Ag hi;have a:(l.take i).length=i:=by grind
   simp only[Iq,Do hi,Aq,hx,Aa]
   grind [ad1,iY,Zp])
  (λo ho=>⟨o,by simp[CQ,Iq],by grind⟩) (s:=0) rfl
 rw[h1,h2];simp only[Aa];have d:=vD l;have hd:dr l (vE l:Int) (ln l)=some (C9 l):=by
  unfold dr;rw[Bc,Cc (by omega),Cf,Cf,AP<|by simp];rfl
 rw[hd];simp only[Aa];obtain⟨b1,b2⟩:=Tp l;obtain⟨c,q1,q2⟩:=A9 (body:=λs:List Tx×Int=>Ip (C9 l) s.1 s.2) (λ(o:List Tx) i=>(o,i)) (C9 l).length (λi o=>o=(C9 l).take i) (λb=>b=C9 l)
  (λo i hi ho=>by
   have hx:=Ab hi;have e:=hr _<|b2 _<|Av hi;have et:(C9 l).take (i+1)=(C9 l).take i++ [(C9 l)[i]]:=Ag hi;simp only[Ip,Do hi,Aq,hx,Aa];rw[LH (by omega),Aa,AY (by grind),Aa,ad1]
   exact .inl ⟨_,rfl,by rw[et,<-ho]⟩)
  (λo ho=>⟨o,by simp[CQ,Ip],by grind⟩) (s:=[]) rfl
 grind
theorem mR (h:fU f r):TN f=some (D1 r-1):=by
 have a:=h.len;unfold TN;rw[h.i];simp only[Aa];obtain⟨b,h1,h2⟩:=A9 (body:=λs:Int×Int=>KP r s.1 s.2) (λ(o:Int) i=>(o,i)) r.length (λi o=>o=D1 (r.take i)-1) (λb=>b=D1 r-1)
  (λo i hi ho=>by
   have hx:=Ab hi;have et:r.take (i+1)=r.take i++ [r[i]]:=Ag hi;simp only[KP,Do hi,Aq,hx,Aa];rw[ad1]
   grind [YS])
  (λo ho=>⟨o,by simp[CQ,KP],by grind⟩) (s:=0) (by simp[D1])
 grind
theorem uL (r:List Al) (hr:Gp r):Ah (λs:Int×Int=>Hz r s.1 s.2) (0,1)=some (ED r):=by
 have a:=hr.len;obtain⟨b,h1,h2⟩:=A9 (body:=λs:Int×Int=>Hz r s.1 s.2) (λ(o:Int) i=>(i,o)) r.length (λi o=>o=ED (r.take i)) (λb=>b=ED r)
  (λo i hi ho=>by
   have hx:=Ab hi;have ht:=hr.tx _<|Av hi;have et:r.take (i+1)=r.take i++ [r[i]]:=Ag hi;simp only[Hz,Do hi,Aq,hx,Aa]
   grind [Ch,YQ])
  (λo ho=>⟨o,by simp[CQ,Hz],by grind⟩) (s:=1) rfl
 grind
theorem bT (l:List Tx) (hl:l.length<=1048576) (hr:∀x∈l,x.Recs.length<=20000):Ah (λs:Int×List Vol×List Bf×Int×Int=>Hy l s.1 s.2.1 s.2.2.1 s.2.2.2.1 s.2.2.2.2) (0,[],[],1,0)=Ah (λs:Int×List Vol×List Bf×Int×Int=>Dh l s.1 s.2.1 s.2.2.1 s.2.2.2.1 s.2.2.2.2) (0,[],[],1,0):=by
 obtain⟨b,h1,h2,_⟩:=GE (body:=λs:Int×List Vol×List Bf×Int×Int=>Dh l s.1 s.2.1 s.2.2.1 s.2.2.2.1 s.2.2.2.2) (body':=λs:Int×List Vol×List Bf×Int×Int=>Hy l s.1 s.2.1 s.2.2.1 s.2.2.2.1 s.2.2.2.2) (λ(o:Store×Int) i=>(i,o.1.Vols,o.1.Arena.Knots,o.1.Next,o.2)) l.length (λ_ o=>Cq o.1) (λ_=>True)
  (λo i hi hP=>by
   obtain⟨t,b0⟩:=o;have hx:=Ab hi;have d:=hr _<|Av hi;have c:Store.mk t.Vols (Arena.mk t.Arena.Knots) t.Next=t:=rfl;simp only[Dh,Hy,Do hi,Aq,hx,Aa];rw[c,fX hP _ (by omega),ad1];have a:=Ym hP l[i].Recs (by omega);unfold QP at a;obtain⟨j,hj⟩:∃j,(cond ((i:Int)==0) (some l[i].Num) (some b0):Option Int)=some j:=by
    cases((i:Int)==0)with
    |true=>exact⟨_,rfl⟩
    |false=>exact⟨_,rfl⟩
   rw[hj];split at a
   ·rw[a];exact⟨rfl,.inl ⟨(t,j),rfl,hP⟩⟩
   obtain⟨u,u1,u2,_⟩:=a;rw[u1]
   exact⟨rfl,.inl ⟨(u,j),rfl,u2⟩⟩)
  (λo _=>⟨by simp[CQ,Dh,Hy],(o.1.Vols,o.1.Arena.Knots,o.1.Next,o.2),by simp[CQ,Dh],trivial⟩) (s:=(Store.mk [] (Arena.mk []) 1,0)) gK
 grind
theorem Mf (hf:Bg f):JC f=Cr f:=by
 obtain⟨r,hs,_⟩:=ACK hf;have hr:=Xi hs hf;obtain⟨g1,g2⟩:=Vk hr;obtain⟨b1,b2⟩:=Tp<|AT r;have a:=NS r;have b:D1 r<=1000000001:=a.2.2 _ (by omega) (λy hy=>by have:=(hr.seq y hy).2;omega);unfold JC Cr;rw[Rw,Qm hf,hs.s,hs.i,Cu f hf.cap,Gc,Cu f hf.cap,mR hs];unfold NZ Rb;simp only[Aa,An,Ad];rw[VZ r hr,uL r hr,OV r hr,Yg r hr];simp only[Aa];rw[Sq _ g1 g2,bP _ g1 g2];simp only[Aa];rw[bT (C9<|AT r) (by omega) λx hx=>g2 x<|b2 x hx,Ch,show D1 r-1+1=D1 r by omega]
theorem jA {r:Int} (h:Cq s) (hr:r∈Bq s):Pn s.Arena r=some (Et s.Arena.Knots r):=by
 obtain⟨l,l1,l2,_⟩:=O6 s.Arena (nE h) r;rw[Oe s.Arena (by have:=h.few;omega) h.ar<|h.root r hr]at l1;rw[l2,l1]
theorem fH (ha:Cq a) (hb:Cq b) (e:AF a=AF b) (n:a.Next=b.Next):Pg a b=some true:=by
 have f:=ha.len;have d:a.Vols.length=b.Vols.length:=by grind [KT]
 unfold Pg;rw[show(ln a.Vols !=ln b.Vols)=false by grind [Bc],show(a.Next !=b.Next)=false by rw[n];simp];obtain⟨q,h1,h2⟩:=A9 (body:=λs:Int=>Iu a b s) (λ(_:Unit) i=>i) a.Vols.length (λ_ _=>True) (λq=>q= .inl ())
  (λ_ i hi _=>by
   have hx:=Ab hi;have hy:=Ab (show i<b.Vols.length by omega);have c:(AF a)[i]?=(AF b)[i]? :=by rw[e]
   unfold AF at c;rw[Ex,Ex,hx,hy]at c;simp only[JH,Az,Prod.mk.injEq]at c;obtain⟨e1,e2⟩:=c;simp only[Iu,Do hi,Aq,hx,hy,Aa];rw[jA hb (A8.2 ⟨_,Av (show i<b.Vols.length by omega),rfl⟩),jA ha<|A8.2 ⟨_,Av hi,rfl⟩,e1,e2];simp only[Aa,H6,Ad];generalize hR:Et b.Arena.Knots b.Vols[i].Root=R;have g:R.length=16:=by grind [Et]
   obtain⟨z,z1,z2⟩:=A9 (body:=λs:Int=>It R R s) (λ(_:Unit) i=>i) R.length (λ_ _=>True) (λq=>q= .inl ())
    (λ_ k hk _=>by
     have hx:=Ab hk;simp only[It,Do hk,Aq,hx,Aa,H6,Ad];rw[ad1]
     simp)
    (λ_ _=>⟨_,by simp[CQ,It],rfl⟩) (s:=()) trivial
   rw[z1,z2];rw[ad1]
   simp)
  (λ_ _=>⟨_,by simp[CQ,Iu],rfl⟩) (s:=()) trivial
 grind
theorem W6 (h:GM d r):Ov d=some true:=by
 obtain⟨m,m1,m2,m3⟩:=MJ h.fl h.sr;obtain⟨e1,e2,e3⟩:=HO h m2 rfl;unfold Ov;rw[Mf h.fl,m1];simp only[Aa,Ap];rw[Yf h.st,fH m2.st h.st e1 e2];rw[m2.seq,h.seq,m2.tx,h.tx,e3];simp
theorem sL (hf:Bg f) (l:List AG) (hl:l.length<=1048576):∃g n,IB f l=some (g,n)/\Bg g:=by
 unfold IB;rw[Cu f hf.cap];simp only[Aa];obtain⟨b,h1,g,n,h2,h3⟩:=A9 (body:=λs:Int×List Block=>DB l s.1 s.2) (λ(o:Flash) i=>(i,o.Blocks)) l.length (λ_ o=>Bg o) (λb=>∃g n,(b= .inl g.Blocks/\n=ln l\/b= .inr (g,n))/\Bg g)
  (λo i hi ho=>by
   have hx:=Ab hi;have a:Flash.mk o.Blocks=o:=rfl;simp only[DB,Do hi,Aq,hx,Aa];rw[a]
   rcases Q9 ho l[i]with⟨k1,k2⟩|⟨_,k2⟩
   ·grind [ad1,wK]
   grind)
  (λo ho=>⟨.inl o.Blocks,by simp[CQ,DB],o,ln l,.inl ⟨rfl,rfl⟩,ho⟩) (s:=f) hf
 rw[h1]
 rcases h2 with⟨rfl,rfl⟩|rfl
 ·simp_all
 grind
theorem UD (hf:Bg d.Flash) (l:List AG) (hl:l.length<=1048576):Or d l=Hd d l:=by
 obtain⟨g,n,h1,h2⟩:=sL hf l hl;obtain⟨g',n',h3,h4,_⟩:=dU d.Flash l hf.cap hl
 grind [Mf,Or,Hd]
theorem WD (h:GM d r):KD d=some d:=by
 unfold KD;rw[Gc,Cu d.Flash h.fl.cap,Oq d.Store (KS h.st.ar (by have:=h.st.few;omega)) (by have:=h.st.len;omega)];rfl
theorem f8 (h:IY d r) (hw:FK d.Flash 999999000) (most:Int):Rp d most=Ie d most:=by
 unfold Rp Ie;rw[Mk h.dev,WD h.dev];simp only[Aa];obtain⟨b,b',h1,h2,d',all,h3,h4⟩:=iT (body:=λs:List AG×Int×List Block×List Vol×List Bf×Int×Int×Int×Int=>Ej most s.1 s.2.1 s.2.2.1 s.2.2.2.1 s.2.2.2.2.1 s.2.2.2.2.2.1 s.2.2.2.2.2.2.1 s.2.2.2.2.2.2.2.1 s.2.2.2.2.2.2.2.2)
  (body':=λs:List AG×Int×List Block×List Vol×List Bf×Int×Int×Int×Int=>H0 most s.1 s.2.1 s.2.2.1 s.2.2.2.1 s.2.2.2.2.1 s.2.2.2.2.2.1 s.2.2.2.2.2.2.1 s.2.2.2.2.2.2.2.1 s.2.2.2.2.2.2.2.2)
  (λ(o:List AG×Device) i=>(o.1,i,o.2.Flash.Blocks,o.2.Store.Vols,o.2.Store.Arena.Knots,o.2.Store.Next,o.2.Seq,o.2.Tx,o.2.Base)) (λ(o:List AG×Device) i=>(o.1,i,o.2.Flash.Blocks,o.2.Store.Vols,o.2.Store.Arena.Knots,o.2.Store.Next,o.2.Seq,o.2.Tx,o.2.Base)) 20
  (λi o=>o.1.length<=200*i/\(∃r',IY o.2 r')/\FK o.2.Flash (999999000+i))
  (λb b'=>∃(d':Device) (all:List AG),(b= .inr (d',all)\/b= .inl (all,d'.Flash.Blocks,d'.Store.Vols,d'.Store.Arena.Knots,d'.Store.Next,d'.Seq,d'.Tx,d'.Base))/\b'=(all,d'.Flash.Blocks,d'.Store.Vols,d'.Store.Arena.Knots,d'.Store.Next,d'.Seq,d'.Tx,d'.Base))
  (λo i hi hs=>by
   obtain⟨all,e⟩:=o;obtain⟨c,⟨r',hg⟩,a⟩:=hs;simp only at c hg a;have f:Device.mk (Flash.mk e.Flash.Blocks) (Store.mk e.Store.Vols (Arena.mk e.Store.Arena.Knots) e.Store.Next) e.Seq e.Tx e.Base=e:=rfl;have g:Flash.mk e.Flash.Blocks=e.Flash:=rfl;obtain⟨v,v1,v2,_⟩:=XB e.Flash hg.dev.fl.cap (by have:=hg.dev.fl.few;omega);simp only[Ej,H0];rw[f,g,v1,v2,Ac (by omega:(i:Int)<20),show decide ((i:Int)<(if 20<most then 20 else most))=decide ((i:Int)<most) by grind];simp only[Ap,Aa];obtain⟨j,hj⟩:∃j,(bif decide ((i:Int)<most)then some (decide<|v<12)else some false:Option Bool)=some j:=by
    cases decide ((i:Int)<most)with
    |true=>exact⟨_,rfl⟩
    |false=>exact⟨_,rfl⟩
   rw[hj];simp only[Aa]
   cases j with
   |false=>grind
   |true=>
    obtain⟨steps,ok,c1,c2,_,c3⟩:=dW hg (λx hx=>by have:=a x hx;omega);rw[f7 hg,c1];simp only[Aa]
    cases ok with
    |false=>exact .inr ⟨_,_,rfl,rfl,e,all,.inl rfl,rfl⟩
    |true=>
     obtain⟨d',r2,k1,k2,k3⟩:=(c3 rfl).full hg (by omega);rw[UD hg.dev.fl _ (by omega),k1,Aa,AY (by omega),ad1]
     exact .inl ⟨(all++steps,d'),rfl,rfl,by simp;omega,⟨r2,k3.good⟩,λx hx=>by have:=k3.wear _ a x hx;omega⟩)
  (λo hs=>by
   obtain⟨all,e⟩:=o;refine⟨.inl (all,e.Flash.Blocks,e.Store.Vols,e.Store.Arena.Knots,e.Store.Next,e.Seq,e.Tx,e.Base),_,?_,?_,e,all,.inr rfl,rfl⟩
   ·grind [Ej]
   grind [H0]) (s:=([],d)) ⟨by simp,⟨r,h⟩,λx hx=>by have:=hw x hx;omega⟩
 have e1:Ah (λs:List AG×Int×List Block×List Vol×List Bf×Int×Int×Int×Int=>Ej most s.1 s.2.1 s.2.2.1 s.2.2.2.1 s.2.2.2.2.1 s.2.2.2.2.2.1 s.2.2.2.2.2.2.1 s.2.2.2.2.2.2.2.1 s.2.2.2.2.2.2.2.2) ([],0,d.Flash.Blocks,d.Store.Vols,d.Store.Arena.Knots,d.Store.Next,d.Seq,d.Tx,d.Base)=some b:=h1;have e2:Ah (λs:List AG×Int×List Block×List Vol×List Bf×Int×Int×Int×Int=>H0 most s.1 s.2.1 s.2.2.1 s.2.2.2.1 s.2.2.2.2.1 s.2.2.2.2.2.1 s.2.2.2.2.2.2.1 s.2.2.2.2.2.2.2.1 s.2.2.2.2.2.2.2.2) ([],0,d.Flash.Blocks,d.Store.Vols,d.Store.Arena.Knots,d.Store.Next,d.Seq,d.Tx,d.Base)=some b':=h2;rw[e1,e2,h4]
 rcases h3 with rfl|rfl
 ·rfl
 rfl
theorem AD2 (ha:Cq a) (hb:Cq b) (e:AF a=AF b) (id:Int):CM a id=CM b id:=by
 have d:=ha.len;have f:=hb.len
 have c:∀i:Nat,(a.Vols[i]?).map Vol.Id=(b.Vols[i]?).map Vol.Id:=λi=>by
  have:=Co (λl=>(l[i]?).map Prod.fst) e
  grind [AF]
 grind [E8]
theorem Y1 (h:IY d r) (k:Jz n d r e re) (q:Ask):Ep e q=Ep d q:=by
 have hv:(ln e.Store.Vols)=ln d.Store.Vols:=by rw[Bc,Bc,<-KT,<-KT,k.ab]
 have f:=AD2 k.good.dev.st h.dev.st k.ab
 have g:((EF e.Store).bind λv4=>Ia e.Flash v4 q.Text)=(EF d.Store).bind λv4=>Ia d.Flash v4 q.Text:=by
  obtain⟨l,l1,_,l3,l4⟩:=Gg h.dev.st;obtain⟨m,m1,_,m3,m4⟩:=Gg k.good.dev.st;rw[l1,m1];simp only[Aa];obtain⟨v,v1,v2⟩:=R8 h.dev l4 q.Text;obtain⟨w,w1,w2⟩:=R8 k.good.dev m4 q.Text;rw[v1,w1];congr 1
  have hl:∀c,c∈m↔c∈l:=λc=>by rw[m3,l3,k.ab]
  rcases v2 with⟨rfl,v2⟩|⟨v2,v3⟩
  ·rcases w2 with⟨rfl,_⟩|⟨w2,w3⟩
   ·rfl
   rw[k.text _<|(l3 w).1<|(hl w).1 w2]at w3
   grind
  have a:=(l3 v).1 v2
  rcases w2 with⟨rfl,w2⟩|⟨w2,w3⟩
  ·exact absurd (by rw[k.text _ a];exact v3)<|w2 v<|(hl v).2 v2
  have b:=(l3 w).1<|(hl w).1 w2;rw[k.text _ b]at w3;exact h.data.dist _ _ b a<|by rw[w3,v3]
 unfold Ep;simp only[f,hv,k.nx];simp only[<-Option.bind_assoc,g]
theorem Yz (h:Bg f):Ot f=Mt f:=by
 obtain⟨v,v1,v2,_⟩:=XB f h.cap (by have:=h.few;omega);rw[v1,v2]
theorem vN (h:IY d r) (hw:FK d.Flash 999999000) (q:Ask):Zf d q=Tz d q:=by
 unfold Zf Tz;obtain⟨v,p1,p2,p3⟩:=AAz d (Tm h.dev) q;rw[WD h.dev,Mk h.dev,W6 h.dev,QA h.dev,p1,p2];simp only[Aa,An,Ad]
 cases a:(v.2.2 !=0)with
 |true=>rfl
 |false=>
  cases l:(q.Kind==6)with
  |true=>
   have hq:AEh q:=by
    obtain⟨i,j,no⟩:=v;have:no=0:=by simpa using a
    subst this;exact dP h.dev p1
   obtain⟨k,hk⟩:∃k:Nat,q.Sector=(k:Int):=⟨_,(AK hq.sec.1).symm⟩;simp only[Ap];rw[hk,uI h q.Vol (by have:=hq.sec;omega),ZV h.dev]
  |false=>
   rw[Yz h.dev.fl,f8 h hw 20];obtain⟨v5,b⟩:=Qi h.dev.fl;rw[b];simp only[Aa];have clean:∃e all re,(cond (decide<|v5<12) ((Ie d 20).bind λv6=>some (v6.2,v6.1.Flash.Blocks,v6.1.Store.Vols,v6.1.Store.Arena.Knots,v6.1.Store.Next,v6.1.Seq,v6.1.Tx,v6.1.Base)) (some ([],d.Flash.Blocks,d.Store.Vols,d.Store.Arena.Knots,d.Store.Next,d.Seq,d.Tx,d.Base)):Option (List AG×List Block×List Vol×List Bf×Int×Int×Int×Int))=some (all,Flash.Blocks<|Device.Flash e,e.Store.Vols,e.Store.Arena.Knots,e.Store.Next,e.Seq,e.Tx,e.Base)/\Jz 20 d r e re:=by
    cases decide (v5<12)with
    |false=>exact⟨d,[],r,rfl,Jz.refl h⟩
    |true=>
     obtain⟨e,all,re,k1,k2,k3,_⟩:=dX h hw 20;rw[k1];exact⟨e,all,re,rfl,k2⟩
   obtain⟨e,all,re,k1,k5⟩:=clean;rw[k1];simp only[Aa];have c:Device.mk (Flash.mk e.Flash.Blocks) (Store.mk e.Store.Vols (Arena.mk e.Store.Arena.Knots) e.Store.Next) e.Seq e.Tx e.Base=e:=rfl;have f:Flash.mk e.Flash.Blocks=e.Flash:=rfl;rw[c,f,Y1 h k5 q,p1,Yz k5.good.dev.fl];simp only[Aa];obtain⟨st,ok,w1,w2,w3⟩:=P5 e k5.good.dev.fl.cap v.1 (by omega) v.2.1;obtain⟨v9,g⟩:=Qi k5.good.dev.fl;rw[w1,w2,g];simp only[Aa];rw[UD k5.good.dev.fl st<|by omega]
   grind
theorem ACr (h:IY d r):Lg n d r []:=⟨⟨d.Flash,rfl⟩,λk g _ hg=>by
 obtain⟨m,m1,m2⟩:=hg;rw[List.take_nil]at m1;obtain rfl:m=d.Flash:=m1
 rcases m2 with rfl|⟨s,s1,_⟩
 ·obtain⟨x,hx⟩:=(Jz.refl (n:=n) h).torn h.dev.fl rfl λ_ h=>h;exact⟨x,r,hx⟩
 simp at s1⟩
def AG0 (d:Device) (r:List Al) (d':Device) (r':List Al) (g:Flash):Prop:=∃x rx,Cr g=some (x,true)/\x.Flash=g/\IY x rx/\x.Store.Next<=d.Store.Next+1/\(∀w:Int,FK d.Flash w->FK x.Flash (w+21))/\
 ((AF x.Store=AF d.Store/\∀c,Dt (AF d.Store) c->BT rx c=BT r c)\/(AF x.Store=AF d'.Store/\rx=r'))
structure Zq (d:Device) (r:List Al) (q:Ask) (d':Device) (steps:List AG) (t:ByteArray) (no:Int) (r':List Al):Prop where
 good:IY d' r'
 len:steps.length<=4010
 nx:d'.Store.Next<=d.Store.Next+1
 ids:ACQ d d' q.Vol
 wear:∀w:Int,FK d.Flash w->FK d'.Flash (w+20)
 tk:∀c,Dt (AF d.Store) c->BT r' c=BT r c
 kept:no≠0\/q.Kind=6->AF d'.Store=AF d.Store
 text:q.Kind≠6\/no≠0->t=bs []
 read:q.Kind=6->no=0->∃ok,Ob d q.Vol q.Sector=some (t,ok)
 done:∃recs text n,Ep d q=some (recs,text,n)/\(n≠0->no=n)/\(n=0->no=0\/no=4\/q.Kind=6/\no=1)/\(no=0->q.Kind≠6->(recs=[]/\AF d'.Store=AF d.Store)\/
  ∃x,recs=[x]/\pN d r q x text/\CJ (AF d.Store) d.Store.Next x=some (AF d'.Store,d'.Store.Next)/\(L text≠ []->BT r' x.Chunk=some q.Text))
 walk:Steps d.Flash steps d'.Flash
 cut:∀k g,k<=steps.length->Yo d.Flash steps k g->AG0 d r d' r' g
theorem Jz.served {no:Int} {steps:List AG} (k:Jz 20 d r e re) (hs:Steps d.Flash steps e.Flash) (hc:Lg 20 d r steps) (hl:steps.length<=4010) (ht:q.Kind≠6\/no≠0->t=bs []) (hr:q.Kind=6->no=0->∃ok,Ob d q.Vol q.Sector=some (t,ok)) (hd:∃c text n,Ep d q=some (c,text,n)/\(n≠0->no=n)/\(n=0->no=0\/no=4\/q.Kind=6/\no=1)/\(no=0->q.Kind≠6->c=[])):Zq d r q e steps t no re:=by
 obtain⟨c,text,n,h1,h2,h3,h4⟩:=hd;refine⟨k.good,hl,by have:=k.nx;omega,qD k.ab _,k.wear,k.text,λ_=>k.ab,ht,hr,⟨c,text,n,h1,h2,h3,λa b=> .inl ⟨h4 a b,k.ab⟩⟩,hs,λj g hj hg=>?_⟩;obtain⟨x,rx,x1,x2,x3⟩:=hc.2 j g hj hg;exact⟨x,rx,x1,x2,x3.good,by have:=x3.nx;omega,λw hw b hb=>by have:=x3.wear w hw b hb;omega,.inl ⟨x3.ab,x3.text⟩⟩
theorem AD9 (h:IY d r) (hw:FK d.Flash 999999000) (n:d.Store.Next<1000000000) (q:Ask):∃d' steps t no r',Tz d q=some (d',steps,t,no)/\Zq d r q d' steps t no r':=by
 unfold Tz;rw[Mk h.dev,QA h.dev];obtain⟨f,text,no,p1,p2,p3⟩:=sD h.dev q;obtain⟨recs',text',no',t1,t2,_⟩:=ACN h.dev n q;rw[p1]at t1;rw[p1];simp only[Aa];have k0:Jz 20 d r d r:=Jz.refl h;have c0:Lg 20 d r []:=ACr h
 cases i:(no !=0)with
 |true=>
  have hn:no≠0:=by simpa using i
  exact⟨_,_,_,_,r,rfl,k0.served rfl c0 (by simp) (λ_=>rfl) (λ_ e=>absurd e hn) ⟨_,_,_,p1,λ_=>rfl,λe=>absurd e hn,λe=>absurd e hn⟩⟩
 |false=>
  have o:no=0:=by simpa using i
  subst o;have hq:=dP h.dev p1
  cases j:(q.Kind==6)with
  |true=>
   have hk:q.Kind=6:=by simpa using j
   obtain⟨k,v⟩:∃k:Nat,q.Sector=(k:Int):=⟨_,(AK hq.sec.1).symm⟩;obtain⟨u,ok,u1⟩:∃u ok,Ob d q.Vol q.Sector=some (u,ok):=by
    rw[ZV h.dev,v]
    rcases XN h q.Vol (k:=k) (by have:=hq.sec;omega)with⟨_,e⟩|⟨h6,c,_,_,_,⟨_,e⟩|⟨_,_,u,_,e⟩⟩<;>exact⟨_,_,e⟩
   rw[u1]
   cases ok with
   |false=>exact⟨_,_,_,_,r,rfl,k0.served rfl c0 (by simp) (λ_=>rfl) (λ_ e=>by cases e) ⟨_,_,_,p1,λe=>absurd rfl e,λ_=> .inr (.inr ⟨hk,rfl⟩),λe=>by cases e⟩⟩
   |true=>exact⟨_,_,_,_,r,rfl,k0.served rfl c0 (by simp) (λe=>by omega) (λ_ _=>⟨true,u1⟩) ⟨_,_,_,p1,λe=>absurd rfl e,λ_=> .inl rfl,λ_ e=>absurd hk e⟩⟩
  |false=>
   have hk:q.Kind≠6:=by simpa using j
   obtain⟨v5,z⟩:=Qi h.dev.fl;rw[z];simp only[Aa];have clean:∃e all re,(cond (decide<|v5<12) ((Ie d 20).bind λv6=>some (v6.2,v6.1.Flash.Blocks,v6.1.Store.Vols,v6.1.Store.Arena.Knots,v6.1.Store.Next,v6.1.Seq,v6.1.Tx,v6.1.Base)) (some ([],d.Flash.Blocks,d.Store.Vols,d.Store.Arena.Knots,d.Store.Next,d.Seq,d.Tx,d.Base)):Option (List AG×List Block×List Vol×List Bf×Int×Int×Int×Int))=some (all,Flash.Blocks<|Device.Flash e,e.Store.Vols,e.Store.Arena.Knots,e.Store.Next,e.Seq,e.Tx,e.Base)/\Jz 20 d r e re/\all.length<=4000/\Steps d.Flash all e.Flash/\Lg 20 d r all:=by
    cases decide (v5<12)with
    |false=>exact⟨d,[],r,rfl,k0,by simp,rfl,c0⟩
    |true=>
     obtain⟨e,all,re,k1,k2,k3,k4,k5⟩:=dX h hw 20
     grind
   obtain⟨e,all,re,k1,k5,k4,k3,kc⟩:=clean;rw[k1];simp only[Aa];have h0:Device.mk (Flash.mk e.Flash.Blocks) (Store.mk e.Store.Vols (Arena.mk e.Store.Arena.Knots) e.Store.Next) e.Seq e.Tx e.Base=e:=rfl;have h1:Flash.mk e.Flash.Blocks=e.Flash:=rfl;have k2:=k5.good;have l:=Y1 h k5 q;rw[h0,h1,l,p1];simp only[Aa];have stay:Zq d r q e all (bs []) 4 re:=k5.served k3 kc (by omega) (λ_=>rfl) (λhh=>absurd hh hk) ⟨_,_,_,p1,λe=>absurd rfl e,λ_=> .inr (.inl rfl),λe=>by cases e⟩;obtain⟨v9,h2⟩:=Qi k2.dev.fl;obtain⟨st,ok,w1,_,w3⟩:=P5 e k2.dev.fl.cap f (by grind) text;rw[w1,h2]
   cases h3:ok with
   |false=>grind
   |true=>
    subst h3;simp only[An,Ad,Aa]
    cases decide (v9<8)with
    |true=>grind
    |false=>
     rcases p2 with⟨rfl,rfl⟩|⟨_,x,rfl,p4⟩
     ·have h7:CT e [] (bs [])=some ([],true):=rfl
      injection w1 with w1
      injection w1 with w1 _
      subst w1;obtain⟨d',u1,u2,u3⟩:=k5.torn k2.dev.fl rfl λ_ hh=>hh;rw[Q4 k2.dev (steps:=[]) rfl (by simp) u1,Aa,AY (by simp;omega),AU];exact⟨_,_,_,_,re,rfl,u3.served (by rw[u2];exact k3) kc (by omega) (λ_=>rfl) (λhh=>absurd hh hk) ⟨_,_,_,p1,λe=>absurd rfl e,λ_=> .inl rfl,λ_ _=>rfl⟩⟩
     obtain⟨recs2,text2,no2,s1,s2,_⟩:=sD k2.dev q;rw[l,p1]at s1;have h4:pN e re q x text:=by grind
     rcases ACZ k2 h4 with w|⟨steps,d',r',a1,a2,a3,a4,a5,_,a7,_,aw,a8,tt,_,ac⟩
     ·grind
     rw[a1]at w1
     injection w1 with w1
     injection w1 with w1 _
     subst w1;rw[a3,Aa,AY<|by omega];obtain⟨p,hp⟩:∃p,CJ (AF d.Store) d.Store.Next x=some p:=by grind
     rw[k5.ab,k5.nx,hp,Dy]at a5;have hnx':=k5.nx
     have a:∀w:Int,FK d.Flash w->FK d'.Flash (w+20):=λw hw=>aw _<|k5.wear w hw
     refine⟨_,_,_,_,r',rfl,⟨a4,by simp;omega,by omega,λy hy=>by rw[<-p4.2.2.1];grind [uT,CJ],a,λc hc=>by rw[tt.1 c (by rw[k5.ab];exact hc),k5.text c hc],λhh=>by omega,λ_=>rfl,λhh=>absurd hh hk,
      ⟨_,_,_,p1,λe=>absurd rfl e,λ_=> .inl rfl,λ_ _=> .inr ⟨x,rfl,p4,by rw[hp,a5],λe=>?_⟩⟩,(H3 _ _ _ _).2 ⟨_,k3,a8⟩,λk g h8 hg=>?_⟩⟩
     ·rw[tt.2 e]
      rcases p4.2.2.2 with⟨q1,_⟩|⟨_,_,_,q4,_⟩
      ·exact absurd q1 e
      exact q4
     rcases jG hg k3 with⟨c1,c2⟩|⟨c1,c2⟩
     ·obtain⟨x,rx,x1,x2,x3⟩:=kc.2 k g (by omega) c2;exact⟨x,rx,x1,x2,x3.good,by have:=x3.nx;omega,λw hw b hb=>by have:=x3.wear w hw b hb;omega,.inl ⟨x3.ab,x3.text⟩⟩
     by_cases h5:k-all.length<steps.length
     ·obtain⟨y,ry,y1,y2,y3,_⟩:=ac _ g h5 c2;exact⟨y,ry,y1,y2,y3.good,by have:=y3.nx;omega,λw hw b hb=>by have:=y3.wear _ (k5.wear w hw) b hb;omega,.inl ⟨by rw[y3.ab,k5.ab],λc hc=>by rw[y3.text c (by rw[k5.ab];exact hc),k5.text c hc]⟩⟩
     obtain⟨m,m1,m2⟩:=c2;rw[AP<|by omega]at m1;obtain rfl:=Qh m1 a8
     rcases m2 with rfl|⟨s,s1,_⟩
     ·obtain⟨y,u1,u2,u3⟩:=MJ a4.dev.fl a4.dev.sr;obtain⟨e1,e2,_⟩:=HO a4.dev u2 rfl;exact⟨y,r',u1,u3,⟨u2,a4.core,by rw[e1];exact a4.data⟩,by omega,λw hw b hb=>by rw[u3]at hb;have:=a w hw b hb;omega,.inr ⟨e1,rfl⟩⟩
     grind
theorem jJ {l:List Shelf} (h:Qv l) {body:List Shelf×Int->Option ((List Shelf×Int)⊕List Shelf)} (hb:∀o i,body (o,i)=bif decide (i<ln l)then((gi l i).bind λx=>(ap 16 [] x.Texts).bind λq1=>(ap 32 o [Shelf.mk x.Vol q1]).bind λq2=>some (.inl (q2,ad i 1)))else some (.inr o)):Ah body ([],0)=some l:=by
 have h1:=h.1;obtain⟨b,h3,rfl⟩:=A9 (body:=body) (λ(o:List Shelf) i=>(o,i)) l.length (λi o=>o=l.take i) (λb=>b=l)
  (λo i hi ho=>by
   have hx:=Ab hi;have:=h.2 _<|Av hi;rw[hb];simp only[Do hi,Aq,hx,Aa];rw[AY (by simp;omega),Aa,Ax,AY (by grind),Aa,ad1]
   exact .inl ⟨_,rfl,by rw[ho,Ag hi]⟩)
  (λo ho=>⟨o,by simp_all [CQ],by grind⟩) (s:=[]) rfl
 exact h3
theorem yS {l:List Shelf} (h:Qv l):Lm l=some l/\LV l=some l:=by
 constructor
 ·grind [jJ,Lm,Qx,gi]
 unfold LV;rw[jJ h λo i=>rfl];rfl
theorem vC (h:GM d r) (vol:Int):TE (Kj r (AF d.Store)) vol=Qy (Kj r (AF d.Store)) vol/\((Qy (Kj r (AF d.Store)) vol=some (-1)/\IQ (AF d.Store) vol=none)\/
  ∃k:Nat,∃a,Qy (Kj r (AF d.Store)) vol=some (k:Int)/\(AF d.Store)[k]?=some (vol,a)/\IQ (AF d.Store) vol=some a):=by
 refine⟨rfl,?_⟩;have g:=h.st.len;have c:(Kj r<|AF d.Store).length=d.Store.Vols.length:=by unfold Kj AF;simp
 unfold Qy;obtain⟨b,h1,h2⟩:=A9 (body:=λs:Int=>NT (Kj r<|AF d.Store) vol s) (λ(_:Unit) i=>i) d.Store.Vols.length (λi _=>∀j w,j<i->d.Store.Vols[j]?=some w->w.Id≠vol)
  (λb=>(b= .inl ()/\IQ (AF d.Store) vol=none)\/∃k:Nat,∃a,b= .inr (k:Int)/\(AF d.Store)[k]?=some (vol,a)/\IQ (AF d.Store) vol=some a)
  (λ_ i hi hs=>by
   have hv:=Ab hi;have hx:(Kj r<|AF d.Store)[i]?=some (Fy r (d.Store.Vols[i].Id,Et d.Store.Arena.Knots d.Store.Vols[i].Root)):=by grind [Kj,AF]
   have f:i<(Kj r<|AF d.Store).length:=by omega
   simp only[NT,Do f,Aq,hx,Aa];by_cases e:d.Store.Vols[i].Id=vol
   ·rw[show((Fy r (d.Store.Vols[i].Id,Et d.Store.Arena.Knots d.Store.Vols[i].Root)).Vol==vol)=true from HE.2 e];refine .inr ⟨_,rfl,.inr ⟨i,Et d.Store.Arena.Knots d.Store.Vols[i].Root,rfl,?_,?_⟩⟩
    ·unfold AF;grind
    rw[<-e];exact LE h.st.asc<|Av hi
   rw[show((Fy r (d.Store.Vols[i].Id,Et d.Store.Arena.Knots d.Store.Vols[i].Root)).Vol==vol)=false from beq_eq_false_iff_ne.2 e,Ad,ad1];refine .inl ⟨(),rfl,λj w hj hw=>?_⟩
   grind)
  (λ_ hs=>⟨_,by simp only[NT];rw[show((d.Store.Vols.length:Nat):Int)=((Kj r<|AF d.Store).length:Nat) by rw[c]];simp only[CQ],.inl ⟨rfl,IP.1 λv hv=>by
   obtain⟨j,hj,e⟩:=Ay hv
   exact hs j v hj<|by grind⟩⟩) (s:=()) (λj w hj=>by omega)
 grind
def fA (M:List Shelf) (s:Shelf):List Shelf:=(M.filter λx=>decide<|x.Vol<s.Vol)++ [s]++M.filter λx=>decide<|x.Vol>s.Vol
theorem AEA (hM:M.length<=3) (p:Shelf->Bool) (o:List Shelf) (ho:o.length<=4) {body:List Shelf×Int->Option ((List Shelf×Int)⊕List Shelf)} (hb:∀o i,body (o,i)=bif decide (i<ln M)then((gi M i).bind λx=>bif p x then((gi M i).bind λy=>(ap 32 o [y]).bind λq=>some (.inl (q,ad i 1)))else some (.inl (o,ad i 1)))else some (.inr o)):Ah body (o,0)=some (o++M.filter p):=by
 obtain⟨b,h3,rfl⟩:=A9 (body:=body) (λ(q:List Shelf) i=>(q,i)) M.length (λi q=>q=o++(M.take i).filter p) (λb=>b=o++M.filter p)
  (λq i hi hq=>by
   have hx:=Ab hi;have a:=Ba p<|M.take i;rw[Fe]at a;rw[hb];simp only[Do hi,Aq,hx,Aa]
   grind [Ag,ad1,AY])
  (λq hq=>⟨q,by simp_all [CQ],by grind⟩) (s:=o) (by simp)
 exact h3
theorem uD {s:Shelf} (h:Qv M) (hM:M.length<=3) (hs:s.Texts.length=16):Qv (fA M s)/\(fA M s).length<=7:=by
 have h1:=Ba (λx:Shelf=>decide<|x.Vol<s.Vol) M;have h2:=Ba (λx:Shelf=>decide<|x.Vol>s.Vol) M;have hl:(fA M s).length<=7:=by unfold fA;grind
 refine⟨⟨by omega,λx hx=>?_⟩,hl⟩;unfold fA at hx;simp only[A6,Ck]at hx
 rcases hx with(hx|rfl)|hx
 ·exact h.2 x (AR.1 hx).1
 ·omega
 exact h.2 x (AR.1 hx).1
theorem AGb {s:Shelf} (h:Qv M) (hM:M.length<=3) (hs:s.Texts.length=16) (a:∀x∈M,x.Vol≠s.Vol):Sj M s=some (fA M s)/\M6 M s=some (fA M s):=by
 have h1:=Ba (λx:Shelf=>decide<|x.Vol<s.Vol) M;have h2:=Ba (λx:Shelf=>decide<|x.Vol>s.Vol) M;constructor
 ·unfold Sj;rw[AEA hM (λx=>decide<|x.Vol<s.Vol) [] (by simp) λo i=>rfl,Aa,AY (by simp;omega),Aa,Ax,AEA hM (λx=>decide<|x.Vol>s.Vol) _ (by simp;omega) λo i=>rfl,Aa]
  grind [yS,uD,fA]
 unfold M6;obtain⟨b,h3,rfl⟩:=A9 (body:=λq:List Shelf×List Shelf×Int=>Ij M s q.1 q.2.1 q.2.2) (λ(q:List Shelf×List Shelf) i=>(q.1,q.2,i)) M.length (λi q=>q=((M.take i).filter λx=>decide<|x.Vol<s.Vol,(M.take i).filter λx=>decide<|x.Vol>s.Vol)) (λb=>b=(M.filter λx=>decide<|x.Vol<s.Vol,M.filter λx=>decide<|x.Vol>s.Vol))
  (λq i hi hq=>by
   have hx:=Ab hi;have hn:=a _<|Av hi;have f1:=Ba (λx:Shelf=>decide<|x.Vol<s.Vol)<|M.take i;have f2:=Ba (λx:Shelf=>decide<|x.Vol>s.Vol)<|M.take i;rw[Fe]at f1 f2;subst hq;simp only[Ij,Do hi,Aq,hx,Aa];rw[Ag hi];simp only[Cl]
   grind [AY,ad1])
  (λq hq=>⟨_,by simp only[Ij,CQ];rfl,by grind⟩) (s:=([],[])) (by simp)
 rw[h3];simp only[Aa];rw[AY (by grind),Aa,AY<|by grind];rfl
theorem vQ {c:List Cn} {e:ByteArray} (hp:Ep d q=some (c,e,0)):(c=[]/\q.Kind≠1/\q.Kind≠2/\q.Kind≠3/\q.Kind≠4/\q.Kind≠5)\/
  ∃x,c=[x]/\((q.Kind=1/\x=Cn.mk 4 q.Vol q.Sector x.Chunk)\/(q.Kind=2/\x=Cn.mk 5 q.Vol q.Sector 0)\/((q.Kind=3\/q.Kind=4)/\x=Cn.mk 2 q.Vol q.Of 0)\/(q.Kind=5/\x=Cn.mk 3 q.Vol 0 0)):=by
 have no:∀{a:List Cn} {b:ByteArray} {n:Int} {P:Prop},some (a,b,n)=some (c,e,0)->n≠0->P:=λh hn=>by grind
 have yes:∀{x:Cn} {b:ByteArray},some ([x],b,(0:Int))=some (c,e,0)->c=[x]:=λh=>by grind
 obtain⟨v1,_,hp⟩:=Af.1 hp
 cases v1 with
 |false=>grind
 |true=>
  obtain⟨v2,_,hp⟩:=Af.1 hp;obtain⟨j1,e1,hp⟩:=Af.1 hp
  cases j1 with
  |true=>
   have h34:q.Kind=3\/q.Kind=4:=by grind
   cases h2:decide (v2>=0)<;>rw[h2]at hp
   ·obtain⟨j2,_,hp⟩:=Af.1 hp
    grind
   grind
  |false=>
   have h34:q.Kind≠3/\q.Kind≠4:=by grind
   cases h2:decide (v2>=0)<;>rw[h2]at hp
   ·grind
   cases h3:(q.Kind==1)<;>rw[h3]at hp
   ·grind
   obtain⟨v4,_,hp⟩:=Af.1 hp
   grind [Af]
theorem AAn {l:Vs} {nx:Int} {x:Cn} {p:Vs×Int} (h:CJ l nx x=some p):(x.Kind=1\/(x.Kind=2/\¬(0<x.Arg/\IQ l x.Arg=none)/\IQ l x.Vol=none/\p=(bG l x.Vol (if 0<x.Arg then(IQ l x.Arg).getD NJ else NJ),nx))\/
  (IQ l x.Vol≠none/\((x.Kind=3/\p=(uW l x.Vol,nx))\/(x.Kind≠3/\x.Kind≠2/\p=(eA l x.Vol x.Arg.toNat x.Chunk,max nx (x.Chunk+1)))))):=by
 unfold CJ at h;split at h
 ·cases h
 split at h
 ·exact .inl ‹_›
 split at h
 ·grind
 grind
theorem AAu {p':Int×List Int} (h:Cq s) (hi:(AF s)[i]?=some p) (hk:(AF s)[k]?=some p') (e:p.1=p'.1):i=k:=by
 have ha:=h.asc
 grind [C1,AF]
theorem ABg (hp:p∈AF s):p.2.length=16:=by
 obtain⟨v,_,rfl⟩:=A8.1 hp;simp[Et]
theorem ADf {j:Nat} {c:Int} {T:ByteArray} (h:GM d r) {a:List Int} (hk:(AF d.Store)[k]?=some (vol,a)) (hj:j<16) (hT:NK r' c=T) (hs:∀p∈AF d.Store,∀i:Nat,NK r' (p.2[i]?.getD 0)=NK r (p.2[i]?.getD 0)):
  (Kj r (AF d.Store)).set k (Shelf.mk vol ((Fy r (vol,a)).Texts.set j T))=Kj r' (eA (AF d.Store) vol j c):=by
 apply B8;intro i;unfold Kj eA;rw[OD,Ex,Ex,Ex,Bw];by_cases e:k=i
 ·subst e;have b:=(Ae.1 hk).1;have f:=ABg<|Ao hk;rw[Cc rfl,Cc b,hk];simp only[JH,C4,Fy];congr 2;apply B8
  grind
 rw[B9 e]
 cases hV:(AF d.Store)[i]? with
 |none=>rfl
 |some p=>
  have g:p.1≠vol:=λe2=>e<|AAu h.st hk hV<|by simpa using e2.symm
  grind [Fy]
theorem yA (r:List Al) (V:Vs) (vol:Int) (a:List Int):Kj r (bG V vol a)=fA (Kj r V) (Fy r (vol,a)):=by
 unfold Kj bG fA;simp only[JI,List.filter_map,HF,List.map_nil];rfl
theorem yB (r:List Al) (V:Vs) (vol:Int):Kj r (uW V vol)=(Kj r V).filter λx=>x.Vol !=vol:=by
 unfold Kj uW;rw[List.filter_map];rfl
theorem ACo (h:GM d r) {a:List Int} (hk:(AF d.Store)[k]?=some (vol,a)):(Kj r (AF d.Store)).take k++(Kj r (AF d.Store)).drop (k+1)=Kj r (uW (AF d.Store) vol):=by
 have ha:((Kj r<|AF d.Store).map Shelf.Vol).Pairwise (·<·):=by
  have:=h.st.asc;unfold Kj AF;simp only[H7];exact this
 have hx:(Kj r<|AF d.Store)[k]?=some (Fy r (vol,a)):=by unfold Kj;grind
 rw[yB,P4 ha hx];rfl
theorem yR (l:List α) (hk:k<=l.length):dr l 0 (k:Int)=some (l.take k):=by
 unfold dr
 grind
theorem AF8 (l:List α) (hk:k<=l.length):dr l (k:Int) (ln l)=some (l.drop k):=by grind [Bc,AP,dr]
theorem AAA {d':Device} {steps:List AG} (h:IY d r) (hs:Zq d r q d' steps t 0 r') (m:He q=some true):JS (Kj r (AF d.Store)) q=some (Kj r' (AF d'.Store))/\Kb (Kj r (AF d.Store)) q=some (Kj r' (AF d'.Store)):=by
 have a:AEh q:=by
  obtain⟨v,a1,a2⟩:=PF q
  grind
 have f:=Xj h.dev;have a6:=h.dev.st.len;have hM:(Kj r<|AF d.Store).length=d.Store.Vols.length:=by unfold Kj AF;simp
 obtain⟨c1,c2⟩:=yS f;obtain⟨h9,l,n,e1,e2,_,e4⟩:=hs.done
 obtain rfl:n=0:=Classical.byContradiction λhn=>hn (e2 hn).symm
 have keep:∀V',(∀c,Dt V' c->Dt (AF d.Store) c)->Kj r' V'=Kj r V':=λV' hv=>iS λc hc=>hs.tk c<|hv c hc
 have same:∀p∈AF d.Store,∀i:Nat,NK r' (p.2[i]?.getD 0)=NK r (p.2[i]?.getD 0):=λp hp i=>by
  unfold NK;split
  ·rename_i hc;rw[hs.tk _ ⟨hc,p,hp,?_⟩]
   grind
  rfl
 have hx:∀{k:Nat} {p:Int×List Int},(AF d.Store)[k]?=some p->(Kj r<|AF d.Store)[k]?=some (Fy r p)/\k<(Kj r<|AF d.Store).length:=λhk=>by grind [Kj]
 unfold JS Kb;rw[c1,c2,Tl,m];obtain⟨a1,a2⟩:=vC (r:=r) h.dev q.Vol;rw[a1];by_cases y:q.Kind=6
 ·rw[hs.kept<|.inr y,keep _ λ_ hc=>hc,y]
  grind
 rcases vQ e1 with⟨_,n1,n2,n3,n4,n5⟩|⟨x,rfl,h5⟩
 ·have:=a.kind;omega
 obtain⟨p1,p4,ev,tx⟩:x.Kind≠1/\pN d r q x l/\CJ (AF d.Store) d.Store.Next x=some (AF d'.Store,d'.Store.Next)/\(L l≠ []->BT r' x.Chunk=some q.Text):=by grind
 obtain⟨v1,_⟩:=Yl ev p1;have e:=AAn ev
 have set:∀c T,IQ (AF d.Store) q.Vol≠none->AF d'.Store=eA (AF d.Store) q.Vol q.Sector.toNat c->NK r' c=T->q.Text=T->(q.Kind=1\/q.Kind=2)->JS (Kj r<|AF d.Store) q=some (Kj r'<|AF d'.Store)/\Kb (Kj r<|AF d.Store) q=some (Kj r'<|AF d'.Store):=λc T hg hV hT h6 hk=>by
  rcases a2 with⟨_,a2⟩|⟨k,b,a2,a3,_⟩
  ·exact absurd a2 hg
  obtain⟨g,z⟩:=hx a3;obtain⟨j,hj⟩:∃j:Nat,q.Sector=(j:Int):=⟨_,(AK a.sec.1).symm⟩;have h2:j<16:=by have:=a.sec;omega
  have a0:(Fy r (q.Vol,b)).Texts.length=16:=by simp[Fy]
  have a7:gi (Fy r (q.Vol,b)).Texts (j:Int)=some ((Fy r (q.Vol,b)).Texts[j]'(by omega)):=by grind [Aq]
  have a5:si (Kj r<|AF d.Store) (k:Int) (Shelf.mk (Fy r (q.Vol,b)).Vol<|si (Fy r (q.Vol,b)).Texts (j:Int) q.Text)=Kj r' (AF d'.Store):=by
   rw[DL,DL,h6,hV,hj,Cf];exact ADf h.dev a3 h2 hT same
  have b3:(q.Kind==3)=false:=by grind
  have b4:(q.Kind==4)=false:=by grind
  have b5:(q.Kind==5)=false:=by grind
  have b12:(cond (q.Kind==1) (some<|q.Kind==1) (some<|q.Kind==2):Option Bool)=some true:=by grind
  unfold JS Kb;rw[c1,c2,Tl,m,a1,a2,b3,b4,b5,b12,hj];simp only[Aa,An,Ad,Ap];rw[cT,Aq,g]
  grind [Bc]
 unfold JS Kb at set;rw[c1,c2,Tl,m]at set;rw[a1]at set
 rcases h5 with⟨hk,o⟩|⟨hk,rfl⟩|⟨hk,rfl⟩|⟨hk,rfl⟩
 ·
  have k4:x.Kind=4:=by rw[o]
  have kv:x.Vol=q.Vol:=by rw[o]
  have ka:x.Arg=q.Sector:=by rw[o]
  rcases e with hh|⟨hh,_⟩|⟨hg,⟨hh,_⟩|⟨_,_,hh⟩⟩
  ·omega
  ·omega
  ·omega
  rw[kv]at hg hh;rw[ka]at hh;have hT:NK r' x.Chunk=q.Text:=by
   rcases p4.2.2.2 with⟨q1,q2⟩|⟨_,q2,q3,_⟩
   ·obtain⟨q2,q3⟩:=q2 k4;unfold NK;rw[Cc q2.1,hs.tk _ q2,q3];rfl
   have:=h.dev.st.nx
   grind [NK]
  grind
 ·rcases e with hh|⟨hh,_⟩|⟨hg,⟨hh,_⟩|⟨_,_,hh⟩⟩
  ·simp at hh
  ·simp at hh
  ·simp at hh
  exact set 0 (bs []) hg (Co Prod.fst hh) (by simp[NK]) (Jy<|by rw[a.tx (by omega),DO])<|.inr hk
 ·
  rcases e with hh|⟨_,hf,hg,hh⟩|⟨_,⟨hh,_⟩|⟨_,hh,_⟩⟩
  ·simp at hh
  ·have hV:AF d'.Store=bG (AF d.Store) q.Vol (if 0<q.Of then(IQ (AF d.Store) q.Of).getD NJ else NJ):=Co Prod.fst hh
   rcases a2 with⟨a2,_⟩|⟨k,b,a2,a3,a4⟩
   ·have h3:∀x∈Kj r (AF d.Store),x.Vol≠q.Vol:=λx u=>by
     obtain⟨p,hp,rfl⟩:=A8.1 u;obtain⟨v,hv,rfl⟩:=A8.1 hp;exact IP.2 hg v hv
    rw[a2]
    rcases hk with hk|hk
    ·have h0:=a.no (by omega);rw[h0,B9<|by omega]at hV;have h7:mk 16 (bs []) 16=some (List.replicate 16<|bs []):=by rfl
     have h8:Shelf.mk q.Vol (List.replicate 16<|bs [])=Fy r (q.Vol,NJ):=by rfl
     obtain⟨s1,s2⟩:=AGb f (by omega) (s:=Shelf.mk q.Vol<|List.replicate 16<|bs []) (by simp) h3;rw[show(q.Kind==3)=true by simpa using hk,h7];simp only[Ap,Aa]
     rw[cT,s1,s2,keep _ (λc hc=>by
      rcases v1 c hc with hh2|hh2
      ·exact hh2
      have:=hc.1
      grind),hV,yA,h8]
     exact⟨rfl,rfl⟩
    have h1:=a.cl hk;rw[Cc<|by omega]at hV;obtain⟨_,b2⟩:=vC (r:=r) h.dev q.Of;obtain⟨b1,_⟩:=vC (r:=r) h.dev q.Of
    rcases b2 with⟨_,b2⟩|⟨k,b,b2,b3,b4⟩
    ·grind
    obtain⟨g,z⟩:=hx b3;obtain⟨s1,s2⟩:=AGb f (by omega) (s:=Shelf.mk q.Vol (Fy r (q.Of,b)).Texts) (by simp[Fy]) h3;rw[show(q.Kind==3)=false by grind,show(q.Kind==4)=true by simpa using hk,b1,b2];simp only[Ap,Ad,Aa];rw[cT,Ac (by omega:((k:Nat):Int)>=0)];rw[Aq,g];simp only[Aa];rw[AY (by simp[Fy]),Ax];simp only[Aa]
    rw[s1,s2,keep _ (λc hc=>by
     rcases v1 c hc with hh2|hh2
     ·exact hh2
     have:=hc.1
     grind),hV,b4,yA]
    exact⟨rfl,rfl⟩
   grind
  ·simp at hh
  simp at hh
 
 rcases e with hh|⟨hh,_⟩|⟨hg,⟨_,hh⟩|⟨hh,_⟩⟩
 ·simp at hh
 ·simp at hh
 ·have hV:AF d'.Store=uW (AF d.Store) q.Vol:=Co Prod.fst hh
  rcases a2 with⟨_,a2⟩|⟨k,b,a2,a3,_⟩
  ·exact absurd a2 hg
  obtain⟨g,z⟩:=hx a3;have w:=ACo (r:=r) h.dev a3;have a8:((Kj r<|AF d.Store).take k).length+((Kj r<|AF d.Store).drop<|k+1).length<=3:=by grind
  have h4:Qv (Kj r<|uW (AF d.Store) q.Vol):=by
   rw[yB];exact⟨by grind,λx u=>f.2 x (AR.1 u).1⟩
  rw[a2,show(q.Kind==3)=false by grind,show(q.Kind==4)=false by grind,show(q.Kind==5)=true by simpa using hk];simp only[Ap,Ad,Aa];rw[cT,yR _ (by omega),ad1,AF8 _<|by omega];simp only[Aa]
  rw[AY (by grind),Ax,Aa,AY (by omega),w,Aa,(yS h4).1,keep _ (λc hc=>by
   rcases v1 c hc with hh2|hh2
   ·exact hh2
   have:=hc.1
   grind),hV]
  refine⟨rfl,?_⟩
  grind [AY]
 simp at hh
theorem AFi (h:code.length<=1048576):gA code=some false:=by grind [Bc,gA]
theorem nO {s:AG} (h:Bg f) (hs:Qt f s):TG f s=N6 f s:=by
 obtain⟨x,x1⟩:∃x,gi f.Blocks s.Block=some x:=by rcases hs with⟨_,x,x1,_⟩|⟨_,x,x1,_⟩<;>exact⟨x,x1⟩
 obtain⟨g,v,d1,d2,_⟩:=Uj f s h.cap;unfold TG N6;rw[Gc,Cu f h.cap,d1,d2];simp only[Aa]
 cases v with
 |false=>rfl
 |true=>
  rw[x1];simp only[Aa]
  cases hk:(s.Kind==1)with
  |true=>rfl
  |false=>
   obtain⟨b0,b1⟩:=Cm x1;obtain⟨c,hc⟩:∃c:Nat,s.Block=(c:Int):=⟨_,(AK b0).symm⟩;have h4:=(h.blk x<|Ao b1).four;rw[hc,Cf]at b1;obtain⟨b,l1,l2,_⟩:=GE (body:=λq:Int×List Block=>EK s q.1 q.2) (body':=λq:Int×List Block=>KH s x q.1 q.2) (λ(bl:List Block) i=>(i,bl)) x.Leaves.length (λ_ bl=>∃z,bl[c]?=some z/\z.Leaves.length=x.Leaves.length) (λ_=>True)
    (λbl i hi hz=>by
     obtain⟨z,z1,z2⟩:=hz;have a:i<z.Leaves.length:=by omega
     have d:=Ab a;have e:=(Ae.1 z1).1;simp only[EK,KH,hc,Aq,z1,Aa,Do hi,Do a,d]
     grind [ad1,si])
    (λbl hz=>by
     obtain⟨z,z1,z2⟩:=hz;simp only[EK,KH,hc,Aq,z1,Aa];rw[<-z2];simp only[CQ];rw[z2]
     simp[CQ]) (s:=f.Blocks) ⟨x,b1,rfl⟩
   rw[l1,l2]
theorem f0 (hf:Bg f) (hk:k<=ss.length) (hl:ss.length<=1000000) (h:∃m,Steps f ss m) (torn:Bool):Rn f ss (k:Int) torn=Ic f ss (k:Int) torn:=by
 obtain⟨z,hz⟩:=h;rw[<-BE k ss]at hz;obtain⟨m,h1,h2⟩:=(H3 _ _ _ _).1 hz;have hm:=Ue hf h1;have a:(ss.take k).length=k:=by grind
 obtain⟨g,n,e1,e2,_⟩:=dU f (ss.take k) hf.cap (by omega);rw[M1 hf h1<|by omega]at e1
 injection e1 with e1
 obtain⟨rfl,rfl⟩:m=g/\((ss.take k).length:Int)=n:=by grind
 unfold Rn Ic;rw[Bc,Dj,Xr,Gc,Cu f hf.cap,Ac (by omega:0<=(k:Int)/\(k:Int)<=(ss.length:Int)),yR _ hk];simp only[Aa,An,Ad];rw[e2,M1 hf h1 (by omega),a];simp only[Aa];rw[Ai (by omega:¬(k:Int)<(k:Int))]
 cases torn with
 |false=>rfl
 |true=>
  by_cases e:k=ss.length
  ·grind
  have hx:=Ab (show k<ss.length by omega);rw[AB<|show k<ss.length by omega]at h2;rw[show((k:Int)==(ss.length:Int))=false by simp;omega,Aq,hx];simp only[Ad,Aa];rw[show Flash.mk m.Blocks=m from rfl,nO hm h2.1]
theorem vY {m:Flash} (hf:Bg f) (hk:k<=ss.length) (hl:ss.length<=1000000) (h:Steps f (ss.take k) m):Ic f ss (k:Int) false=some (m,true):=by
 have a:(ss.take k).length=k:=by grind
 unfold Ic;rw[Bc,Dj,Ac (by omega:0<=(k:Int)/\(k:Int)<=(ss.length:Int)),yR _ hk];simp only[Aa,An,Ad];rw[M1 hf h (by omega),a];simp
theorem AAB {e:DV} (h:EY e=some true):He e.Ask=some true/\0<=e.Whole:=by
 obtain⟨v,v1,h⟩:=Af.1 h
 grind
theorem vU (e:DV):TO e=EY e:=by
 unfold TO EY;rw[Tl]
structure Ti (w:World) (r:List Al) (n:Nat):Prop where
 good:IY w.Device r
 wear:FK w.Device.Flash (21*n)
 nx:w.Device.Store.Next<=1+n
 ids:∀p∈AF w.Device.Store,1<=p.1/\p.1<=9
 model:w.Model=Kj r (AF w.Device.Store)
 codes:w.Codes.length=n
 told:w.Told.length=n
 steps:w.Steps.length<=4010*n
theorem AGm {e:DV} (h:Ti w r n) (hn:n<=40) (he:EY e=some true):∃w' r',VQ w e=some w'/\LY w e=some w'/\Ti w' r' (n+1)/\ACQ w.Device w'.Device e.Ask.Vol/\(e.Torn=false->∃ss,w'.Steps=w.Steps++ss/\Steps w.Device.Flash ss w'.Device.Flash):=by
 obtain⟨o,h4⟩:=AAB he;have hg:=h.good
 have hw:FK w.Device.Flash 999999000:=λx hx=>by have:=h.wear x hx;omega
 have h5:=h.nx;have h2:1<=e.Ask.Vol/\e.Ask.Vol<=9:=by
  obtain⟨v,a1,a2⟩:=PF e.Ask;rw[o]at a1
  injection a1 with a1
  exact(a2 a1.symm).vol
 have idk:∀d':Device,ACQ w.Device d' e.Ask.Vol->∀p∈AF d'.Store,1<=p.1/\p.1<=9:=λd' hi p hp=>by
  rcases hi p hp with⟨p',q1,q2⟩|q1
  ·rw[<-q2];exact h.ids p' q1
  omega
 obtain⟨d',steps,t,no,r',s1,s2⟩:=AD9 hg hw (by omega) e.Ask;have h3:=s2.len;have i:=h.codes;have j:=h.told;have h6:=h.steps;unfold VQ LY;rw[vN hg hw,s1];simp only[Aa];have q:Device.mk (Flash.mk d'.Flash.Blocks) (Store.mk d'.Store.Vols (Arena.mk d'.Store.Arena.Knots) d'.Store.Next) d'.Seq d'.Tx d'.Base=d':=rfl;by_cases hc:e.Cut=true/\0<steps.length
 ·obtain⟨s,h7⟩:=hc;rw[s,Bc];rw[show((steps.length:Int)==0)=false by grind,Ac (by omega:(steps.length:Int)>0)];obtain⟨k,hk,a,u⟩:∃k:Nat,(if(steps.length:Int)<e.Whole then(steps.length:Int)else e.Whole)=(k:Int)/\k<=steps.length/\Ts e.Whole (steps.length:Int)=some (k:Int):=by
   unfold Ts;by_cases h8:(steps.length:Int)<e.Whole
   ·grind
   exact⟨e.Whole.toNat,by omega,by omega,by grind⟩
  obtain⟨g,c1,c2,c3⟩:=vX hg.dev.fl a (by omega) ⟨_,s2.walk⟩ e.Torn;obtain⟨x,rx,x1,x2,x3,x4,x5,x6⟩:=s2.cut k g a c3;have c:ACQ w.Device x e.Ask.Vol:=by
   rcases x6 with⟨x6,_⟩|⟨x6,_⟩
   ·exact qD x6 _
   intro p hp;rw[x6]at hp;exact s2.ids p hp
  have f:e.Torn=false->Steps w.Device.Flash (steps.take k) x.Flash:=λht=>by
   have hz:=s2.walk;rw[<-BE k steps]at hz;obtain⟨m,h1,_⟩:=(H3 _ _ _ _).1 hz;have:=vY hg.dev.fl a (by omega) h1
   grind
  rw[hk,u];simp only[Aa];rw[f0 hg.dev.fl a (by omega) ⟨_,s2.walk⟩ e.Torn,c1];simp only[Aa];rw[show Flash.mk g.Blocks=g from rfl,Mf c2,x1,yR _ a];simp only[Aa];rw[(Za x3).1,(Za x3).2];have h9:(steps.take k).length<=4010:=by grind
  rw[AY (l:=[]) (m:=w.Codes) (by simp;omega),AY (l:=[]) (m:=w.Told) (by simp;omega),AY (l:=[]) (m:=w.Steps) (by simp;omega)];simp only[Aa,Ax];rw[AY (l:=w.Codes) (by simp;omega),Aa,AY (l:=w.Told) (by simp;omega),Aa,AY (l:=w.Steps)<|by omega];exact⟨_,rx,rfl,rfl,⟨x3,λb hb=>by have:=x5 _ h.wear b hb;omega,by grind,idk x c,rfl,by simp[i],by simp[j],by grind⟩,c,λht=>⟨_,rfl,f ht⟩⟩
 have y:(cond e.Cut (some<|decide<|(ln steps)>0) (some false):Option Bool)=some false:=by grind [Bc,Ai]
 have z:(cond (!e.Cut) (some true) (some<|(ln steps)==0):Option Bool)=some true:=by grind [Bc]
 rw[y,z];simp only[Aa,Ad,Ap];have d:(cond (no==0) ((JS w.Model e.Ask).bind λv10=>some v10) (some w.Model):Option (List Shelf))=some (Kj r'<|AF d'.Store)/\(cond (no==0) ((Kb w.Model e.Ask).bind λv10=>some v10) (some w.Model):Option (List Shelf))=some (Kj r'<|AF d'.Store):=by
  rw[h.model];by_cases h0:no=0
  ·grind [AAA]
  rw[show(no==0)=false by simpa using h0,s2.kept<|.inl h0,iS s2.tk];exact⟨rfl,rfl⟩
 rw[d.1,d.2];rw[AY (l:=[]) (m:=w.Codes) (by simp;omega),AY (l:=[]) (m:=w.Told) (by simp;omega),AY (l:=[]) (m:=w.Steps) (by simp;omega)];simp only[Aa,Ax];rw[AY (l:=w.Codes) (by simp;omega),Aa,AY (l:=w.Told) (by simp;omega),Aa,AY (l:=w.Steps)<|by omega];rw[q];exact⟨_,r',rfl,rfl,⟨s2.good,λb hb=>by have:=s2.wear _ h.wear b hb;omega,by have:=s2.nx;grind,idk d' s2.ids,rfl,by simp[i],by simp[j],by grind⟩,s2.ids,λ_=>⟨_,rfl,s2.walk⟩⟩
theorem sM (h:3<=n/\n<=10):Pk (n:Int)=Ib (n:Int):=by grind [rB,Wb,Mf,rO,Pk,Ib]
theorem ACI (h:IY d []) (hv:AF d.Store=[]) (hn:d.Store.Next=1) (hf:d.Flash=Flash.mk (List.replicate n (Block.mk false 0 JG))):Ti (World.mk d [] [] [] []) [] 0:=by
 refine⟨h,λb hb=>?_,by grind,λp hp=>?_,?_,rfl,rfl,by simp⟩
 ·grind
 ·grind
 rw[hv];rfl
theorem AAx {es:List DV} (h:3<=n/\n<=10) (hl:es.length<=40) (he:∀e∈es,EY e=some true):∃w r,T1 (n:Int) es=some (w,true)/\TJ (n:Int) es=some (w,true)/\Ti w r es.length/\((∀e∈es,e.Torn=false)->Steps (Flash.mk (List.replicate n (Block.mk false 0 JG))) w.Steps w.Device.Flash):=by
 obtain⟨d,d1,d2,d3,d4,d5⟩:=Y7 h;unfold T1 TJ;rw[sM h,d1];simp only[Aa,An,Ad];rw[Bc,Ai (by omega:¬(es.length:Int)>40)];simp only[Aa,Ad];obtain⟨b1,l1,rfl⟩:=A9 (body:=λs:Bool×Int=>K1 es s.1 s.2) (λ(o:Bool) i=>(o,i)) es.length (λ_ o=>o=true) (λb=>b=true)
  (λo i hi ho=>by
   have hx:=Ab hi;simp only[K1,Do hi,ho,Aa,Ap,Aq,hx];rw[Bc,Ac (by omega:(es.length:Int)<=40),Ap,he _<|Av hi,ad1]
   simp_all)
  (λo ho=>⟨o,by simp[CQ,K1],ho⟩) (s:=true) rfl
 obtain⟨b2,l2,rfl⟩:=A9 (body:=λs:Int=>KO es s) (λ(_:Unit) i=>i) es.length (λ_ _=>True) (λb=>b= .inl ())
  (λ_ i hi _=>by
   have hx:=Ab hi;have g:=he _<|Av hi;simp only[KO,Do hi,Aa,Aq,hx];rw[vU,g,ad1]
   simp_all)
  (λ_ _=>⟨_,by simp[CQ,KO],rfl⟩) (s:=()) trivial
 obtain⟨b3,l3,l4,w,r,rfl,hw,a⟩:=K9 (body:=λs:Int×List Block×List Vol×List Bf×Int×Int×Int×Int×List Int×List ByteArray×List Shelf×List AG=>K0 es s.1 s.2.1 s.2.2.1 s.2.2.2.1 s.2.2.2.2.1 s.2.2.2.2.2.1 s.2.2.2.2.2.2.1 s.2.2.2.2.2.2.2.1 s.2.2.2.2.2.2.2.2.1 s.2.2.2.2.2.2.2.2.2.1 s.2.2.2.2.2.2.2.2.2.2.1 s.2.2.2.2.2.2.2.2.2.2.2)
  (body':=λs:Int×List Block×List Vol×List Bf×Int×Int×Int×Int×List Int×List ByteArray×List Shelf×List AG=>KN es s.1 s.2.1 s.2.2.1 s.2.2.2.1 s.2.2.2.2.1 s.2.2.2.2.2.1 s.2.2.2.2.2.2.1 s.2.2.2.2.2.2.2.1 s.2.2.2.2.2.2.2.2.1 s.2.2.2.2.2.2.2.2.2.1 s.2.2.2.2.2.2.2.2.2.2.1 s.2.2.2.2.2.2.2.2.2.2.2)
  (λ(w:World) i=>(i,w.Device.Flash.Blocks,w.Device.Store.Vols,w.Device.Store.Arena.Knots,w.Device.Store.Next,w.Device.Seq,w.Device.Tx,w.Device.Base,w.Codes,w.Told,w.Model,w.Steps)) (λ(w:World) i=>(i,w.Device.Flash.Blocks,w.Device.Store.Vols,w.Device.Store.Arena.Knots,w.Device.Store.Next,w.Device.Seq,w.Device.Tx,w.Device.Base,w.Codes,w.Told,w.Model,w.Steps)) es.length
  (λi w=>∃r,Ti w r i/\((∀e∈es,e.Torn=false)->Steps (Flash.mk<|List.replicate n<|Block.mk false 0 JG) w.Steps w.Device.Flash)) (λb=>∃(w:World) (r:List Al),b=(w.Device.Flash.Blocks,w.Device.Store.Vols,w.Device.Store.Arena.Knots,w.Device.Store.Next,w.Device.Seq,w.Device.Tx,w.Device.Base,w.Codes,w.Told,w.Model,w.Steps)/\Ti w r es.length/\((∀e∈es,e.Torn=false)->Steps (Flash.mk<|List.replicate n<|Block.mk false 0 JG) w.Steps w.Device.Flash))
  (λw i hi hs=>by
   obtain⟨r,hw,a⟩:=hs;have hx:=Ab hi;have c:World.mk (Device.mk (Flash.mk w.Device.Flash.Blocks) (Store.mk w.Device.Store.Vols (Arena.mk w.Device.Store.Arena.Knots) w.Device.Store.Next) w.Device.Seq w.Device.Tx w.Device.Base) w.Codes w.Told w.Model w.Steps=w:=rfl;obtain⟨w',r',e1,e2,e3,_,e5⟩:=AGm hw (by omega)<|he _<|Av hi;simp only[K0,KN,Do hi,Aq,hx,Aa];rw[c,e1,e2,ad1]
   grind [H3])
  (λw hs=>by
   obtain⟨r,hw⟩:=hs
   simp_all [CQ,K0,KN];grind) (s:=World.mk d [] [] [] []) ⟨[],ACI d2 d3 d4 d5,λ_=>d5⟩
 have c:World.mk (Device.mk (Flash.mk w.Device.Flash.Blocks) (Store.mk w.Device.Store.Vols (Arena.mk w.Device.Store.Arena.Knots) w.Device.Store.Next) w.Device.Seq w.Device.Tx w.Device.Base) w.Codes w.Told w.Model w.Steps=w:=rfl;have j:Device.mk (Flash.mk w.Device.Flash.Blocks) (Store.mk w.Device.Store.Vols (Arena.mk w.Device.Store.Arena.Knots) w.Device.Store.Next) w.Device.Seq w.Device.Tx w.Device.Base=w.Device:=rfl;have f:=(yS<|Xj (r:=r) hw.good.dev).1;rw[<-hw.model]at f;refine⟨w,r,?_,?_,hw,a⟩
 ·rw[l1];simp only[Aa,An,Ad];rw[l3];simp only[Aa];rw[j,Mk hw.good.dev,f];rfl
 simp_all
theorem ZM (h:Bg f):OF f f=some true:=by
 have hn:=h.n;unfold OF;rw[show(ln f.Blocks !=ln f.Blocks)=false by simp,Ad];obtain⟨b,h1,h2⟩:=A9 (body:=λs:Int=>HJ f f s) (λ(_:Unit) i=>i) f.Blocks.length (λ_ _=>True) (λb=>b= .inl ())
  (λ_ i hi _=>by
   have hx:=Ab hi;have hP:=h.blk _<|Av hi;simp only[HJ,Do hi,Aq,hx,Aa];rw[show(f.Blocks[i].Bad==f.Blocks[i].Bad)=true by simp,show(f.Blocks[i].Wear !=f.Blocks[i].Wear)=false by simp,show(ln f.Blocks[i].Leaves !=ln f.Blocks[i].Leaves)=false by simp];obtain⟨c,q1,q2⟩:=A9 (body:=λs:Int=>HI f.Blocks[i] f.Blocks[i] s) (λ(_:Unit) i=>i) f.Blocks[i].Leaves.length (λ_ _=>True) (λb=>b= .inl ())
    (λ_ k hk _=>by
     have hx:=Ab hk;have h4:=hP.four
     have a:∀u:ByteArray,seq u u=true:=λu=>by rw[IV];simp
     simp only[HI,Do hk,Aq,hx,Aa,beq_self_eq_true,a,Bool.and_self,An,Ad];rw[ad1]
     exact .inl ⟨(),rfl,trivial⟩)
    (λ_ _=>⟨_,by simp only[HI,CQ],rfl⟩) (s:=()) trivial
   rw[q1,q2];rw[ad1]
   exact .inl ⟨(),rfl,trivial⟩)
  (λ_ _=>⟨_,by simp only[HJ,CQ],rfl⟩) (s:=()) trivial
 rw[h1,h2];rfl
theorem ACR {c:BA} (h:code.length<=1048576) (c2:LL c):∃n:Nat,∃es cc,OK c code=some ((n:Int),es,cc)/\LL cc/\5<=n/\n<=8/\es.length<=32/\∀e∈es,EY e=some true:=by
 unfold OK;obtain⟨v,c',a1,a2,a3⟩:=Uk c2 (n:=4) (by omega);rw[show((4:Nat):Int)=4 from rfl]at a1;rw[a1,Aa,Ch,show(5:Int)+(v:Int)=((5+v:Nat):Int) by omega];obtain⟨d0,b1,b2,b3,b4,b5⟩:=Y7 (n:=5+v) (by omega);rw[b1];have hq:qu (ln code) 10=((code.length/10:Nat):Int):=by grind [Bc,O8,qu]
 obtain⟨m,m1,m2⟩:∃m:Nat,(cond (decide<|(ad 8<|qu (ln code) 10)>32) (some 32) (some<|ad 8<|qu (ln code) 10):Option Int)=some (m:Int)/\m<=32:=by
  rw[hq,Ch];by_cases g:(8:Int)+((code.length/10:Nat):Int)>32
  ·exact⟨32,by grind,A0 _⟩
  exact⟨8+code.length/10,by grind,by omega⟩
 rw[m1];simp only[Aa];obtain⟨j,l1,es,cc,rfl,k0,k1,k2⟩:=A9 (body:=λs:List DV×Int×List Block×List Vol×List Bf×Int×Int×Int×Int×List Int×List ByteArray×List Shelf×List AG×List Int×Int×Int=>HQ (m:Int) s.1 s.2.1 s.2.2.1 s.2.2.2.1 s.2.2.2.2.1 s.2.2.2.2.2.1 s.2.2.2.2.2.2.1 s.2.2.2.2.2.2.2.1 s.2.2.2.2.2.2.2.2.1 s.2.2.2.2.2.2.2.2.2.1 s.2.2.2.2.2.2.2.2.2.2.1 s.2.2.2.2.2.2.2.2.2.2.2.1 s.2.2.2.2.2.2.2.2.2.2.2.2.1 s.2.2.2.2.2.2.2.2.2.2.2.2.2.1 s.2.2.2.2.2.2.2.2.2.2.2.2.2.2.1 s.2.2.2.2.2.2.2.2.2.2.2.2.2.2.2)
  (λ(o:List DV×World×BA) i=>(o.1,i,o.2.1.Device.Flash.Blocks,o.2.1.Device.Store.Vols,o.2.1.Device.Store.Arena.Knots,o.2.1.Device.Store.Next,o.2.1.Device.Seq,o.2.1.Device.Tx,o.2.1.Device.Base,o.2.1.Codes,o.2.1.Told,o.2.1.Model,o.2.1.Steps,o.2.2.b_,o.2.2.i_,o.2.2.h_)) m
  (λi o=>LL o.2.2/\(∃r,Ti o.2.1 r i)/\(∀p∈AF o.2.1.Device.Store,1<=p.1/\p.1<=3)/\o.1.length=i/\∀e∈o.1,EY e=some true)
  (λb=>∃es cc,b=(es,BA.b_ cc,cc.i_,cc.h_)/\LL cc/\es.length<=32/\∀e∈es,EY e=some true)
  (λo i hi hs=>by
   obtain⟨es,w,cu⟩:=o;obtain⟨k1,⟨r,k2⟩,k3,k4,k5⟩:=hs;simp only at k1 k2 k3 k4 k5;have a:Device.mk (Flash.mk w.Device.Flash.Blocks) (Store.mk w.Device.Store.Vols (Arena.mk w.Device.Store.Arena.Knots) w.Device.Store.Next) w.Device.Seq w.Device.Tx w.Device.Base=w.Device:=rfl;have d:World.mk w.Device w.Codes w.Told w.Model w.Steps=w:=rfl;simp only[HQ];rw[Ac (by omega:(i:Int)<(m:Int)),Ap,a,d];obtain⟨q,c3,q1,q2,q3⟩:=AFs (R0 k1) w.Device k2.good.dev.st.len λv hv=>k3 (v.Id,Et w.Device.Store.Arena.Knots v.Root)<|A8.2 ⟨v,hv,rfl⟩;rw[q1];simp only[Aa];obtain⟨o1,c4,o2,o3⟩:=nT q2 9;rw[o2];simp only[Aa];obtain⟨cut,wh,torn,c5,j1,j2,j3⟩:∃cut wh torn c5,(cond o1 ((I8 c4 [0,0,1,1,2,3]).bind λv5=>(G5 v5.2 2).bind λv6=>some (true,v5.1,v6.1,v6.2.b_,v6.2.i_,v6.2.h_)) (some (false,0,false,c4.b_,c4.i_,c4.h_)):Option (Bool×Int×Bool×List Int×Int×Int))=some (cut,wh,torn,BA.b_ c5,c5.i_,c5.h_)/\LL c5/\0<=wh:=by
    cases o1 with
    |false=>grind
    |true=>
     obtain⟨k,c6,p1,p2,p3⟩:=jX o3 (l:=[0,0,1,1,2,3]) (by simp);obtain⟨tt,c7,t1,t2⟩:=nT p2 2;rw[p1];simp only[Ap,Aa];rw[t1];exact⟨true,k,tt,c7,rfl,t2,by simp at p3;omega⟩
   rw[j1];simp only[Aa];have f:EY (DV.mk q cut wh torn)=some true:=by grind [AEi,EY]
   obtain⟨w',r',e1,_,e3,e4,_⟩:=AGm k2 (by omega) f;rw[e1,Aa,AY (by simp;omega),Aa,ad1];refine .inl ⟨(es++ [DV.mk q cut wh torn],w',c5),rfl,j2,⟨r',e3⟩,λp hp=>?_,by simp[k4],λe he=>?_⟩
   ·rcases e4 p hp with⟨p',p1,p2⟩|p1
    ·grind
    rw[p1];exact q3.vol
   grind)
  (λo hs=>by grind [HQ]) (s:=([],World.mk d0 [] [] [] [],c')) ⟨a2,⟨[],ACI b2 b3 b4 b5⟩,(λp hp=>by grind),rfl,λe he=>by cases he⟩
 rw[l1];exact⟨5+v,es,cc,rfl,k0,by omega,by omega,k1,k2⟩
theorem vW (h:code.length<=1048576):∃n:Nat,∃es,Q7 code=some ((n:Int),es)/\5<=n/\n<=8/\es.length<=32/\∀e∈es,EY e=some true:=by
 obtain⟨c,c1,c2⟩:=AGj h;obtain⟨n,es,cc,e1,_,e2⟩:=ACR h c2;unfold Q7;rw[c1,Aa,e1];exact⟨n,es,rfl,e2⟩
theorem gT {body:Int->Option (Int⊕Unit⊕Bool)} (h1:∀i:Nat,i<n->body (i:Int)=some (.inl ((i+1:Nat):Int))) (h2:body (n:Int)=some (.inr (.inl ()))):Ah body 0=some (.inl ()):=by
 obtain⟨b,l1,rfl⟩:=A9 (body:=body) (λ(_:Unit) i=>i) n (λ_ _=>True) (λb=>b= .inl ()) (λ_ i hi _=> .inl ⟨(),h1 i hi,trivial⟩) (λ_ _=>⟨_,h2,rfl⟩) (s:=()) trivial;exact l1
theorem eC (l:List Int) (h:l.length<=1048576):Qp l l=some true:=by
 unfold Qp
 rw[H6,Ad,gT (n:=l.length) (λi hi=>by
  simp only[LN,Do hi,Aq,Ab hi,Aa,H6,Ad]
  rw[ad1])<|by simp only[LN,CQ]]
 rfl
theorem ZL (l:List ByteArray) (h:l.length<=1048576):OE l l=some true:=by
 unfold OE
 rw[H6,Ad,gT (n:=l.length) (λi hi=>by
  simp only[Kp,Do hi,Aq,Ab hi,Aa,IV,decide_true,An,Ad]
  rw[ad1])<|by simp only[Kp,CQ]]
 rfl
theorem ADc (h:Ti w r n):Nv w=some true/\Nn w=some true/\Ou w=some true:=by
 have a:=Xj (r:=r) h.good.dev;have hf:Ou w=some true:=by
  unfold Ou;rw[(Za h.good).2,h.model,Aa,Z6<|bQ _ _ a];rfl
 refine⟨?_,?_,hf⟩
 ·unfold Nv;rw[W6 h.good.dev,hf,(jH h.good).2];rfl
 unfold Nn UT;rw[QA h.good.dev,(Za h.good).1,h.model,Aa,Ap,Aa,Z6<|ZU _ _ a,(jH h.good).1];rfl
theorem qX (hs:code.length<=1048576):V5 code=some true:=by
 obtain⟨n,es,d1,d2,d3,d4,d5⟩:=vW hs;obtain⟨w,r,r1,r2,hw,_⟩:=AAx (n:=n) (by omega) (es:=es) (by omega) d5;have hc:=hw.codes;have ht:=hw.told;unfold V5;rw[AFi hs];rw[d1];simp only[Aa];rw[r1,r2];simp only[Aa,An,Ad];rw[eC _ (by omega),ZL _ (by omega),ZM hw.good.dev.fl,Bc,Bc,hc];simp only[Aa,An,Ad,H6];obtain⟨s1,s2,_⟩:=ADc hw;rw[s1,s2];rfl
theorem fnTop_true (code:List Int) (hc:ol (oK .u8) code):V5 code=some true:=by
 by_cases h:code.length<=1048576
 ·exact qX h
 unfold V5 gA;rw[Bc,Ac<|by omega];rfl
end Go.TI
