/- What is served is what is planned. No condition; no program is in sight. -/
import Derived.Test.YtiaanofedbfeeaaGreatSVP3
set_option linter.unusedVariables false
set_option linter.unusedSimpArgs false
namespace Go.TI
open Go
def vH (b:Int) (nd:List Bool) (r:List Aq):Nat->Nat->List Aq
 |0,_=>[]
 |n+1,i=>Lw b (i:Int) nd r++vH b nd r n (i+1)
theorem yX (b i:Int) (nd:List Bool) (r:List Aq):(Lw b i nd r).length<=r.length:=by
 unfold Lw;rw[Ba];have:=CK (λq:Bool×Aq=>q.1&&(q.2.Block==b)&&(q.2.Leaf==i))<|nd.zip r;rw[List.length_zip]at this;omega
variable {r:List Aq} {d:AA} {f:Flash} {y:Aq} {code:List Int} {s a b:Store}
theorem tP {nd:List Bool} (hr:r.length<=40) (hk:∀y∈r,y.Page.Kind=1->y.Page.Count=1/\y.Page.Part=0) (c:nd.length=r.length) (hn:∀(j:Nat) y,r[j]?=some y->nd[j]?=some true->y.Page.Kind=1) (b:Int):∀(n i:Nat),i+n=4->∀{m:Nat} {o:MvS},MvI m o->m+n*40<=1000->
  Ap (λs:List Bc×Int×Int×List Block=>EO b r nd s.1 s.2.1 s.2.2.1 s.2.2.2) (o.2.1,o.1,(i:Int),o.2.2)=(mv b (vH b nd r n i) o).map λq=>match q with
   |some o'=> .inl o'.2.1
   |none=> .inr ([],false)
 |0,i,hi,m,o,ho,hm=>by
  rw[A0];simp only[EO];rw[cF];rfl
 |n+1,i,hi,m,o,ho,hm=>by
  rw[A0];simp only[EO];rw[cT];have a:=tQ hr hk c hn b (i:Int) r.length 0 (by omega) ho (by omega);simp only[List.drop_zero]at a;rw[show((0:Nat):Int)=0 from rfl]at a;rw[a];have d:=yX b (i:Int) nd r;obtain⟨v,v1,v2⟩:=AAf (b:=b) (Lw b (i:Int) nd r) ho (by omega);have es:vH b nd r (n+1) i=Lw b (i:Int) nd r++vH b nd r n (i+1):=rfl;rw[es,AAg,v1]
  cases v with
  |none=>rfl
  |some o'=>
   simp only[Bx,Aa,Bw];rw[ad1];exact tP hr hk c hn b n (i+1) (by omega) (v2 o' rfl)<|by omega
theorem uS (d:AA) (b:Int) (X:List Aq) (hX:X.length<=100) (hd:0<=d.Seq/\d.Seq<=1000000001):∀(n i:Nat),i+n=X.length->∀{m:Nat} {o:MvS},MvI m o->m+n<=1000->o.1=d.Seq+i->
  Ap (λs:Int×List Block×List Bc=>II d b X s.1 s.2.1 s.2.2) ((i:Int),o.2.2,o.2.1)=(mv b (X.drop i) o).map λq=>match q with
   |some o'=> .inl (o'.2.2,o'.2.1)
   |none=> .inr ([],false)
 |0,i,hi,m,o,ho,hm,hs=>by
  rw[A0];simp only[II,KH];rw[cF,List.drop_of_length_le (by omega)];rfl
 |n+1,i,hi,m,o,ho,hm,hs=>by
  have a:i<X.length:=by omega
  have hx:=Ab a;rw[A0];simp only[II,Ev a,Aw,hx,Aa];rw[Cy,<-hs,AS a];have ep:Page.mk 1 o.1 X[i].Page.Tx 0 1 X[i].Page.Text=dJ o.1 X[i]:=rfl;rw[ep]
  rcases qY (b:=b) (y:=X[i]) ho (by omega)with⟨s,g',a1,a2,a3,a4,a5⟩|⟨a1,⟨w,a2⟩,_⟩
  ·rw[a5,a3];simp only[Aa,Ah,Ac];rw[ad1];exact uS d b X hX hd n (i+1) (by omega) a4 (by omega) (by show o.1+1=_;omega)
  rw[a2,a1];simp only[Aa,AD,Ae];rfl
theorem fQ {x:Aq} (h:HD d r) (hx:x∈r) (hy:y∈r) (hb:x.Block=y.Block) (hl:x.Leaf=y.Leaf):x=y:=by
 obtain⟨b,l,g1,g2,_,g3⟩:=h.scan.page x hx;obtain⟨b',l',k1,k2,_,k3⟩:=h.scan.page y hy;rw[hb,k1]at g1
 injection g1 with g1
 subst g1;rw[hl,k2]at g2
 injection g2 with g2
 subst g2;rw[k3]at g3
 injection g3 with g3
 injection g3 with g3 _
 cases x;cases y;simp only at hb hl g3;rw[hb,hl,g3]
theorem wC (h:HD d r) (hy:y∈r):0<=y.Leaf/\y.Leaf<4:=by
 obtain⟨b,l,g1,g2,_,g3⟩:=h.scan.page y hy;obtain⟨_,k1⟩:=Da g1;obtain⟨q0,k2⟩:=Da g2;have:=(h.fl.blk b<|Ar k1).four;have:=(Ag.1 k2).1;omega
theorem cD (h:HD d r) (u:r.length<=40) {live:List Int} (l1:FB d.Store=some live) (l2:asc live) (l3:∀x,x∈live↔E5 (By d.Store) x) (l4:live.length<=16777216) (b:Int):
  ∃v,mv b (P6 b (CA r live 1000000001) r) (d.Seq,[],d.Flash.Blocks)=some v/\Hj d b=some (match v with|some o=>(o.2.1,true)|none=>([],false))/\MK d b=some (match v with|some o=>(o.2.1,true)|none=>([],false))/\
  (P6 b (CA r live 1000000001) r).length=(HW r b live).length/\(P6 b (CA r live 1000000001) r).length<=4/\∀y,y∈P6 b (CA r live 1000000001) r↔y∈HW r b live:=by
 have w:=h.pages;have h3:1<=d.Seq/\d.Seq<=1000000001:=by
  rw[h.seq];have h1:=NS r;refine⟨h1.2.1,h1.2.2 _ (by omega) λy hy=>?_⟩;have:=(w.seq y hy).2;omega
 have hk:∀y∈r,y.Page.Kind=1->y.Page.Count=1/\y.Page.Part=0:=by
  intro y hy k1;obtain⟨_,_,_,c1,c2,_,c3⟩:=ACb h hy;have:y.Page.Count=1:=by omega
  exact⟨this,by omega⟩
 have hn:∀(j:Nat) y,r[j]?=some y->(CA r live 1000000001)[j]?=some true->y.Page.Kind=1:=λj y hy hj=>(ZR h l3 hy hj).1
 have f:∀(j:Nat) y,r[j]?=some y->(CA r live 1000000001)[j]?=some true->P2 y.Page.Tx r r.length=some j/\y.Page.Tx∈live:=by
  intro j y hy hj;rw[PF r live _ hy]at hj
  injection hj with hj
  rw[Co]at hj
  rcases hj with hj|hj
  ·simp only[D1,Aj,Ce,A6]at hj;have:=(w.tx y<|Ar hy).2;omega
  rw[CD]at hj;obtain⟨c,c1,c2⟩:=hj;have c2':P2 c r r.length=some j:=by simpa using c2
  obtain⟨_,z,z1,z2⟩:=NM (Au _) c2';rw[hy]at z1
  injection z1 with z1
  subst z1;simp only[Jb,Aj,Ce]at z2;rw[z2.2];exact⟨c2',c1⟩
 have hm:∀y,y∈P6 b (CA r live 1000000001) r↔y∈HW r b live:=by
  intro y;have e1:y∈P6 b (CA r live 1000000001) r↔(∃j:Nat,r[j]?=some y/\(CA r live 1000000001)[j]?=some true)/\y.Block=b:=by
   unfold P6;simp only[Ak,Vw];constructor
   ·rintro(q|q|q|q)<;>exact⟨q.1,q.2.1⟩
   rintro⟨⟨j,q1,q2⟩,q3⟩;have:=wC h<|Ar q1;have:y.Leaf=0\/y.Leaf=1\/y.Leaf=2\/y.Leaf=3:=by omega
   rcases this with q|q|q|q
   ·exact .inl ⟨⟨j,q1,q2⟩,q3,q⟩
   ·exact .inr<|.inl ⟨⟨j,q1,q2⟩,q3,q⟩
   ·exact .inr<|.inr<|.inl ⟨⟨j,q1,q2⟩,q3,q⟩
   exact .inr<|.inr<|.inr ⟨⟨j,q1,q2⟩,q3,q⟩
  rw[e1];constructor
  ·rintro⟨⟨j,q1,q2⟩,q3⟩;obtain⟨q4,q5⟩:=f j y q1 q2;refine List.mem_filterMap.2 ⟨y.Page.Tx,q5,?_⟩;rw[q4];simp[bk,q1,q3]
  intro hy;obtain⟨c,c1,j,c2,c3,c4,c5,c6⟩:=SK hy;refine⟨⟨j,c3,?_⟩,c4⟩;rw[PF r live _ c3,Al,Co];exact .inr<|CD.2 ⟨c,c1,by simpa using c2⟩
 have m:∀y∈HW r b live,y∈r/\y.Block=b:=λy hy=>by
  obtain⟨c,c1,j,c2,c3,c4,c5,c6⟩:=SK hy;exact⟨Ar c3,c4⟩
 have h0:∀x∈HW r b live,∀y∈HW r b live,x.Leaf=y.Leaf->x=y:=λx hx y hy e=>fQ h (m x hx).1 (m y hy).1 (by rw[(m x hx).2,(m y hy).2]) e
 have a:∀i:Int,∀y∈Lw b i (CA r live 1000000001) r,y∈r/\y.Block=b/\y.Leaf=i:=λi y hy=>by
  obtain⟨⟨j,q1,q2⟩,q3,q4⟩:=Vw.1 hy;exact⟨Ar q1,q3,q4⟩
 have n:∀i:Int,(Lw b i (CA r live 1000000001) r).length<=1:=by
  intro i;have hd:=mH (λj y hy hj=>(f j y hy hj).1) b i
  rcases hc:Lw b i (CA r live 1000000001) r with _|⟨x,_|⟨y,l⟩⟩
  ·exact Lj 1
  ·exact Au 1
  have hx:=a i x (by rw[hc];simp);have hy:=a i y (by rw[hc];simp);rw[hc]at hd;exact absurd (fQ h hx.1 hy.1 (by rw[hx.2.1,hy.2.1])<|by rw[hx.2.2,hy.2.2]) λe=>(C0.1 hd).1 y (by simp)<|by rw[e]
 have h4:(P6 b (CA r live 1000000001) r).length<=4:=by
  unfold P6;simp only[Ai];have:=n 0;have:=n 1;have:=n 2;have:=n 3;omega
 have h5:kX (P6 b (CA r live 1000000001) r):=by
  have hd:∀i:Int,kX (Lw b i (CA r live 1000000001) r):=λi=>mH (λj y hy hj=>(f j y hy hj).1) b i
  have cross:∀i k:Int,i≠k->∀x∈Lw b i (CA r live 1000000001) r,∀y∈Lw b k (CA r live 1000000001) r,x.Page.Tx≠y.Page.Tx:=by
   intro i k p x hx y hy e;obtain⟨⟨j,q1,q2⟩,q3,q4⟩:=Vw.1 hx;obtain⟨⟨j',p1,p2⟩,p3,p4⟩:=Vw.1 hy;have a1:=(f j x q1 q2).1;have a2:=(f j' y p1 p2).1;rw[e,a2]at a1
   injection a1 with a1
   subst a1;rw[q1]at p1
   injection p1 with p1
   subst p1;exact p<|by rw[<-q4,<-p4]
  unfold P6 kX;refine AQ.2 ⟨hd 0,AQ.2 ⟨hd 1,AQ.2 ⟨hd 2,hd 3,cross 2 3<|by decide⟩,?_⟩,?_⟩
  ·intro x hx y hy
   rcases Ak.1 hy with hy|hy
   ·exact cross 1 2 (by decide) x hx y hy
   exact cross 1 3 (by decide) x hx y hy
  intro x hx y hy
  rcases Ak.1 hy with hy|hy
  ·exact cross 0 1 (by decide) x hx y hy
  rcases Ak.1 hy with hy|hy
  ·exact cross 0 2 (by decide) x hx y hy
  exact cross 0 3 (by decide) x hx y hy
 have g:BW BF (HW r b live) (P6 b (CA r live 1000000001) r):=yZ (e8 r b<|gX l2) h5 (λy=>(hm y).symm) h0;have h2:=g.len;have t:srt BF (P6 b (CA r live 1000000001) r):=by
  have hc:∀i:Int,srt BF (Lw b i (CA r live 1000000001) r):=by
   intro i
   refine List.pairwise_of_forall_mem_list λx hx y hy=>?_
   show x.Leaf<=y.Leaf;rw[(a i x hx).2.2,(a i y hy).2.2];exact GO _
  have cross:∀i k:Int,i<=k->∀x∈Lw b i (CA r live 1000000001) r,∀y∈Lw b k (CA r live 1000000001) r,BF x<=BF y:=by
   intro i k p x hx y hy;show x.Leaf<=y.Leaf;rw[(a i x hx).2.2,(a k y hy).2.2];exact p
  unfold P6 srt;refine AQ.2 ⟨hc 0,AQ.2 ⟨hc 1,AQ.2 ⟨hc 2,hc 3,cross 2 3<|by decide⟩,?_⟩,?_⟩
  ·intro x hx y hy
   rcases Ak.1 hy with hy|hy
   ·exact cross 1 2 (by decide) x hx y hy
   exact cross 1 3 (by decide) x hx y hy
  intro x hx y hy
  rcases Ak.1 hy with hy|hy
  ·exact cross 0 1 (by decide) x hx y hy
  rcases Ak.1 hy with hy|hy
  ·exact cross 0 2 (by decide) x hx y hy
  exact cross 0 3 (by decide) x hx y hy
 have I0:MvI 0 (d.Seq,[],d.Flash.Blocks):=⟨h.fl.cap,Au _,by show 0<=d.Seq;omega,by show d.Seq<=1000000001+((0:Nat):Int);omega⟩;obtain⟨v,v1,v2⟩:=AAf (b:=b) (P6 b (CA r live 1000000001) r) I0 (by omega);refine⟨v,v1,?_,?_,h2.symm,h4,hm⟩
 ·unfold Hj;rw[h.scan.s,l1];simp only[Aa];rw[Nv r live _ h.scan.len l4];simp only[Aa];have h6:live.foldl (dK r) (r.map<|D1 1000000001)=CA r live 1000000001:=rfl;rw[h6];have ho:=tP u hk (Kh r live 1000000001) hn b 4 0 (by omega) I0 (by omega);have eF:vH b (CA r live 1000000001) r 4 0=P6 b (CA r live 1000000001) r:=by
   simp[vH,P6]
  rw[eF,v1]at ho;rw[show((0:Nat):Int)=0 from rfl]at ho;simp only at ho;rw[ho]
  cases v with
  |none=>rfl
  |some o=>rfl
 unfold MK;rw[ABx h.scan (aN h.st l1) l4 b];simp only[Aa];obtain⟨X,x1,x2,x3⟩:=fA BF (HW r b live) (by omega);have hX:X=P6 b (CA r live 1000000001) r:=NP BF x2 t (λk=>by rw[x3 k,<-g k]);rw[x1,hX];simp only[Aa];have ho:=uS d b (P6 b (CA r live 1000000001) r) (by omega) ⟨by omega,h3.2⟩ (P6 b (CA r live 1000000001) r).length 0 (by omega) I0 (by omega) (by show d.Seq=d.Seq+((0:Nat):Int);omega);rw[List.drop_zero,v1,show((0:Nat):Int)=0 from rfl]at ho;simp only at ho;rw[ho]
 cases v with
 |none=>rfl
 |some o=>rfl
theorem AAX (s:Store) (hv:s.Vols.length<=1048576) (id:Int):∃w,Dr s id=some w/\(w<0↔KY (By s) id=none):=by
 rcases Ej s hv id with⟨e,h⟩|⟨k,v,e,h1,h2,_⟩
 ·exact⟨_,e,⟨λ_=>LN.1 h,λ_=>by omega⟩⟩
 refine⟨_,e,⟨λhh=>by omega,λhh=>absurd h2<|LN.2 hh v<|Ar h1⟩⟩
theorem AA6 (h:HD d r) (hn:d.Store.Next<1000000000) (q:R4):∃b text no,Fi d q=some (b,text,no)/\(b=[]\/∃x p,b=[x]/\DA (By d.Store) d.Store.Next x=some p)/\(L text≠ []->q.Kind=1):=by
 have s:=h.st.len;have g:=h.st.nx;obtain⟨v,a1,a2⟩:=WB q
 have a:∀{P:Prop},L (bs [])≠ []->P:=λhh=>absurd (EU _) hh
 unfold Fi;rw[a1];simp only[Aa]
 cases v with
 |false=>exact⟨_,_,_,rfl,.inl rfl,a⟩
 |true=>
  have hq:=a2 rfl;simp only[Ah,Ac];have k:=hq.kind;obtain⟨w,hw,i⟩:=AAX d.Store (by omega) q.Vol;rw[hw];simp only[Aa];by_cases h34:q.Kind=3\/q.Kind=4
  ·have:(cond (q.Kind==3) (some true) (some<|q.Kind==4):Option Bool)=some true:=by
    rcases h34 with e|e<;>rw[e]<;>rfl
   rw[this];simp only[Aa,Ae];by_cases f:w<0
   ·rw[Af (by omega:¬w>=0)];simp only[Ac];obtain⟨u,hu,l⟩:=AAX d.Store (by omega) q.Of;obtain⟨j2,m,n⟩:∃j2,(cond (q.Kind==4) ((Dr d.Store q.Of).bind λv3=>some<|decide<|v3<0) (some false):Option Bool)=some j2/\(j2=false->q.Kind=4->KY (By d.Store) q.Of≠none):=by
     cases hk:q.Kind==4 with
     |false=>exact⟨_,rfl,λ_ e=>by rw[e]at hk;cases hk⟩
     |true=>
      rw[hu];refine⟨_,rfl,λhh _ hc=>?_⟩;rw[l.2 hc|>Ad]at hh;cases hh
    rw[m];simp only[Aa]
    cases j2 with
    |true=>exact⟨_,_,_,rfl,.inl rfl,a⟩
    |false=>
     simp only[Ac];rw[Bz];by_cases j:(d.Store.Vols.length:Int)>=3
     ·rw[Ad j];exact⟨_,_,_,rfl,.inl rfl,a⟩
     rw[Af j];refine⟨_,_,_,rfl,.inr ⟨_,(rE (By d.Store) q.Vol (if 0<q.Of then(KY (By d.Store) q.Of).getD TH else TH),d.Store.Next),rfl,?_⟩,a⟩;unfold DA;rw[Av (by rw[ADd hq.vol hq.of_];simp),Av (by simp),Az rfl,Av];simp only[not_or];refine⟨?_,by rw[i.1 f];simp,by rw[IM];omega⟩;rintro⟨e1,e2⟩
     rcases h34 with e|e
     ·have:=hq.no (by omega);omega
     exact n rfl e e2
   rw[Ad (by omega:w>=0)];exact⟨_,_,_,rfl,.inl rfl,a⟩
  have:(cond (q.Kind==3) (some true) (some<|q.Kind==4):Option Bool)=some false:=by
   rw[show(q.Kind==3)=false by rw[Dh];omega,show(q.Kind==4)=false by rw[Dh];omega];rfl
  rw[this];simp only[Aa,Ac];by_cases f:w<0
  ·rw[Af (by omega:¬w>=0)];exact⟨_,_,_,rfl,.inl rfl,a⟩
  rw[Ad (by omega:w>=0)]
  have hg:KY (By d.Store) q.Vol≠none:=λe=>f<|i.2 e
  have taken:∀x:Cz,GJ x=true->x.Kind≠1->x.Kind≠2->x.Vol=q.Vol->x.Chunk<1000000000->∃p,DA (By d.Store) d.Store.Next x=some p:=by
   intro x x1 x2 x3 x4 x5;unfold DA;have x6:¬(KY (By d.Store) x.Vol=none\/x.Chunk=1000000000):=by
    rw[x4];rintro(e|e)
    ·exact hg e
    omega
   rw[Av (by rw[x1];simp),Av x2,Av x3,Av x6];split<;>exact⟨_,rfl⟩
  simp only[Ah,Ac]
  cases k1:(q.Kind==1)with
  |true=>
   simp only[Ae];have k1':q.Kind=1:=by simpa using k1
   obtain⟨live,l1,l2,l3,l4⟩:=Hx h.st;obtain⟨c,f1,f2⟩:=Ro h l4 q.Text;rw[l1,Aa,f1];simp only[Aa]
   rcases f2 with⟨rfl,f2⟩|⟨f2,f3⟩
   ·obtain⟨z,z1,z2,z3⟩:=pA q.Text hq.text;rw[show((0:Int)==0)=true from rfl,z1];obtain⟨p,hp⟩:=taken (Cz.mk 4 q.Vol q.Sector d.Store.Next) (zK hq.vol (by have:=hq.sec;omega) ⟨g.1,g.2⟩) (by simp) (by simp) rfl hn;exact⟨_,_,_,rfl,.inr ⟨_,_,rfl,hp⟩,λ_=>k1'⟩
   have o:=(l3 c).1 f2;have t:=YB h.st o;rw[show(c==0)=false by rw[Dh];omega];obtain⟨p,hp⟩:=taken (Cz.mk 4 q.Vol q.Sector c) (zK hq.vol (by have:=hq.sec;omega)<|by omega) (by simp) (by simp) rfl (by show c<_;omega);exact⟨_,_,_,rfl,.inr ⟨_,_,rfl,hp⟩,λ_=>k1'⟩
  |false=>
   simp only[Ac]
   cases k2:(q.Kind==2)with
   |true=>
    obtain⟨p,hp⟩:=taken (Cz.mk 5 q.Vol q.Sector 0) (by
     have:=hq.vol;have:=hq.sec;unfold GJ;simp
     omega) (by simp) (by simp) rfl (by show(0:Int)<_;omega)
    exact⟨_,_,_,rfl,.inr ⟨_,_,rfl,hp⟩,a⟩
   |false=>
    simp only[Ac]
    cases k5:(q.Kind==5)with
    |true=>
     obtain⟨p,hp⟩:=taken (Cz.mk 3 q.Vol 0 0) (by
      have:=hq.vol;unfold GJ;simp
      omega) (by simp) (by simp) rfl (by show(0:Int)<_;omega)
     exact⟨_,_,_,rfl,.inr ⟨_,_,rfl,hp⟩,a⟩
    |false=>exact⟨_,_,_,rfl,.inl rfl,a⟩
theorem yB (h:BD f):NK f<=10000:=by
 have hl:∀l:List Leaf,(∀x∈l,lfP x)->(l.map Pw).sum<=120*l.length:=by
  intro l
  induction l with
  |nil=>intro _;simp
  |cons x l ih=>
   intro hx;rw[BJ,FI,A7];have:=ih (λy hy=>hx y<|by simp[hy]);have h1:Pw x<=120:=by
    have a:x.Text.size=(L x.Text).length:=by have:=B8 x.Text;unfold FO at this;exact Int.ofNat_inj.1 this
    unfold Pw
    rcases hx x (by simp)with⟨_,e⟩|⟨_,_,e⟩|⟨_,e⟩
    ·rw[a,e];simp
    ·omega
    omega
   omega
 have hb:∀l:List Block,(∀b∈l,Lh b)->(l.map Kw).sum<=500*l.length:=by
  intro l
  induction l with
  |nil=>intro _;simp
  |cons b l ih=>
   intro hx;rw[BJ,FI,A7];have:=ih (λy hy=>hx y<|by simp[hy]);have h1:=hx b (by simp);have h2:=hl b.Leaves h1.leaf;have h4:=h1.four;have hz:Kw b=b.Leaves.length+(b.Leaves.map Pw).sum:=rfl;omega
 have:=hb f.Blocks h.blk;have hn:=h.n;unfold NK zl;omega
theorem xJ (h:code.length<=1048576):∃q,ST code=some q/\ABe q:=by
 unfold ST;obtain⟨c,c1,c2⟩:=AC1 h;obtain⟨d,c',r,d1,d2,d3,_,d4⟩:=XG c2;obtain⟨q,c'',q1,q2,q3⟩:=AA8 d2 d d3.dev.st.len λv hv=>d4.ids (v.Id,EZ d.Store.Arena.Knots v.Root)<|AF.2 ⟨v,hv,rfl⟩;rw[c1,Aa,d1,Aa,q1];exact⟨q,rfl,q3⟩
theorem eK (h:HD d r):SH d<=1048576:=by
 have h1:=yB h.fl;have h2:=h.st.len;have h3:=h.st.small;have a:∀l:List B5,(∀k∈l,k.Kids.length=4)->(l.map Vb).sum=4*l.length:=by
  intro l
  induction l with
  |nil=>intro _;rfl
  |cons k l ih=>
   intro hl;rw[BJ,FI,ih (λx hx=>hl x<|by simp[hx]),A7];have:=hl k (by simp);unfold Vb;omega
 have h4:=a d.Store.Arena.Knots (λk hk=>by
  obtain⟨i,hi,rfl⟩:=AC hk;have:=(GE.1 h.st.ar i hi).1;rw[Oh hi]at this
  exact this)
 have e1:Lp d.Store=d.Store.Vols.length+(d.Store.Arena.Knots.length+(d.Store.Arena.Knots.map Vb).sum):=rfl;have e2:SH d=NK d.Flash+Lp d.Store:=rfl;omega
theorem pR (s:Store) (hv:s.Vols.length<=1048576) (ha:Rg s.Arena):∃l,LC s=some l/\QT s=some l/\l.length<=1+17*s.Vols.length:=by
 unfold LC QT;obtain⟨l,h1,h2,h3⟩:=I6 (body:=λq:List Cz×Int=>Ef s q.1 q.2) (body':=λq:List Cz×Int=>HO s q.1 q.2) (λ(l:List Cz) i=>(l,i)) s.Vols.length (λi l=>l.length<=1+17*i) (λl=>l.length<=1+17*s.Vols.length)
  (λl i hi hl=>by
   have hg:s.Vols[i]?=some s.Vols[i]:=Ab hi;obtain⟨a,a1,a2,a3⟩:=SG s.Arena ha s.Vols[i].Root;have b:ap 32 l [Cz.mk 2 s.Vols[i].Id 0 0]=some (l++ [Cz.mk 2 s.Vols[i].Id 0 0]):=BS (by simp only[A8];omega);simp only[Ef,HO,Ev hi,Aw,hg,Aa,b,a1,a2];obtain⟨u,u1,u2,u3⟩:=I6 (body:=λq:List Cz×Int=>Ee s (i:Int) a q.1 q.2) (body':=λq:List Cz×Int=>HN s.Vols[i] a q.1 q.2) (λ(l:List Cz) k=>(l,k)) a.length (λk o=>o.length<=l.length+1+k) (λo=>o.length<=l.length+17)
    (λo k hk ho=>by
     have c:a[k]?=some a[k]:=Ab hk;simp only[Ee,HN,Ev hk,Aw,c,hg,Aa];refine⟨by first|rfl|trivial,?_⟩;rw[ad1]
     cases decide (a[k]>0)with
     |true=>
      simp only[Ae];rw[BS (by simp only[A8];omega)];exact .inl ⟨_,rfl,by simp only[Ai,A8];omega⟩
     |false=>exact .inl ⟨_,rfl,by omega⟩)
    (λo ho=>⟨by simp only[Ee,HN,DT],o,by simp only[Ee,DT],by omega⟩) (s:=l++ [Cz.mk 2 s.Vols[i].Id 0 0]) (by simp)
   have u1':Ap (λq:List Cz×Int=>Ee s (i:Int) a q.1 q.2) (l++ [Cz.mk 2 s.Vols[i].Id 0 0],0)=some u:=u1;have u2':Ap (λq:List Cz×Int=>HN s.Vols[i] a q.1 q.2) (l++ [Cz.mk 2 s.Vols[i].Id 0 0],0)=some u:=u2;rw[u1',u2',Aa,ad1]
   exact⟨by first|rfl|trivial,.inl ⟨_,rfl,by omega⟩⟩)
  (λl hl=>⟨by simp only[Ef,HO,DT],l,by simp only[Ef,DT],hl⟩) (s:=[Cz.mk 1 0 s.Next 0]) (by simp)
 have h1':Ap (λq:List Cz×Int=>Ef s q.1 q.2) ([Cz.mk 1 0 s.Next 0],0)=some l:=h1;have h2':Ap (λq:List Cz×Int=>HO s q.1 q.2) ([Cz.mk 1 0 s.Next 0],0)=some l:=h2;rw[h1',h2'];exact⟨l,rfl,rfl,h3⟩
theorem Zr (l:List Bc) (h:l.length<=1048576):O4 l l=some true:=by
 unfold O4;rw[Kt,Ac];obtain⟨a,h1,h2⟩:=AP (body:=λs:Int=>Ie l l s) (λ(_:Unit) i=>i) l.length (λ_ _=>True) (λa=>a= .inl ())
  (λ_ i hi _=>by
   have hx:=Ab hi;refine .inl ⟨(),?_,trivial⟩;simp only[Ie,Ev hi,Aw,hx,Aa,PZ,CZ,Jq,decide_true,Ah,Ac]
   rw[ad1])
  (λ_ _=>⟨.inl (),by simp only[Ie,DT],rfl⟩) (s:=()) trivial
 rw[h1,h2];rfl
theorem pQ (h:HD d r):∃st ok,M9 d=some (st,ok)/\OT d=some (st,ok)/\(ok=true->1<=st.length)/\st.length<=1048576:=by
 have hf:JR d.Flash:=h.fl.cap;obtain⟨b,r1,r2,r3⟩:=pR d.Store (by have:=h.st.len;omega)<|kY h.st;have hb:=h.st.vs;obtain⟨b1,b2⟩:=gU hb;have e:=VA h.st;rw[r1]at e
 injection e with e
 subst e;obtain⟨st,ok,w1,w2,w3⟩:=Pt d hf (Ld (By d.Store) d.Store.Next) (by omega)<|bs [];refine⟨st,ok,?_,?_,?_,by omega⟩
 ·unfold M9;rw[r1];simp only[Aa];rw[w1];rfl
 ·unfold OT;rw[r2];simp only[Aa];rw[w2];rfl
 intro ho;subst ho
 rcases Rk h.fl h.seqs (Ld (By d.Store) d.Store.Next) (by unfold Ld;simp) b2 b1 (bs [])with w|⟨steps,T,g,c,q1,q2,q3,q4,q5,q6,q7,q8,q9⟩
 ·rw[w1]at w;cases w
 rw[w1]at q2
 injection q2 with q2
 injection q2 with q2 _
 subst q2;have a:=(Fw q7).2;rw[Ai]at a;have f:(Cq (Jr d<|bs []) d.Tx T).length=T.length:=by unfold Cq;rw[TG]
 omega
theorem dX (hr:GF r):∃l,Ap (λs:List Int×Int=>Kn r s.1 s.2) ([],0)=some l/\l.Nodup/\(∀x,x∈l↔∃y∈r,y.Page.Kind=2/\y.Page.Tx=x)/\l.length<=r.length:=by
 have c:=hr.len;obtain⟨l,h1,h2,h3,h4⟩:=AP (body:=λs:List Int×Int=>Kn r s.1 s.2) (λ(o:List Int) i=>(o,i)) r.length (λi o=>o.Nodup/\(∀x,x∈o↔∃y∈r.take i,y.Page.Kind=2/\y.Page.Tx=x)/\o.length<=i) (λo=>o.Nodup/\(∀x,x∈o↔∃y∈r,y.Page.Kind=2/\y.Page.Tx=x)/\o.length<=r.length)
  (λo i hi ho=>by
   obtain⟨o1,o2,o3⟩:=ho;have hx:=Ab hi;have et:r.take (i+1)=r.take i++ [r[i]]:=by rw[Ao hi]
   refine .inl ?_;simp only[Kn,Ev hi,Aw,hx,Aa];rw[ad1,YJ o _<|by omega]
   cases hk:(r[i].Page.Kind==2)with
   |false=>
    simp only[Ac,Aa];refine⟨o,rfl,o1,λx=>?_,by omega⟩;rw[o2,et];constructor
    ·rintro⟨y,y1,y2⟩;exact⟨y,AH _ y1,y2⟩
    rintro⟨y,y1,y2,y3⟩;rw[Ak,AE]at y1
    rcases y1 with y1|rfl
    ·exact⟨y,y1,y2,y3⟩
    rw[y2]at hk;simp at hk
   |true=>
    have hk':r[i].Page.Kind=2:=by simpa using hk
    simp only[Ae,Aa]
    cases hc:o.contains r[i].Page.Tx with
    |true=>
     have hc':r[i].Page.Tx∈o:=by simpa using hc
     simp only[Ah,Ac];refine⟨o,rfl,o1,λx=>?_,by omega⟩;rw[o2,et];constructor
     ·rintro⟨y,y1,y2⟩;exact⟨y,AH _ y1,y2⟩
     rintro⟨y,y1,y2,y3⟩;rw[Ak,AE]at y1
     rcases y1 with y1|rfl
     ·exact⟨y,y1,y2,y3⟩
     rw[<-y3];exact(o2 _).1 hc'
    |false=>
     have hc':r[i].Page.Tx∉o:=by
      intro h;rw[List.contains_iff_mem.2 h]at hc;cases hc
     simp only[AD,Ae];rw[BS (by simp only[A8];omega)];refine⟨_,rfl,?_,λx=>?_,by simp;omega⟩
     ·rw[BP];exact⟨o1,by simp,λa ha b hb e=>by rw[AE]at hb;rw[e,hb]at ha;exact hc' ha⟩
     rw[Ak,AE,o2,et];constructor
     ·rintro(⟨y,y1,y2⟩|rfl)
      ·exact⟨y,AH _ y1,y2⟩
      exact⟨r[i],AT _<|AE.2 rfl,hk',rfl⟩
     rintro⟨y,y1,y2,y3⟩;rw[Ak,AE]at y1
     rcases y1 with y1|rfl
     ·exact .inl ⟨y,y1,y2,y3⟩
     exact .inr y3.symm)
  (λo ho=>⟨o,by simp only[Kn,DT],by rw[AW]at ho;exact ho⟩) (s:=[]) ⟨C8,by simp,by simp⟩
 exact⟨l,h1,h2,h3,h4⟩
theorem vE {l:List Int} (hr:GF r) (h1:l.Nodup) (h2:∀x,x∈l↔∃y∈r,y.Page.Kind=2/\y.Page.Tx=x):RH l=Dy r:=by
 obtain⟨n1,n2,n3⟩:=GY r λy hy=>(hr.tx y hy).1;refine Wn ?_ n1 λx=>?_
 ·have hs:(RH l).Pairwise λx y=>x<=y:=by
   have:=List.pairwise_mergeSort (le:=λx y:Int=>decide<|x<=y) (λa b c h1 h2=>by simp at*;omega) (λa b=>by simp;omega) l;unfold RH;exact this.imp λh=>by simpa using h
  have hd:(RH l).Nodup:=by
   unfold RH;exact(List.mergeSort_perm l _).nodup_iff.2 h1
  unfold asc;exact(hs.and hd).imp (λh=>by have:=h.1;have:=h.2;omega)
 rw[n2,<-h2];unfold RH;rw[List.mem_mergeSort]
theorem fL (t:ByteArray) (ht:(L t).length<=20000):∀(n a:Nat) (c:List Cz),(L t).length-a<=n->a<=(L t).length->c.length<=a->Ap (λs:List Cz×Int=>Ml t s.1 s.2) (c,(a:Int))=Ap (λs:List Cz×ByteArray×Int×Bool=>DL t s.1 s.2.1 s.2.2.1 s.2.2.2) (c,t,(a:Int),false)
 |n,a,c,hn,ha,ho=>by
  rw[A0,A0];simp only[DL,Ml];rw[B8];by_cases d:a<(L t).length
  ·rw[Ad (by omega:(a:Int)<((L t).length:Int))];simp only[Ae,Aa,AD];rw[Fk t d,ad1];obtain⟨r1,a1,a2,a3⟩:=IN t ((a+1:Nat):Int) (by omega) ⟨by omega,by omega⟩;have f:oI r1.2.1:=by
    rcases a3 with⟨_,_,e⟩|⟨_,_,b,_,_,e,_,_,e2,_⟩
    ·rw[e];exact⟨by omega,by omega⟩
    rw[e];exact⟨by omega,by omega⟩
   obtain⟨r2,b1,b2,b3⟩:=IN t r1.2.1 (by omega) f;rw[a2,Aa,b2];simp only[Aa];have l1:Ds (E9.mk t ((a+1:Nat):Int) false)=some (if r1.2.2=true then(r1.1,E9.mk t r1.2.1 false)else(0,E9.mk t ((a+1:Nat):Int) true)):=by
    unfold Ds;simp only;rw[a1];cases h:r1.2.2<;>simp[h]
   rw[l1]
   cases h1:r1.2.2 with
   |false=>
    simp only[BA,Fq,Aa,AD,Ae];have l2:Ds (E9.mk t ((a+1:Nat):Int) true)=some (0,E9.mk t ((a+1:Nat):Int) true):=by
     unfold Ds;simp only;rw[a1];simp
    rw[l2];simp only[Aa,Ae]
   |true=>
    simp only[BO,Aa,Ah,Ac];have l2:Ds (E9.mk t r1.2.1 false)=some (if r2.2.2=true then(r2.1,E9.mk t r2.2.1 false)else(0,E9.mk t r1.2.1 true)):=by
     unfold Ds;simp only;rw[b1];cases h:r2.2.2<;>simp[h]
    rw[l2]
    cases h2:r2.2.2 with
    |false=>
     simp only[BA,Fq,Aa,AD,Ae]
    |true=>
     simp only[BO,Aa,Ah,Ac];obtain⟨v,c1,c2,_⟩:=bY<|Cz.mk (qu (IntKind.i64.wrap ((L t)[a].toNat:Int)) 16) (Int.tmod (IntKind.i64.wrap ((L t)[a].toNat:Int)) 16) r1.1 r2.1;rw[c1,c2];simp only[Aa]
     cases v with
     |false=>simp only[AD,Ae]
     |true=>
      simp only[Ah,Ac];rw[BS (by simp;omega)];simp only[Aa]
      rcases b3 with⟨e,_⟩|⟨_,aa,b,m,k1,k2,k3,k4,k5,_⟩
      ·rw[h2]at e;cases e
      rcases a3 with⟨e,_⟩|⟨_,aa',b',m',p1,p2,p3,p4,p5,_⟩
      ·rw[h1]at e;cases e
      rw[k2]
      match n,hn with
      |n+1,hn=>exact fL t ht n b _ (by omega) k5 (by simp;omega)
      |0,hn=>omega
  rw[Af<|by omega];simp only[Ac,Aa]
theorem dU (t:ByteArray) (ht:(L t).length<=20000):QK t=Ix t:=by
 have h:=fL t ht (L t).length 0 [] (by omega) (by omega) (by simp);rw[show((0:Nat):Int)=0 from rfl]at h;unfold QK Ix;rw[h]
def ADZ:Page:=Page.mk 0 0 0 0 0<|bs []
theorem f7 (r:List Aq) (hl:r.length<=1048576) (t a c:Int) (h:(a=0/\c=0)\/(0<a/\0<c)):So r t a c=some (match R7 r t a c with|some y=>(y.Page,true)|none=>(ADZ,false)):=by
 have hp:∀y:Aq,(cond (y.Page.Kind==2) (cond (y.Page.Tx==t) (cond (y.Page.Part==a) (cond (c==0) (some true)<|some<|y.Page.Count==c)<|some false)<|some false) (some false):Option Bool)=some (pT t a c y):=by
  intro y;unfold pT;cases y.Page.Kind==2<;>cases y.Page.Tx==t<;>cases y.Page.Part==a<;>simp only[Ae,Ac,Bool.false_and,CZ]
  rcases h with⟨rfl,rfl⟩|⟨h1,h2⟩
  ·simp
  rw[show(c==0)=false by simp;omega];simp[h1]
 unfold So;obtain⟨b,h1,h2⟩:=AP (body:=λs:Int=>MG r t a c s) (λ(_:Unit) i=>i) r.length (λi _=>∀(j:Nat) x,j<i->r[j]?=some x->pT t a c x=false) (λb=>match R7 r t a c with|some y=>b= .inr (y.Page,true)|none=>b= .inl ())
  (λ_ i hi hs=>by
   have hx:=Ab hi;simp only[MG,Ev hi,Aw,hx,Aa];rw[hp,ad1];simp only[Aa]
   cases e:pT t a c r[i]with
   |true=>
    refine .inr ⟨_,rfl,?_⟩;unfold R7;rw[kW r _ hs hx e]
   |false=>
    refine .inl ⟨(),by simp only[Ac],λj x hj d=>?_⟩;by_cases q:j=i
    ·subst q;rw[hx]at d;injection d with d;rw[<-d];exact e
    exact hs j x (by omega) d)
  (λ_ hs=>⟨.inl (),by simp only[MG,DT],by
   unfold R7
   rw[uU r _ λj x hx=>hs j x (Ag.1 hx).1 hx]⟩) (s:=()) (λj x hj=>by omega)
 rw[h1]
 cases hf:R7 r t a c with
 |none=>rw[hf]at h2;simp only at h2;rw[h2];rfl
 |some y=>rw[hf]at h2;simp only at h2;rw[h2];rfl
theorem AAC (r:List Aq) (hr:GF r) (t:Int) (v:Page×Bool) (hv:1<=v.1.Count/\v.1.Count<=9):∀(n:Nat) (a:Int) (text:ByteArray) (seq:Int),a+n=11->1<=a->a<=v.1.Count->(L text).length<=90*a.toNat->
  ∃b,Ap (λs:ByteArray×Int×Int=>Mg r t v s.1 s.2.1 s.2.2) (text,seq,a)=some b/\(match parts r t n a v.1.Count (L text) seq with
   |none=>b= .inr (Tx.mk 0 0 [],false)
   |some (x,q)=>∃u,b= .inl (u,q)/\L u=x/\(L u).length<=1000)
 |0,a,text,seq,hn,h1,hc,ht=>by omega
 |n+1,a,text,seq,hn,h1,hc,ht=>by
  rw[A0];simp only[Mg,parts];by_cases e:a<v.1.Count
  ·rw[Ad e,Az (.inr e)];simp only[Ae];rw[f7 r hr.len t a v.1.Count (.inr ⟨by omega,by omega⟩)];simp only[Aa]
   cases hf:R7 r t a v.1.Count with
   |none=>
      simp only[AD,Ae];exact⟨_,rfl,rfl⟩
   |some y=>
    simp only[Ah,Ac];have hy:=S5 hf;have d:=hr.text y hy.1;have c:=uM hy.2 (by omega);rw[FV text y.Page.Text (by omega),Aa,Cy,c];have es:Oe a seq y=(if y.Page.Seq<seq then y.Page.Seq else seq):=by
     unfold Oe;by_cases q:y.Page.Seq<seq
     ·rw[Az<|.inr q,Az q]
     rw[Av (by rintro(h|h);omega;exact q h),Av q]
    rw[es,<-DZ];exact AAC r hr t v hv n (a+1) _ _ (by omega) (by omega) (by omega) (by rw[DZ,Ai];omega)
  rw[Af e,Av (by rintro(h|h);omega;exact e h)];simp only[Ac];exact⟨_,rfl,text,rfl,rfl,by omega⟩
theorem j7 (r:List Aq) (hr:GF r) (t:Int):∃x ok,Q9 r t=some (x,ok)/\Ih r t=(if ok=true then some x else none)/\x.Recs.length<=20000:=by
 unfold Q9 Ih;rw[f7 r hr.len t 0 0<|.inl ⟨rfl,rfl⟩];simp only[Aa]
 have a:parts r t 11 0 0 [] 0=(match R7 r t 0 0 with
  |none=>none
  |some y=>parts r t 10 1 y.Page.Count (L y.Page.Text) y.Page.Seq):=by
  rw[show(11:Nat)=10+1 from rfl];unfold parts;rw[Az<|.inl rfl]
  cases R7 r t 0 0 with
  |none=>rfl
  |some y=>
   simp only[A4];have:Oe 0 0 y=y.Page.Seq:=by unfold Oe;rw[Az<|.inl rfl]
   rw[this];rfl
 rw[a]
 cases hf:R7 r t 0 0 with
 |none=>exact⟨_,_,rfl,rfl,by simp⟩
 |some y=>
  simp only[Ah,Ac];have hy:=S5 hf;have c:=hr.text y hy.1;have hc:=hr.cnt y hy.1;obtain⟨b,h1,h2⟩:=AAC r hr t (y.Page,true) hc 10 1 y.Page.Text y.Page.Seq (by omega) (by omega) hc.1 (by omega);rw[h1];simp only[Aa]
  cases hp:parts r t 10 1 y.Page.Count (L y.Page.Text) y.Page.Seq with
  |none=>
   rw[hp]at h2;simp only at h2;rw[h2];exact⟨_,_,rfl,rfl,by simp⟩
  |some w=>
   obtain⟨x,q⟩:=w;rw[hp]at h2;obtain⟨u,rfl,rfl,h4⟩:=h2;simp only[Bw];obtain⟨l,ok,r1,r2,r3⟩:=bZ u (by omega);rw[dU u (by omega),r1,AEp,r2];simp only[Aa]
   cases ok with
   |true=>exact⟨_,_,rfl,rfl,r3⟩
   |false=>exact⟨_,_,rfl,rfl,r3⟩
theorem XL (r:List Aq) (hr:GF r):S1 r=some (Br r):=by
 have c:=hr.len;have a:=GY r λy hy=>(hr.tx y hy).1;have d:=a.2.2;obtain⟨l,l1,l2,l3,l4⟩:=dX hr;unfold S1;rw[l1];simp only[Aa];unfold Vu;rw[Az (by omega),vE hr l2 l3];simp only[Aa];obtain⟨b,h1,h2⟩:=AP (body:=λs:List Tx×Int=>MM r (Dy r) s.1 s.2) (λ(o:List Tx) i=>(o,i)) (Dy r).length (λi o=>o=((Dy r).take i).filterMap (Ih r)) (λb=>b=Br r)
  (λo i hi ho=>by
   have hx:=Ab hi;have et:(Dy r).take (i+1)=(Dy r).take i++ [(Dy r)[i]]:=Ao hi;have e:o.length<=i:=by
    rw[ho];have:=List.length_filterMap_le (Ih r)<|(Dy r).take i;rw[AU]at this;omega
   simp only[MM,Ev hi,Aw,hx,Aa];rw[ad1];obtain⟨z,ok,k1,k2,k3⟩:=j7 r hr (Dy r)[i];rw[k1];simp only[Aa];refine .inl ?_
   cases ok with
   |true=>
    simp only[Ae];rw[BS (by simp only[A8];omega)];refine⟨_,rfl,?_⟩;rw[et,List.filterMap_append,ho];simp only[List.filterMap_cons,List.filterMap_nil,k2,BO]
   |false=>
    refine⟨o,rfl,?_⟩;rw[et,List.filterMap_append,ho]
    simp[k2])
  (λo ho=>⟨o,by simp only[MM,DT],by rw[ho,AW];rfl⟩) (s:=[]) rfl
 rw[h1,h2];rfl
theorem gD (x:Tx):Sq x=some (dM x):=by
 unfold Sq dM
 cases h:x.Recs with
 |nil=>rfl
 |cons q m=>
  rw[Ad (by rw[Bz,A7];omega:ln (q::m)>0),show gi (q::m) 0=some q from Aw (i:=0)];rfl
theorem sD (h:HD d r):OO d=Lx d:=by
 have hr:=h.pages;obtain⟨g1,_⟩:=QW hr;unfold OO Lx
 cases(d.Base !=sb d.Tx 1)with
 |true=>rfl
 |false=>
  simp only[Ac];rw[h.scan.s,h.scan.i];simp only[Aa];rw[OD r hr,XL r hr];simp only[Aa];have hb:(λs:Int=>KL d (Br r) s)=(λs:Int=>G7 d (Br r) s):=by
   funext s;simp only[KL,G7]
   cases decide (s<ln (Br r))with
   |false=>rfl
   |true=>
    simp only[Ae]
    cases hg:gi (Br r) s with
    |none=>rfl
    |some x=>
     simp only[Aa]
     cases(x.Num==d.Base)with
     |false=>rfl
     |true=>
      simp only[Ae,Aa];rw[gD];unfold dM
      cases hx:x.Recs with
      |nil=>rfl
      |cons q m=>
       rw[Ad (by rw[Bz,A7];omega:ln (q::m)>0),show gi (q::m) 0=some q from Aw (i:=0)];rfl
  rw[hb]
theorem eE (h:CC s) (a:List Cz) (hr:a.length<=1048576):QQ s a=Iz s a:=by
 have hl:=h.len;have f:=Lb h.ar (by have:=h.few;omega);have d:=Gq s f (by omega);have c:=Ol s f (by omega);unfold QQ Iz;rw[d,c];simp only[Aa];obtain⟨b,h1,h2,_⟩:=I6 (body:=λq:Int×List Vol×List B5×Int=>Ed s a q.1 q.2.1 q.2.2.1 q.2.2.2) (body':=λq:Int×List Vol×List B5×Int=>HL s a q.1 q.2.1 q.2.2.1 q.2.2.2) (λ(t:Store) i=>(i,t.Vols,t.Arena.Knots,t.Next)) a.length (λ_ t=>CC t) (λ_=>True)
  (λt i hi hP=>by
   have hx:=Ab hi;have g:Store.mk t.Vols (Arena.mk t.Arena.Knots) t.Next=t:=rfl;have e:=bD hP a[i];simp only[Ed,HL,Ev hi,Aw,hx,Aa];rw[g,s9 hP];unfold Mf at e;split at e
   ·rw[e];simp only[Aa,AD,Ae];rw[d,c];exact⟨rfl,.inr ⟨_,rfl,trivial⟩⟩
   obtain⟨u,u1,u2,_⟩:=e;rw[u1];simp only[Aa,Ah,Ac];rw[ad1]
   exact⟨by first|rfl|trivial,.inl ⟨u,rfl,u2⟩⟩)
  (λt _=>⟨by simp only[Ed,HL,DT],.inl (t.Vols,t.Arena.Knots,t.Next),by simp only[Ed,DT],trivial⟩) (s:=s) h
 have e1:Ap (λq:Int×List Vol×List B5×Int=>Ed s a q.1 q.2.1 q.2.2.1 q.2.2.2) (0,s.Vols,s.Arena.Knots,s.Next)=some b:=h1;have e2:Ap (λq:Int×List Vol×List B5×Int=>HL s a q.1 q.2.1 q.2.2.1 q.2.2.2) (0,s.Vols,s.Arena.Knots,s.Next)=some b:=h2;rw[e1,e2]
theorem aJ (l:List Tx) (hl:l.length<=1048576) (hr:∀x∈l,x.Recs.length<=20000):OP l=some (De l):=by
 unfold OP;obtain⟨b,h1,h2⟩:=AP (body:=λs:Int×Int=>ID l s.1 s.2) (λ(o:Int) i=>(o,i)) l.length (λi o=>o=(sG (l.take i):Int)) (λb=>b=(sG l:Int))
  (λo i hi ho=>by
   have hx:=Ab hi;have et:l.take (i+1)=l.take i++ [l[i]]:=Ao hi;have a:(l.take i).length=i:=by rw[AU];omega
   simp only[ID,Ev hi,Aw,hx,Aa];rw[ad1,gD];simp only[Aa];refine .inl ?_
   cases hb:dM l[i]with
   |true=>exact⟨(i:Int),rfl,by rw[et,Rj,Az hb,a]⟩
   |false=>exact⟨o,rfl,by rw[et,Rj,Av (by rw[hb];simp),ho]⟩)
  (λo ho=>⟨o,by simp only[ID,DT],by rw[ho,AW]⟩) (s:=0) rfl
 rw[h1,h2];simp only[Aa];have d:=sF l;have hd:dr l (sG l:Int) (ln l)=some (De l):=by
  unfold dr;rw[Bz,Az (by omega),AZ,AZ,AM<|by simp];rfl
 rw[hd];simp only[Aa];obtain⟨b1,b2⟩:=SL l;obtain⟨c,q1,q2⟩:=AP (body:=λs:List Tx×Int=>IC (De l) s.1 s.2) (λ(o:List Tx) i=>(o,i)) (De l).length (λi o=>o=(De l).take i) (λb=>b=De l)
  (λo i hi ho=>by
   have hx:=Ab hi;have e:=hr _<|b2 _<|A5 hi;have et:(De l).take (i+1)=(De l).take i++ [(De l)[i]]:=Ao hi;have f:o.length<=1048576:=by rw[ho,AU];omega
   simp only[IC,Ev hi,Aw,hx,Aa];rw[LV (by omega),Aa,BS (by simp only[A8];omega),Aa,ad1]
   exact .inl ⟨_,rfl,by rw[et,<-ho]⟩)
  (λo ho=>⟨o,by simp only[IC,DT],by rw[ho,AW]⟩) (s:=[]) rfl
 rw[q1,q2];rfl
theorem kI (h:eB f r):Tl f=some (Db r-1):=by
 have a:=h.len;unfold Tl;rw[h.i];simp only[Aa];obtain⟨b,h1,h2⟩:=AP (body:=λs:Int×Int=>KU r s.1 s.2) (λ(o:Int) i=>(o,i)) r.length (λi o=>o=Db (r.take i)-1) (λb=>b=Db r-1)
  (λo i hi ho=>by
   have hx:=Ab hi;have et:r.take (i+1)=r.take i++ [r[i]]:=Ao hi;simp only[KU,Ev hi,Aw,hx,Aa];rw[ad1];refine .inl ⟨_,rfl,?_⟩;rw[et,Y4,ho];by_cases e:r[i].Page.Seq>=Db (r.take i)
   ·rw[Az (by omega),Az e];omega
   rw[Av (by omega),Av e])
  (λo ho=>⟨o,by simp only[KU,DT],by rw[ho,AW]⟩) (s:=0) (by simp[Db])
 rw[h1,h2];rfl
theorem rM (r:List Aq) (hr:GF r):Ap (λs:Int×Int=>HK r s.1 s.2) (0,1)=some (DC r):=by
 have a:=hr.len;obtain⟨b,h1,h2⟩:=AP (body:=λs:Int×Int=>HK r s.1 s.2) (λ(o:Int) i=>(i,o)) r.length (λi o=>o=DC (r.take i)) (λb=>b=DC r)
  (λo i hi ho=>by
   have hx:=Ab hi;have ht:=hr.tx _<|A5 hi;have et:r.take (i+1)=r.take i++ [r[i]]:=Ao hi;simp only[HK,Ev hi,Aw,hx,Aa];rw[ad1,Cy];refine .inl ?_;by_cases e:r[i].Page.Kind=2
   ·rw[show(r[i].Page.Kind==2)=true by simpa using e];refine⟨_,rfl,?_⟩;rw[et,Vh,ho];by_cases e2:r[i].Page.Tx>=DC (r.take i)
    ·rw[Az (by omega),Az ⟨e,e2⟩]
    rw[Av (by omega),Av λhh=>e2 hh.2]
   rw[show(r[i].Page.Kind==2)=false by simpa using e];refine⟨_,rfl,?_⟩
   rw[et,Vh,ho,Av λhh=>e hh.1])
  (λo ho=>⟨o,by simp only[HK,DT],by rw[ho,AW]⟩) (s:=1) rfl
 rw[<-h2];exact h1
theorem aL (l:List Tx) (hl:l.length<=1048576) (hr:∀x∈l,x.Recs.length<=20000):Ap (λs:Int×List Vol×List B5×Int×Int=>GC l s.1 s.2.1 s.2.2.1 s.2.2.2.1 s.2.2.2.2) (0,[],[],1,0)=Ap (λs:Int×List Vol×List B5×Int×Int=>Dw l s.1 s.2.1 s.2.2.1 s.2.2.2.1 s.2.2.2.2) (0,[],[],1,0):=by
 obtain⟨b,h1,h2,_⟩:=I6 (body:=λs:Int×List Vol×List B5×Int×Int=>Dw l s.1 s.2.1 s.2.2.1 s.2.2.2.1 s.2.2.2.2) (body':=λs:Int×List Vol×List B5×Int×Int=>GC l s.1 s.2.1 s.2.2.1 s.2.2.2.1 s.2.2.2.2) (λ(o:Store×Int) i=>(i,o.1.Vols,o.1.Arena.Knots,o.1.Next,o.2)) l.length (λ_ o=>CC o.1) (λ_=>True)
  (λo i hi hP=>by
   obtain⟨t,b0⟩:=o;simp only at hP;have hx:=Ab hi;have d:=hr _<|A5 hi;have c:Store.mk t.Vols (Arena.mk t.Arena.Knots) t.Next=t:=rfl;simp only[Dw,GC,Ev hi,Aw,hx,Aa];rw[c,eE hP _ (by omega),ad1];have a:=OX hP l[i].Recs (by omega);unfold LI at a;obtain⟨j,hj⟩:∃j,(cond ((i:Int)==0) (some l[i].Num) (some b0):Option Int)=some j:=by
    cases((i:Int)==0)with
    |true=>exact⟨_,rfl⟩
    |false=>exact⟨_,rfl⟩
   rw[hj];simp only[Aa];split at a
   ·rw[a];exact⟨rfl,.inl ⟨(t,j),rfl,hP⟩⟩
   obtain⟨u,u1,u2,_⟩:=a;rw[u1]
   exact⟨rfl,.inl ⟨(u,j),rfl,u2⟩⟩)
  (λo _=>⟨by simp only[Dw,GC,DT],(o.1.Vols,o.1.Arena.Knots,o.1.Next,o.2),by simp only[Dw,DT],trivial⟩) (s:=(Store.mk [] (Arena.mk []) 1,0)) eX
 have e1:Ap (λs:Int×List Vol×List B5×Int×Int=>Dw l s.1 s.2.1 s.2.2.1 s.2.2.2.1 s.2.2.2.2) (0,[],[],1,0)=some b:=h1;have e2:Ap (λs:Int×List Vol×List B5×Int×Int=>GC l s.1 s.2.1 s.2.2.1 s.2.2.2.1 s.2.2.2.2) (0,[],[],1,0)=some b:=h2;rw[e1,e2]
theorem Ue (hf:BD f):On f=CR f:=by
 obtain⟨r,hs,_⟩:=AA3 hf;have hr:=WI hs hf;obtain⟨g1,g2⟩:=QW hr;obtain⟨b1,b2⟩:=SL<|Br r;have a:=NS r;have b:Db r<=1000000001:=a.2.2 _ (by omega) (λy hy=>by have:=(hr.seq y hy).2;omega);unfold On CR;rw[QX,Qb hf,hs.s,hs.i,Dn f hf.cap,Ji,Dn f hf.cap,kI hs];unfold NY QH;simp only[Aa,Ah,Ac];rw[V7 r hr,rM r hr,OD r hr,XL r hr];simp only[Aa];rw[RP _ g1 g2,aJ _ g1 g2];simp only[Aa];rw[aL (De<|Br r) (by omega) λx hx=>g2 x<|b2 x hx,Cy,show Db r-1+1=Db r by omega]
theorem eA (h:HD d r):QC d=L5 d:=by
 have hn:=h.fl.n;obtain⟨live,l1,l2,l3,l4⟩:=Hx h.st;unfold L5 QC;rw[h.scan.s,l1];simp only[Aa];rw[Nv r live d.Base h.scan.len l4,Nv r live 1000000000 h.scan.len l4];simp only[Aa]
 have c:∀b,live.foldl (dK r) (r.map<|D1 b)=CA r live b:=λ_=>rfl
 rw[c,c]
 have hi:∀b:Block,Km b=Fu b:=λ_=>rfl
 have step:∀(o:Int×Int) (i:Nat),i<d.Flash.Blocks.length->GB d o.1 o.2 (i:Int)=Dv d r (CA r live d.Base) (CA r live 1000000000) o.1 o.2 (i:Int)/\∃o':Int×Int,Dv d r (CA r live d.Base) (CA r live 1000000000) o.1 o.2 (i:Int)=some (.inl (o'.1,o'.2,((i+1:Nat):Int))):=by
  intro o i a;have hx:=Ab a;have hP:=h.fl.blk _<|A5 a;have e:Li d.Flash.Blocks[i].Leaves<=4:=by have:=jP d.Flash.Blocks[i].Leaves;rw[hP.four]at this;exact this
  simp only[Dv,GB,Ev a,Aw,hx,Aa];rw[ZL r _ (i:Int) h.scan.len<|Kh _ _ _,ZL r _ (i:Int) h.scan.len<|Kh _ _ _,hi,K9 _ hP.four,ad1,(pG h l1 l2 l4 1000000000 (i:Int)).2,(pG h l1 l2 l4 d.Base (i:Int)).2];generalize cn r.length (λj=>(CA r live d.Base)[j]?.getD false&&bk r (i:Int) j)=A;generalize cn r.length (λj=>(CA r live 1000000000)[j]?.getD false&&bk r (i:Int) j)=C;simp only[Aa]
  cases d.Flash.Blocks[i].Bad with
  |true=>exact⟨rfl,o,rfl⟩
  |false=>
   simp only[AD,Ae,Ac,Aa];by_cases q:Li d.Flash.Blocks[i].Leaves=4
   ·rw[Af (by omega:¬((Li d.Flash.Blocks[i].Leaves:Nat):Int)<4),show(((Li d.Flash.Blocks[i].Leaves:Nat):Int)==4)=true by simp;omega];simp only[Ae,Ac,Aa];by_cases q2:A=C
    ·subst q2;simp only[PZ,Ae];by_cases q3:(A:Int)>=1
     ·rw[Ad q3];simp only[Ae,Aa]
      cases decide ((A:Int)<o.2)with
      |true=>exact⟨by first|rfl|trivial,((i:Int),(A:Int)),rfl⟩
      |false=>exact⟨by first|rfl|trivial,o,rfl⟩
     rw[Af q3];exact⟨by first|rfl|trivial,o,rfl⟩
    rw[show((C:Int)==(A:Int))=false by simp;omega,show((A:Int)==(C:Int))=false by simp;omega];exact⟨rfl,o,rfl⟩
   rw[Ad (by omega:((Li d.Flash.Blocks[i].Leaves:Nat):Int)<4),show(((Li d.Flash.Blocks[i].Leaves:Nat):Int)==4)=false by simp;omega];exact⟨rfl,o,rfl⟩
 obtain⟨v,e1,e2,_⟩:=I6 (body:=λs:Int×Int×Int=>Dv d r (CA r live d.Base) (CA r live 1000000000) s.1 s.2.1 s.2.2) (body':=λs:Int×Int×Int=>GB d s.1 s.2.1 s.2.2) (λ(o:Int×Int) i=>(o.1,o.2,i)) d.Flash.Blocks.length (λ_ _=>True) (λ_=>True)
  (λo i a _=>by
   obtain⟨a1,o',a2⟩:=step o i a
   exact⟨a1,.inl ⟨o',a2,trivial⟩⟩)
  (λo _=>⟨by simp only[Dv,GB,DT],o.1,by simp only[Dv,DT],trivial⟩) (s:=(-1,4)) trivial
 have e1':Ap (λs:Int×Int×Int=>Dv d r (CA r live d.Base) (CA r live 1000000000) s.1 s.2.1 s.2.2) (-1,4,0)=some v:=e1;have e2':Ap (λs:Int×Int×Int=>GB d s.1 s.2.1 s.2.2) (-1,4,0)=some v:=e2;rw[e1',e2']
theorem eI (h:JT d r):QR d=LA d:=by
 obtain⟨l,d1,d2,_⟩:=eH d<|eK h.dev;obtain⟨st,ok,b1,b2,_⟩:=pQ h.dev;obtain⟨live,l1,l2,l3,l4⟩:=Hx h.dev.st
 have hm:∀b,MK d b=Hj d b:=λb=>by
  obtain⟨v,_,v2,v3,_⟩:=cD h.dev h.few l1 l2 l3 l4 b;rw[v2,v3]
 unfold QR LA;rw[d1,d2,sD h.dev,eA h.dev,b1,b2];simp only[hm]
 try rfl
theorem Zz (h:HD d r) (vol k:Int):M2 d vol k=(GR r d.Store vol k):=by
 unfold M2;rw[h.scan.s];simp only[Aa];cases GR r d.Store vol k<;>rfl
theorem gH {r:Int} (h:CC s) (hr:r∈B3 s):OU s.Arena r=some (EZ s.Arena.Knots r):=by
 obtain⟨l,l1,l2,_⟩:=SG s.Arena (kY h) r;rw[NZ s.Arena (by have:=h.few;omega) h.ar<|h.root r hr]at l1;rw[l2,l1]
theorem dT (ha:CC a) (hb:CC b) (e:By a=By b) (n:a.Next=b.Next):OQ a b=some true:=by
 have f:=ha.len;have d:a.Vols.length=b.Vols.length:=by rw[<-IM,<-IM,e]
 unfold OQ;rw[show(ln a.Vols !=ln b.Vols)=false by rw[Bz,Bz,d];simp,show(a.Next !=b.Next)=false by rw[n];simp];simp only[Ac,Aa];obtain⟨q,h1,h2⟩:=AP (body:=λs:Int=>IG a b s) (λ(_:Unit) i=>i) a.Vols.length (λ_ _=>True) (λq=>q= .inl ())
  (λ_ i hi _=>by
   have hx:=Ab hi;have hy:=Ab (show i<b.Vols.length by omega);have c:(By a)[i]?=(By b)[i]? :=by rw[e]
   unfold By at c;rw[AO,AO,hx,hy]at c;simp only[Bx,Al,Bo]at c;obtain⟨e1,e2⟩:=c;simp only[IG,Ev hi,Aw,hx,hy,Aa];rw[gH hb (AF.2 ⟨_,A5 (show i<b.Vols.length by omega),rfl⟩),gH ha<|AF.2 ⟨_,A5 hi,rfl⟩,e1,e2];simp only[Aa,Kt,Ac];generalize hR:EZ b.Arena.Knots b.Vols[i].Root=R;have g:R.length=16:=by rw[<-hR];unfold EZ;simp
   obtain⟨z,z1,z2⟩:=AP (body:=λs:Int=>IF R R s) (λ(_:Unit) i=>i) R.length (λ_ _=>True) (λq=>q= .inl ())
    (λ_ k hk _=>by
     have hx:=Ab hk;simp only[IF,Ev hk,Aw,hx,Aa,Kt,Ac];rw[ad1]
     exact .inl ⟨(),rfl,trivial⟩)
    (λ_ _=>⟨_,by simp only[IF,DT],rfl⟩) (s:=()) trivial
   rw[z1,z2];simp only[Aa,Bw];rw[ad1]
   exact .inl ⟨(),rfl,trivial⟩)
  (λ_ _=>⟨_,by simp only[IG,DT],rfl⟩) (s:=()) trivial
 rw[h1,h2];rfl
theorem Wb (h:HD d r):Oo d=some true:=by
 obtain⟨m,m1,m2,m3⟩:=La h.fl h.sr;obtain⟨e1,e2,e3⟩:=Ht h m2 rfl;unfold Oo;rw[Ue h.fl,m1];simp only[Aa,Ae];rw[XK h.st,dT m2.st h.st e1 e2];simp only[Aa,Ae];rw[m2.seq,h.seq,m2.tx,h.tx,e3];simp
theorem pM (hf:BD f) (l:List Bc) (hl:l.length<=1048576):∃g n,IV f l=some (g,n)/\BD g:=by
 unfold IV;rw[Dn f hf.cap];simp only[Aa];obtain⟨b,h1,g,n,h2,h3⟩:=AP (body:=λs:Int×List Block=>Eo l s.1 s.2) (λ(o:Flash) i=>(i,o.Blocks)) l.length (λ_ o=>BD o) (λb=>∃g n,(b= .inl g.Blocks/\n=ln l\/b= .inr (g,n))/\BD g)
  (λo i hi ho=>by
   have hx:=Ab hi;have a:Flash.mk o.Blocks=o:=rfl;simp only[Eo,Ev hi,Aw,hx,Aa];rw[a]
   rcases Uu ho l[i]with⟨k1,k2⟩|⟨_,k2⟩
   ·rw[k2];simp only[Aa,Ah,Ac];rw[ad1];exact .inl ⟨Lm o l[i],rfl,tM ho k1⟩
   rw[k2]
   exact .inr ⟨_,rfl,o,(i:Int),.inr rfl,ho⟩)
  (λo ho=>⟨.inl o.Blocks,by simp only[Eo,DT],o,ln l,.inl ⟨rfl,rfl⟩,ho⟩) (s:=f) hf
 rw[h1]
 rcases h2 with⟨rfl,rfl⟩|rfl
 ·exact⟨g,_,rfl,h3⟩
 exact⟨g,n,rfl,h3⟩
theorem Uc (hf:BD d.Flash) (l:List Bc) (hl:l.length<=1048576):Om d l=Hw d l:=by
 obtain⟨g,n,h1,h2⟩:=pM hf l hl;obtain⟨g',n',h3,h4,_⟩:=tA d.Flash l hf.cap hl;rw[h1]at h3
 injection h3 with h3
 unfold Om Hw;rw[h1,h4,<-h3];simp only[Aa];rw[Ue h2]
theorem Wk (h:HD d r):KK d=some d:=by
 unfold KK;rw[Ji,Dn d.Flash h.fl.cap,Ol d.Store (Lb h.st.ar (by have:=h.st.few;omega)) (by have:=h.st.len;omega)];rfl
theorem eJ (h:JT d r) (hw:GP d.Flash 999999000) (most:Int):QS d most=Hy d most:=by
 unfold QS Hy;rw[Ms h.dev,Wk h.dev];simp only[Aa];obtain⟨b,b',h1,h2,d',all,h3,h4⟩:=f8 (body:=λs:List Bc×Int×List Block×List Vol×List B5×Int×Int×Int×Int=>EH most s.1 s.2.1 s.2.2.1 s.2.2.2.1 s.2.2.2.2.1 s.2.2.2.2.2.1 s.2.2.2.2.2.2.1 s.2.2.2.2.2.2.2.1 s.2.2.2.2.2.2.2.2)
  (body':=λs:List Bc×Int×List Block×List Vol×List B5×Int×Int×Int×Int=>HM most s.1 s.2.1 s.2.2.1 s.2.2.2.1 s.2.2.2.2.1 s.2.2.2.2.2.1 s.2.2.2.2.2.2.1 s.2.2.2.2.2.2.2.1 s.2.2.2.2.2.2.2.2)
  (λ(o:List Bc×AA) i=>(o.1,i,o.2.Flash.Blocks,o.2.Store.Vols,o.2.Store.Arena.Knots,o.2.Store.Next,o.2.Seq,o.2.Tx,o.2.Base)) (λ(o:List Bc×AA) i=>(o.1,i,o.2.Flash.Blocks,o.2.Store.Vols,o.2.Store.Arena.Knots,o.2.Store.Next,o.2.Seq,o.2.Tx,o.2.Base)) 20
  (λi o=>o.1.length<=200*i/\(∃r',JT o.2 r')/\GP o.2.Flash (999999000+i))
  (λb b'=>∃(d':AA) (all:List Bc),(b= .inr (d',all)\/b= .inl (all,d'.Flash.Blocks,d'.Store.Vols,d'.Store.Arena.Knots,d'.Store.Next,d'.Seq,d'.Tx,d'.Base))/\b'=(all,d'.Flash.Blocks,d'.Store.Vols,d'.Store.Arena.Knots,d'.Store.Next,d'.Seq,d'.Tx,d'.Base))
  (λo i hi hs=>by
   obtain⟨all,e⟩:=o;obtain⟨c,⟨r',hg⟩,a⟩:=hs;simp only at c hg a;have f:AA.mk (Flash.mk e.Flash.Blocks) (Store.mk e.Store.Vols (Arena.mk e.Store.Arena.Knots) e.Store.Next) e.Seq e.Tx e.Base=e:=rfl;have g:Flash.mk e.Flash.Blocks=e.Flash:=rfl;obtain⟨v,v1,v2,_⟩:=T4 e.Flash hg.dev.fl.cap (by have:=hg.dev.fl.few;omega);simp only[EH,HM]
   rw[f,g,v1,v2,Ad (by omega:(i:Int)<20),show decide ((i:Int)<(if 20<most then 20 else most))=decide ((i:Int)<most) by
    by_cases q:20<most
    ·rw[Az q,Ad (by omega),Ad<|by omega]
    rw[Av q]]
   simp only[Ae,Aa];obtain⟨j,hj⟩:∃j,(bif decide ((i:Int)<most)then some (decide<|v<12)else some false:Option Bool)=some j:=by
    cases decide ((i:Int)<most)with
    |true=>exact⟨_,rfl⟩
    |false=>exact⟨_,rfl⟩
   rw[hj];simp only[Aa]
   cases j with
   |false=>exact .inr ⟨_,_,rfl,rfl,e,all,.inr rfl,rfl⟩
   |true=>
    simp only[Ae];obtain⟨steps,ok,c1,c2,_,c3⟩:=cH hg (λx hx=>by have:=a x hx;omega);rw[eI hg,c1];simp only[Aa]
    cases ok with
    |false=>exact .inr ⟨_,_,rfl,rfl,e,all,.inl rfl,rfl⟩
    |true=>
     obtain⟨d',r2,k1,k2,k3⟩:=(c3 rfl).full hg (by omega);simp only[Ah,Ac];rw[Uc hg.dev.fl _ (by omega),k1,Aa,BS (by omega),ad1]
     exact .inl ⟨(all++steps,d'),rfl,rfl,by simp;omega,⟨r2,k3.good⟩,λx hx=>by have:=k3.wear _ a x hx;omega⟩)
  (λo hs=>by
   obtain⟨all,e⟩:=o;refine⟨.inl (all,e.Flash.Blocks,e.Store.Vols,e.Store.Arena.Knots,e.Store.Next,e.Seq,e.Tx,e.Base),_,?_,?_,e,all,.inr rfl,rfl⟩
   ·simp only[EH];rw[Af (by omega:¬((20:Nat):Int)<20)];cases decide (((20:Nat):Int)<most)<;>rfl
   simp only[HM]
   rw[show decide (((20:Nat):Int)<(if 20<most then 20 else most))=false by
    by_cases q:20<most
    ·rw[Az q,Af<|by omega]
    rw[Av q,Af<|by omega]]
   rfl) (s:=([],d)) ⟨by simp,⟨r,h⟩,λx hx=>by have:=hw x hx;show x.Wear<=999999000+((0:Nat):Int);omega⟩
 have e1:Ap (λs:List Bc×Int×List Block×List Vol×List B5×Int×Int×Int×Int=>EH most s.1 s.2.1 s.2.2.1 s.2.2.2.1 s.2.2.2.2.1 s.2.2.2.2.2.1 s.2.2.2.2.2.2.1 s.2.2.2.2.2.2.2.1 s.2.2.2.2.2.2.2.2) ([],0,d.Flash.Blocks,d.Store.Vols,d.Store.Arena.Knots,d.Store.Next,d.Seq,d.Tx,d.Base)=some b:=h1;have e2:Ap (λs:List Bc×Int×List Block×List Vol×List B5×Int×Int×Int×Int=>HM most s.1 s.2.1 s.2.2.1 s.2.2.2.1 s.2.2.2.2.1 s.2.2.2.2.2.1 s.2.2.2.2.2.2.1 s.2.2.2.2.2.2.2.1 s.2.2.2.2.2.2.2.2) ([],0,d.Flash.Blocks,d.Store.Vols,d.Store.Arena.Knots,d.Store.Next,d.Seq,d.Tx,d.Base)=some b':=h2;rw[e1,e2,h4]
 rcases h3 with rfl|rfl
 ·rfl
 rfl
theorem ACk (ha:CC a) (hb:CC b) (e:By a=By b) (id:Int):Dr a id=Dr b id:=by
 have g:=ha.len;have h:=hb.len
 have c:∀i:Nat,(a.Vols[i]?).map Vol.Id=(b.Vols[i]?).map Vol.Id:=λi=>by
  have:=BE (λl=>(l[i]?).map Prod.fst) e;unfold By at this;simp only[AO,Option.map_map]at this;exact this
 rcases Ej a (by omega) id with⟨e1,n1⟩|⟨i,v,e1,g1,h1,k1⟩
 ·rcases Ej b (by omega) id with⟨e2,_⟩|⟨j,w,e2,g2,h2,_⟩
  ·rw[e1,e2]
  have:=c j;rw[g2]at this;obtain⟨x,x1,x2⟩:=AL.1 this;exact absurd (by rw[x2,h2])<|n1 x<|Ar x1
 rcases Ej b (by omega) id with⟨e2,n2⟩|⟨j,w,e2,g2,h2,k2⟩
 ·have:=c i;rw[g1]at this;obtain⟨x,x1,x2⟩:=AL.1 this.symm;exact absurd (by rw[x2,h1])<|n2 x<|Ar x1
 have f:i=j:=by
  rcases O0 i j with d|d|d
  ·have:=c i;rw[g1]at this;obtain⟨x,x1,x2⟩:=AL.1 this.symm;exact absurd (by rw[x2,h1])<|k2 i x d x1
  ·exact d
  have:=c j;rw[g2]at this;obtain⟨x,x1,x2⟩:=AL.1 this;exact absurd (by rw[x2,h2])<|k1 j x d x1
 rw[e1,e2,f]
theorem Yb {n:Nat} {e:AA} {re:List Aq} (h:JT d r) (k:Js n d r e re) (q:R4):Fi e q=Fi d q:=by
 have hv:(ln e.Store.Vols)=ln d.Store.Vols:=by rw[Bz,Bz,<-IM,<-IM,k.ab]
 have f:=ACk k.good.dev.st h.dev.st k.ab
 have g:((FB e.Store).bind λv4=>Iy e.Flash v4 q.Text)=(FB d.Store).bind λv4=>Iy d.Flash v4 q.Text:=by
  obtain⟨l,l1,_,l3,l4⟩:=Hx h.dev.st;obtain⟨m,m1,_,m3,m4⟩:=Hx k.good.dev.st;rw[l1,m1];simp only[Aa];obtain⟨v,v1,v2⟩:=Ro h.dev l4 q.Text;obtain⟨w,w1,w2⟩:=Ro k.good.dev m4 q.Text;rw[v1,w1];congr 1
  have hl:∀c,c∈m↔c∈l:=λc=>by rw[m3,l3,k.ab]
  rcases v2 with⟨rfl,v2⟩|⟨v2,v3⟩
  ·rcases w2 with⟨rfl,_⟩|⟨w2,w3⟩
   ·rfl
   rw[k.text _<|(l3 w).1<|(hl w).1 w2]at w3;exact absurd w3<|v2 w<|(hl w).1 w2
  have a:=(l3 v).1 v2
  rcases w2 with⟨rfl,w2⟩|⟨w2,w3⟩
  ·exact absurd (by rw[k.text _ a];exact v3)<|w2 v<|(hl v).2 v2
  have b:=(l3 w).1<|(hl w).1 w2;rw[k.text _ b]at w3;exact h.data.dist _ _ b a<|by rw[w3,v3]
 unfold Fi;simp only[f,hv,k.nx];simp only[<-Option.bind_assoc,g]
theorem XZ (h:BD f):MJ f=M1 f:=by
 obtain⟨v,v1,v2,_⟩:=T4 f h.cap (by have:=h.few;omega);rw[v1,v2]
theorem sQ (h:JT d r) (hw:GP d.Flash 999999000) (q:R4):YF d q=Nq d q:=by
 unfold YF Nq;obtain⟨v,p1,p2,p3⟩:=xH d (eK h.dev) q;rw[Wk h.dev,Ms h.dev,Wb h.dev,Qq h.dev,p1,p2];simp only[Aa,Ah,Ac]
 cases a:(v.2.2 !=0)with
 |true=>rfl
 |false=>
  simp only[Ac]
  cases l:(q.Kind==6)with
  |true=>
   have hq:ADP q:=by
    obtain⟨i,j,no⟩:=v;have:no=0:=by simpa using a
    subst this;exact UR h.dev p1
   obtain⟨k,hk⟩:∃k:Nat,q.Sector=(k:Int):=⟨_,(Bk hq.sec.1).symm⟩;simp only[Ae];rw[hk,rI h q.Vol (by have:=hq.sec;omega),Zz h.dev]
  |false=>
   simp only[Ac];rw[XZ h.dev.fl,eJ h hw 20];obtain⟨v5,b⟩:=LW h.dev.fl;rw[b];simp only[Aa];have clean:∃e all re,(cond (decide<|v5<12) ((Hy d 20).bind λv6=>some (v6.2,v6.1.Flash.Blocks,v6.1.Store.Vols,v6.1.Store.Arena.Knots,v6.1.Store.Next,v6.1.Seq,v6.1.Tx,v6.1.Base)) (some ([],d.Flash.Blocks,d.Store.Vols,d.Store.Arena.Knots,d.Store.Next,d.Seq,d.Tx,d.Base)):Option (List Bc×List Block×List Vol×List B5×Int×Int×Int×Int))=some (all,Flash.Blocks<|AA.Flash e,e.Store.Vols,e.Store.Arena.Knots,e.Store.Next,e.Seq,e.Tx,e.Base)/\Js 20 d r e re:=by
    cases decide (v5<12)with
    |false=>exact⟨d,[],r,rfl,Js.refl h⟩
    |true=>
     obtain⟨e,all,re,k1,k2,k3,_⟩:=UV h hw 20;simp only[Ae];rw[k1];exact⟨e,all,re,rfl,k2⟩
   obtain⟨e,all,re,k1,k5⟩:=clean;rw[k1];simp only[Aa];have c:AA.mk (Flash.mk e.Flash.Blocks) (Store.mk e.Store.Vols (Arena.mk e.Store.Arena.Knots) e.Store.Next) e.Seq e.Tx e.Base=e:=rfl;have f:Flash.mk e.Flash.Blocks=e.Flash:=rfl;rw[c,f,Yb h k5 q,p1,XZ k5.good.dev.fl];simp only[Aa];obtain⟨st,ok,w1,w2,w3⟩:=Pt e k5.good.dev.fl.cap v.1 (by omega) v.2.1;obtain⟨v9,g⟩:=LW k5.good.dev.fl;rw[w1,w2,g];simp only[Aa];rw[Uc k5.good.dev.fl st<|by omega];cases ok<;>cases decide (v9<8)<;>rfl
theorem RJ (h:BD f):Mo f f=some true:=by
 have hn:=h.n;unfold Mo;rw[show(ln f.Blocks !=ln f.Blocks)=false by simp,Ac];obtain⟨b,h1,h2⟩:=AP (body:=λs:Int=>Ig f f s) (λ(_:Unit) i=>i) f.Blocks.length (λ_ _=>True) (λb=>b= .inl ())
  (λ_ i hi _=>by
   have hx:=Ab hi;have hP:=h.blk _<|A5 hi;simp only[Ig,Ev hi,Aw,hx,Aa];rw[show(f.Blocks[i].Bad==f.Blocks[i].Bad)=true by simp,show(f.Blocks[i].Wear !=f.Blocks[i].Wear)=false by simp,show(ln f.Blocks[i].Leaves !=ln f.Blocks[i].Leaves)=false by simp];simp only[Ah,Ac,Aa];obtain⟨c,q1,q2⟩:=AP (body:=λs:Int=>If f.Blocks[i] f.Blocks[i] s) (λ(_:Unit) i=>i) f.Blocks[i].Leaves.length (λ_ _=>True) (λb=>b= .inl ())
    (λ_ k hk _=>by
     have hx:=Ab hk;have h4:=hP.four
     have a:∀u:ByteArray,seq u u=true:=λu=>by rw[Jq];simp
     simp only[If,Ev hk,Aw,hx,Aa,PZ,a,Ib,Ah,Ac];rw[ad1]
     exact .inl ⟨(),rfl,trivial⟩)
    (λ_ _=>⟨_,by simp only[If,DT],rfl⟩) (s:=()) trivial
   rw[q1,q2];simp only[Aa,Bw];rw[ad1]
   exact .inl ⟨(),rfl,trivial⟩)
  (λ_ _=>⟨_,by simp only[Ig,DT],rfl⟩) (s:=()) trivial
 rw[h1,h2];rfl
theorem rO (h:HD d r):Wc d=some true:=by
 have hn:=h.fl.n;have a:=h.fl.few;have e:r.length<=nl d.Flash.Blocks:=by
  have h1:=jL 0 d.Flash.Blocks;have h3:=h.sr.2.len;omega
 unfold Wc;obtain⟨v,h1,h2⟩:=AP (body:=λs:Int×Int=>MO d s.1 s.2) (λ(s:Int) i=>(s,i)) d.Flash.Blocks.length (λi n=>n=(((d.Flash.Blocks.take i).map λb=>b.Leaves.length).sum:Nat)) (λv=>v= .inl ((nl d.Flash.Blocks:Nat):Int))
  (λn i hi hs=>by
   have hb:d.Flash.Blocks[i]?=some d.Flash.Blocks[i]:=Ab hi;have hw:=(h.fl.blk _<|A5 hi).wear;have c:=P3 (λb:Block=>b.Leaves.length) d.Flash.Blocks i hi;have f:=Mq (λb:Block=>b.Leaves.length) d.Flash.Blocks<|i+1;unfold nl at a;simp only[MO,Ev hi,Aw,hb,Aa];rw[WT,Ad hw];simp only[Aa,Ah,Ac];rw[ad1,Cy (by rw[Bz];omega) (by rw[Bz];omega),Bz]
   exact .inl ⟨_,rfl,by omega⟩)
  (λn hs=>⟨.inl n,by simp only[MO,DT],by rw[hs,AW];rfl⟩) (s:=0) (by simp)
 rw[h1,h2];obtain⟨w,w1,w2,w3,w4⟩:=T4 d.Flash h.fl.cap (by have:=h.fl.few;omega);simp only[Aa,Bw];rw[w2,Aa,cT,h.scan.i,Aa,Bz,Ad<|by omega]
structure AA2 (d:AA) (r:List Aq) (q:R4) (d':AA) (steps:List Bc) (t:ByteArray) (no:Int) (r':List Aq):Prop where
 good:JT d' r'
 walk:Steps d.Flash steps d'.Flash
 len:steps.length<=4010
 text:q.Kind≠6\/no≠0->t=bs []
 kept:no≠0->By d'.Store=By d.Store/\d'.Store.Next=d.Store.Next
 read:q.Kind=6->steps=[]/\(no=0->∃ok,M2 d q.Vol q.Sector=some (t,ok))
 done:no=0->q.Kind≠6->∃recs text s,Fi d q=some (recs,text,0)/\Iz d.Store recs=some (s,true)/\CC s/\By d'.Store=By s/\d'.Store.Next=s.Next
theorem ACs (h:JT d r) (hw:GP d.Flash 999999000) (m:d.Store.Next<1000000000) (q:R4):∃d' steps t no r',Nq d q=some (d',steps,t,no)/\AA2 d r q d' steps t no r':=by
 unfold Nq;rw[Ms h.dev,Qq h.dev];simp only[Aa,Ah,Ac];obtain⟨f,b,no,p1,p2,p3⟩:=Wr h.dev q;obtain⟨recs',text',no',t1,t2,_⟩:=AA6 h.dev m q;rw[p1]at t1
 injection t1 with t1
 obtain⟨rfl,rfl,rfl⟩:f=recs'/\b=text'/\no=no':=by injection t1 with e1 e2;injection e2 with e2 e3;exact⟨e1,e2,e3⟩
 rw[p1];simp only[Aa]
 cases g:(no !=0)with
 |true=>
  have hn:no≠0:=by simpa using g
  exact⟨_,_,_,_,r,rfl,⟨h,rfl,by simp,λ_=>rfl,λ_=>⟨rfl,rfl⟩,λ_=>⟨rfl,λe=>absurd e hn⟩,λe=>absurd e hn⟩⟩
 |false=>
  have n:no=0:=by simpa using g
  subst n;have hq:=UR h.dev p1;simp only[Ac]
  cases i:(q.Kind==6)with
  |true=>
   have hk:q.Kind=6:=by simpa using i
   simp only[Ae];obtain⟨k,o⟩:∃k:Nat,q.Sector=(k:Int):=⟨_,(Bk hq.sec.1).symm⟩;obtain⟨u,ok,u1⟩:∃u ok,M2 d q.Vol q.Sector=some (u,ok):=by
    rw[Zz h.dev,o]
    rcases Xz h q.Vol (k:=k) (by have:=hq.sec;omega)with⟨_,e⟩|⟨h6,c,_,_,_,⟨_,e⟩|⟨_,_,u,_,e⟩⟩<;>exact⟨_,_,e⟩
   rw[u1];simp only[Aa]
   cases ok with
   |false=>exact⟨_,_,_,_,r,rfl,⟨h,rfl,by simp,λ_=>rfl,λ_=>⟨rfl,rfl⟩,λ_=>⟨rfl,λe=>by cases e⟩,λe=>by cases e⟩⟩
   |true=>exact⟨_,_,_,_,r,rfl,⟨h,rfl,by simp,λe=>by rcases e with e|e;exact absurd hk e;exact absurd rfl e,λe=>absurd rfl e,λ_=>⟨rfl,λ_=>⟨true,u1⟩⟩,λ_ e=>absurd hk e⟩⟩
  |false=>
   have hk:q.Kind≠6:=by simpa using i
   simp only[Ac];obtain⟨v5,v⟩:=LW h.dev.fl;rw[v];simp only[Aa];have clean:∃e all re,(cond (decide<|v5<12) ((Hy d 20).bind λv6=>some (v6.2,v6.1.Flash.Blocks,v6.1.Store.Vols,v6.1.Store.Arena.Knots,v6.1.Store.Next,v6.1.Seq,v6.1.Tx,v6.1.Base)) (some ([],d.Flash.Blocks,d.Store.Vols,d.Store.Arena.Knots,d.Store.Next,d.Seq,d.Tx,d.Base)):Option (List Bc×List Block×List Vol×List B5×Int×Int×Int×Int))=some (all,Flash.Blocks<|AA.Flash e,e.Store.Vols,e.Store.Arena.Knots,e.Store.Next,e.Seq,e.Tx,e.Base)/\Js 20 d r e re/\all.length<=4000/\Steps d.Flash all e.Flash:=by
    cases decide (v5<12)with
    |false=>exact⟨d,[],r,rfl,Js.refl h,by simp,rfl⟩
    |true=>
     obtain⟨e,all,re,k1,k2,k3,k4,_⟩:=UV h hw 20;simp only[Ae];rw[k1];exact⟨e,all,re,rfl,k2,k3,k4⟩
   obtain⟨e,all,re,k1,k5,k4,k3⟩:=clean;rw[k1];simp only[Aa];have z:AA.mk (Flash.mk e.Flash.Blocks) (Store.mk e.Store.Vols (Arena.mk e.Store.Arena.Knots) e.Store.Next) e.Seq e.Tx e.Base=e:=rfl;have h0:Flash.mk e.Flash.Blocks=e.Flash:=rfl;have k2:=k5.good;have j:=Yb h k5 q;rw[z,h0,j,p1];simp only[Aa];have stay:AA2 d r q e all (bs []) 4 re:=⟨k2,k3,by omega,λ_=>rfl,λ_=>⟨k5.ab,k5.nx⟩,λhh=>absurd hh hk,λhh=>by cases hh⟩;obtain⟨v9,h1⟩:=LW k2.dev.fl;obtain⟨st,ok,w1,_,w3⟩:=Pt e k2.dev.fl.cap f (by rcases p2 with⟨rfl,_⟩|⟨_,x,rfl,_⟩<;>simp) b;rw[w1,h1];simp only[Aa]
   cases h2:ok with
   |false=>exact⟨_,_,_,_,re,rfl,stay⟩
   |true=>
    subst h2;simp only[Ah,Ac,Aa]
    cases decide (v9<8)with
    |true=>exact⟨_,_,_,_,re,rfl,stay⟩
    |false=>
     simp only[Ac]
     rcases p2 with⟨rfl,rfl⟩|⟨_,x,rfl,p4⟩
     ·have h3:DO e [] (bs [])=some ([],true):=rfl;rw[h3]at w1
      injection w1 with w1
      injection w1 with w1 _
      subst w1;obtain⟨d',u1,u2,u3⟩:=La k2.dev.fl k2.dev.sr;obtain⟨e1,e2,_⟩:=Ht k2.dev u2 rfl;rw[Np k2.dev (steps:=[]) rfl (by simp) u1,Aa,BS (by simp;omega)];have a:=OX h.dev.st [] (by simp);have l:CL (By d.Store) d.Store.Next []=some (By d.Store,d.Store.Next):=rfl;unfold LI at a;rw[l]at a;obtain⟨s,s1,s2,s3,s4⟩:=a;exact⟨_,_,_,_,re,rfl,⟨⟨u2,k2.core,by rw[e1];exact k2.data⟩,by rw[A3,u3];exact k3,by simp;omega,λ_=>rfl,λhh=>absurd rfl hh,λhh=>absurd hh hk,λ_ _=>⟨_,_,s,p1,s1,s2,by rw[e1,k5.ab,s3],by rw[e2,k5.nx,s4]⟩⟩⟩
     obtain⟨recs2,text2,no2,s1,s2,_⟩:=Wr k2.dev q;rw[j,p1]at s1
     injection s1 with s1
     obtain⟨rfl,rfl,rfl⟩:[x]=recs2/\b=text2/\0=no2:=by injection s1 with e1 e2;injection e2 with e2 e3;exact⟨e1,e2,e3⟩
     have h4:zQ e re q x b:=by
      rcases s2 with⟨s2,_⟩|⟨_,y,s2,s3⟩
      ·cases s2
      injection s2 with s2 _
      rw[s2];exact s3
     rcases tE k2 h4 with w|⟨steps,d',r',a1,a2,a3,a4,a5,_,_,_,_,a8,_⟩
     ·rw[w]at w1
      injection w1 with w1
      injection w1 with _ w1
      cases w1
     rw[a1]at w1
     injection w1 with w1
     injection w1 with w1 _
     subst w1;rw[a3,Aa,BS<|by omega];have a:=OX h.dev.st [x] (by simp);unfold LI at a;obtain⟨p,hp⟩:∃p,DA (By d.Store) d.Store.Next x=some p:=by
      rcases t2 with t2|⟨x',p,t2,t3⟩
      ·cases t2
      injection t2 with t2 _
      subst t2;exact⟨p,t3⟩
     have h5:CL (By d.Store) d.Store.Next [x]=some p:=by rw[FE,hp];rfl
     rw[h5]at a;rw[k5.ab,k5.nx,hp,Bi]at a5;obtain⟨s,s1,s2,s3,s4⟩:=a;have e1:=BE Prod.fst a5;have e2:=BE Prod.snd a5;simp only at e1 e2;exact⟨_,_,_,_,r',rfl,⟨a4,(NH _ _ _ _).2 ⟨_,k3,a8⟩,by simp;omega,λ_=>rfl,λhh=>absurd rfl hh,λhh=>absurd hh hk,λ_ _=>⟨_,_,s,p1,s1,s2,by rw[e1,s3],by rw[e2,s4]⟩⟩⟩
theorem aX (hs:code.length<=1048576):NL code=some true:=by
 obtain⟨d,r,d1,d2,d3,d4⟩:=lL hs;obtain⟨q,q1,q2⟩:=xJ hs
 have hw:GP d.Flash 999999000:=λx hx=>by have:=d4.wear x hx;omega
 obtain⟨d',steps,t,no,r',s1,s2⟩:=ACs d2 hw (by omega) q;unfold NL;have hb:YY code=some false:=by
  unfold YY;rw[Bz,Af<|by omega]
 rw[hb];simp only[Aa,Ac];rw[d1,Aa,q1,Aa,sQ d2 hw q,s1];simp only[Aa];have b:=s2.len
 have a:∀u:ByteArray,seq u u=true:=λu=>by rw[Jq];simp
 rw[Zr steps (by omega),RJ s2.good.dev.fl,Wb s2.good.dev,rO s2.good.dev,a];simp only[Kt,Ac,Ah,Aa];by_cases h6:q.Kind=6/\no=0
 ·obtain⟨h6,rfl⟩:=h6;obtain⟨e1,e2⟩:=s2.read h6;obtain⟨ok,e3⟩:=e2 rfl;rw[show(q.Kind==6)=true by simpa using h6];simp only[Ae,PZ,Aa];rw[e3,e1];simp only[Aa,a,Ae];rfl
 have hj:(cond (q.Kind==6) (some<|no==0) (some false):Option Bool)=some false:=by
  by_cases e:q.Kind=6
  ·rw[show(q.Kind==6)=true by simpa using e,Ae,show(no==0)=false by rw[Dh];exact λhh=>h6 ⟨e,hh⟩]
  rw[show(q.Kind==6)=false by simpa using e,Ac]
 rw[hj];simp only[Aa,Ac];rw[XA d2.dev.fl s2.walk<|by omega]
 have ht:t=bs []:=s2.text (by
  by_cases e:q.Kind=6
  ·exact .inr λhh=>h6 ⟨e,hh⟩
  exact .inl e)
 rw[Aa,Bz,RJ s2.good.dev.fl,ht,a];simp only[Kt,Ac,Ah,Aa];by_cases h0:no=0
 ·have hk:q.Kind≠6:=λe=>h6 ⟨e,h0⟩
  obtain⟨c,text,s,p1,p2,p3,p4,p5⟩:=s2.done h0 hk;rw[show(no !=0)=false by simp[h0],p1];simp only[Ac,Aa];rw[p2];simp only[Aa,Ae];rw[SD s2.good.dev.st p3,Ad ⟨p4,p5⟩];rfl
 obtain⟨k1,k2⟩:=s2.kept h0;rw[show(no !=0)=true by simpa using h0];simp only[Ae];rw[SD s2.good.dev.st d2.dev.st,Ad ⟨k1,k2⟩];rfl
theorem fnServes_true (code:List Int) (hc:ol (oK .u8) code):NL code=some true:=by
 by_cases h:code.length<=1048576
 ·exact aX h
 unfold NL;have hb:YY code=some true:=by
  unfold YY;rw[Bz,Ad<|by omega]
 rw[hb];rfl
end Go.TI
