/- A block that goes bad is not written any more. No condition; no program is in sight. -/
import Derived.Test.YtiaanofedbfeeabGreatBBP3
set_option linter.unusedVariables false
set_option linter.unusedSimpArgs false
namespace Go.TI
open Go
def u7 (b:Int) (nd:List Bool) (r:List Ar):Nat->Nat->List Ar
 |0,_=>[]
 |n+1,i=>Lv b (i:Int) nd r++u7 b nd r n (i+1)
theorem yO (b i:Int) (nd:List Bool) (r:List Ar):(Lv b i nd r).length<=r.length:=by
 unfold Lv;rw[Bg];have:=CL (λq:Bool×Ar=>q.1&&(q.2.Block==b)&&(q.2.Leaf==i))<|nd.zip r;rw[List.length_zip]at this;omega
variable {r:List Ar} {d:A9} {f:Flash} {y:Ar} {code:List Int} {s a b:Store} {n:Nat} {q:Rv} {no:Int}
theorem tF {nd:List Bool} (hr:r.length<=40) (hk:∀y∈r,y.Page.Kind=1->y.Page.Count=1/\y.Page.Part=0) (c:nd.length=r.length) (hn:∀(j:Nat) y,r[j]?=some y->nd[j]?=some true->y.Page.Kind=1) (b:Int):∀(n i:Nat),i+n=4->∀{m:Nat} {o:MvS},MvI m o->m+n*40<=1000->
  Ap (λs:List Bh×Int×Int×List Block=>ET b r nd s.1 s.2.1 s.2.2.1 s.2.2.2) (o.2.1,o.1,(i:Int),o.2.2)=(mv b (u7 b nd r n i) o).map λq=>match q with
   |some o'=> .inl o'.2.1
   |none=> .inr ([],false)
 |0,i,hi,m,o,ho,hm=>by
  rw[A0];simp only[ET];rw[cF];rfl
 |n+1,i,hi,m,o,ho,hm=>by
  rw[A0];simp only[ET];rw[cT];have a:=tG hr hk c hn b (i:Int) r.length 0 (by omega) ho (by omega);simp only[List.drop_zero]at a;rw[show((0:Nat):Int)=0 from rfl]at a;rw[a];have d:=yO b (i:Int) nd r;obtain⟨v,v1,v2⟩:=zY (b:=b) (Lv b (i:Int) nd r) ho (by omega);have es:u7 b nd r (n+1) i=Lv b (i:Int) nd r++u7 b nd r n (i+1):=rfl;rw[es,zZ,v1]
  cases v with
  |none=>rfl
  |some o'=>
   simp only[Bx,Aa,Bz];rw[ad1];exact tF hr hk c hn b n (i+1) (by omega) (v2 o' rfl)<|by omega
theorem uK (d:A9) (b:Int) (X:List Ar) (hX:X.length<=100) (hd:0<=d.Seq/\d.Seq<=1000000001):∀(n i:Nat),i+n=X.length->∀{m:Nat} {o:MvS},MvI m o->m+n<=1000->o.1=d.Seq+i->
  Ap (λs:Int×List Block×List Bh=>IG d b X s.1 s.2.1 s.2.2) ((i:Int),o.2.2,o.2.1)=(mv b (X.drop i) o).map λq=>match q with
   |some o'=> .inl (o'.2.2,o'.2.1)
   |none=> .inr ([],false)
 |0,i,hi,m,o,ho,hm,hs=>by
  rw[A0];simp only[IG,KH];rw[cF,List.drop_of_length_le (by omega)];rfl
 |n+1,i,hi,m,o,ho,hm,hs=>by
  have a:i<X.length:=by omega
  have hx:=Ab a;rw[A0];simp only[IG,Ez a,Aw,hx,Aa];rw[C6,<-hs,AT a];have ep:Page.mk 1 o.1 X[i].Page.Tx 0 1 X[i].Page.Text=cS o.1 X[i]:=rfl;rw[ep]
  rcases qO (b:=b) (y:=X[i]) ho (by omega)with⟨s,g',a1,a2,a3,a4,a5⟩|⟨a1,⟨w,a2⟩,_⟩
  ·rw[a5,a3];simp only[Aa,Ah,Ac];rw[ad1];exact uK d b X hX hd n (i+1) (by omega) a4 (by omega) (by show o.1+1=_;omega)
  rw[a2,a1];simp only[Aa,AD,Ae];rfl
theorem fA {x:Ar} (h:HY d r) (hx:x∈r) (hy:y∈r) (hb:x.Block=y.Block) (hl:x.Leaf=y.Leaf):x=y:=by
 obtain⟨b,l,g1,g2,_,g3⟩:=h.scan.page x hx;obtain⟨b',l',k1,k2,_,k3⟩:=h.scan.page y hy;rw[hb,k1]at g1
 injection g1 with g1
 subst g1;rw[hl,k2]at g2
 injection g2 with g2
 subst g2;rw[k3]at g3
 injection g3 with g3
 injection g3 with g3 _
 cases x;cases y;simp only at hb hl g3;rw[hb,hl,g3]
theorem vT (h:HY d r) (hy:y∈r):0<=y.Leaf/\y.Leaf<4:=by
 obtain⟨b,l,g1,g2,_,g3⟩:=h.scan.page y hy;obtain⟨_,k1⟩:=CQ g1;obtain⟨q0,k2⟩:=CQ g2;have:=(h.fl.blk b<|Aq k1).four;have:=(Ag.1 k2).1;omega
theorem bO (h:HY d r) (u:r.length<=40) {live:List Int} (l1:F8 d.Store=some live) (l2:asc live) (l3:∀x,x∈live↔E6 (By d.Store) x) (l4:live.length<=16777216) (b:Int):
  ∃v,mv b (P3 b (C9 r live 1000000001) r) (d.Seq,[],d.Flash.Blocks)=some v/\Hq d b=some (match v with|some o=>(o.2.1,true)|none=>([],false))/\MK d b=some (match v with|some o=>(o.2.1,true)|none=>([],false))/\
  (P3 b (C9 r live 1000000001) r).length=(HZ r b live).length/\(P3 b (C9 r live 1000000001) r).length<=4/\∀y,y∈P3 b (C9 r live 1000000001) r↔y∈HZ r b live:=by
 have w:=h.pages;have h3:1<=d.Seq/\d.Seq<=1000000001:=by
  rw[h.seq];have h1:=NT r;refine⟨h1.2.1,h1.2.2 _ (by omega) λy hy=>?_⟩;have:=(w.seq y hy).2;omega
 have hk:∀y∈r,y.Page.Kind=1->y.Page.Count=1/\y.Page.Part=0:=by
  intro y hy k1;obtain⟨_,_,_,c1,c2,_,c3⟩:=AB5 h hy;have:y.Page.Count=1:=by omega
  exact⟨this,by omega⟩
 have hn:∀(j:Nat) y,r[j]?=some y->(C9 r live 1000000001)[j]?=some true->y.Page.Kind=1:=λj y hy hj=>(ZC h l3 hy hj).1
 have f:∀(j:Nat) y,r[j]?=some y->(C9 r live 1000000001)[j]?=some true->P1 y.Page.Tx r r.length=some j/\y.Page.Tx∈live:=by
  intro j y hy hj;rw[PC r live _ hy]at hj
  injection hj with hj
  rw[Cq]at hj
  rcases hj with hj|hj
  ·simp only[D3,Ak,Cd,A5]at hj;have:=(w.tx y<|Aq hy).2;omega
  rw[CE]at hj;obtain⟨c,c1,c2⟩:=hj;have c2':P1 c r r.length=some j:=by simpa using c2
  obtain⟨_,z,z1,z2⟩:=NN (Au _) c2';rw[hy]at z1
  injection z1 with z1
  subst z1;simp only[IZ,Ak,Cd]at z2;rw[z2.2];exact⟨c2',c1⟩
 have hm:∀y,y∈P3 b (C9 r live 1000000001) r↔y∈HZ r b live:=by
  intro y;have e1:y∈P3 b (C9 r live 1000000001) r↔(∃j:Nat,r[j]?=some y/\(C9 r live 1000000001)[j]?=some true)/\y.Block=b:=by
   unfold P3;simp only[Al,Vn];constructor
   ·rintro(q|q|q|q)<;>exact⟨q.1,q.2.1⟩
   rintro⟨⟨j,q1,q2⟩,q3⟩;have:=vT h<|Aq q1;have:y.Leaf=0\/y.Leaf=1\/y.Leaf=2\/y.Leaf=3:=by omega
   rcases this with q|q|q|q
   ·exact .inl ⟨⟨j,q1,q2⟩,q3,q⟩
   ·exact .inr<|.inl ⟨⟨j,q1,q2⟩,q3,q⟩
   ·exact .inr<|.inr<|.inl ⟨⟨j,q1,q2⟩,q3,q⟩
   exact .inr<|.inr<|.inr ⟨⟨j,q1,q2⟩,q3,q⟩
  rw[e1];constructor
  ·rintro⟨⟨j,q1,q2⟩,q3⟩;obtain⟨q4,q5⟩:=f j y q1 q2;refine List.mem_filterMap.2 ⟨y.Page.Tx,q5,?_⟩;rw[q4];simp[bk,q1,q3]
  intro hy;obtain⟨c,c1,j,c2,c3,c4,c5,c6⟩:=SG hy;refine⟨⟨j,c3,?_⟩,c4⟩;rw[PC r live _ c3,An,Cq];exact .inr<|CE.2 ⟨c,c1,by simpa using c2⟩
 have m:∀y∈HZ r b live,y∈r/\y.Block=b:=λy hy=>by
  obtain⟨c,c1,j,c2,c3,c4,c5,c6⟩:=SG hy;exact⟨Aq c3,c4⟩
 have h0:∀x∈HZ r b live,∀y∈HZ r b live,x.Leaf=y.Leaf->x=y:=λx hx y hy e=>fA h (m x hx).1 (m y hy).1 (by rw[(m x hx).2,(m y hy).2]) e
 have a:∀i:Int,∀y∈Lv b i (C9 r live 1000000001) r,y∈r/\y.Block=b/\y.Leaf=i:=λi y hy=>by
  obtain⟨⟨j,q1,q2⟩,q3,q4⟩:=Vn.1 hy;exact⟨Aq q1,q3,q4⟩
 have n:∀i:Int,(Lv b i (C9 r live 1000000001) r).length<=1:=by
  intro i;have hd:=lQ (λj y hy hj=>(f j y hy hj).1) b i
  rcases hc:Lv b i (C9 r live 1000000001) r with _|⟨x,_|⟨y,l⟩⟩
  ·exact Lh 1
  ·exact Au 1
  have hx:=a i x (by rw[hc];simp);have hy:=a i y (by rw[hc];simp);rw[hc]at hd;exact absurd (fA h hx.1 hy.1 (by rw[hx.2.1,hy.2.1])<|by rw[hx.2.2,hy.2.2]) λe=>(C3.1 hd).1 y (by simp)<|by rw[e]
 have h4:(P3 b (C9 r live 1000000001) r).length<=4:=by
  unfold P3;simp only[Ai];have:=n 0;have:=n 1;have:=n 2;have:=n 3;omega
 have h5:kH (P3 b (C9 r live 1000000001) r):=by
  have hd:∀i:Int,kH (Lv b i (C9 r live 1000000001) r):=λi=>lQ (λj y hy hj=>(f j y hy hj).1) b i
  have cross:∀i k:Int,i≠k->∀x∈Lv b i (C9 r live 1000000001) r,∀y∈Lv b k (C9 r live 1000000001) r,x.Page.Tx≠y.Page.Tx:=by
   intro i k p x hx y hy e;obtain⟨⟨j,q1,q2⟩,q3,q4⟩:=Vn.1 hx;obtain⟨⟨j',p1,p2⟩,p3,p4⟩:=Vn.1 hy;have a1:=(f j x q1 q2).1;have a2:=(f j' y p1 p2).1;rw[e,a2]at a1
   injection a1 with a1
   subst a1;rw[q1]at p1
   injection p1 with p1
   subst p1;exact p<|by rw[<-q4,<-p4]
  unfold P3 kH;refine AR.2 ⟨hd 0,AR.2 ⟨hd 1,AR.2 ⟨hd 2,hd 3,cross 2 3<|by decide⟩,?_⟩,?_⟩
  ·intro x hx y hy
   rcases Al.1 hy with hy|hy
   ·exact cross 1 2 (by decide) x hx y hy
   exact cross 1 3 (by decide) x hx y hy
  intro x hx y hy
  rcases Al.1 hy with hy|hy
  ·exact cross 0 1 (by decide) x hx y hy
  rcases Al.1 hy with hy|hy
  ·exact cross 0 2 (by decide) x hx y hy
  exact cross 0 3 (by decide) x hx y hy
 have g:BX BH (HZ r b live) (P3 b (C9 r live 1000000001) r):=yQ (eI r b<|gG l2) h5 (λy=>(hm y).symm) h0;have h2:=g.len;have t:srt BH (P3 b (C9 r live 1000000001) r):=by
  have hc:∀i:Int,srt BH (Lv b i (C9 r live 1000000001) r):=by
   intro i
   refine List.pairwise_of_forall_mem_list λx hx y hy=>?_
   show x.Leaf<=y.Leaf;rw[(a i x hx).2.2,(a i y hy).2.2];exact GQ _
  have cross:∀i k:Int,i<=k->∀x∈Lv b i (C9 r live 1000000001) r,∀y∈Lv b k (C9 r live 1000000001) r,BH x<=BH y:=by
   intro i k p x hx y hy;show x.Leaf<=y.Leaf;rw[(a i x hx).2.2,(a k y hy).2.2];exact p
  unfold P3 srt;refine AR.2 ⟨hc 0,AR.2 ⟨hc 1,AR.2 ⟨hc 2,hc 3,cross 2 3<|by decide⟩,?_⟩,?_⟩
  ·intro x hx y hy
   rcases Al.1 hy with hy|hy
   ·exact cross 1 2 (by decide) x hx y hy
   exact cross 1 3 (by decide) x hx y hy
  intro x hx y hy
  rcases Al.1 hy with hy|hy
  ·exact cross 0 1 (by decide) x hx y hy
  rcases Al.1 hy with hy|hy
  ·exact cross 0 2 (by decide) x hx y hy
  exact cross 0 3 (by decide) x hx y hy
 have I0:MvI 0 (d.Seq,[],d.Flash.Blocks):=⟨h.fl.cap,Au _,by show 0<=d.Seq;omega,by show d.Seq<=1000000001+((0:Nat):Int);omega⟩;obtain⟨v,v1,v2⟩:=zY (b:=b) (P3 b (C9 r live 1000000001) r) I0 (by omega);refine⟨v,v1,?_,?_,h2.symm,h4,hm⟩
 ·unfold Hq;rw[h.scan.s,l1];simp only[Aa];rw[Nw r live _ h.scan.len l4];simp only[Aa];have h6:live.foldl (cU r) (r.map<|D3 1000000001)=C9 r live 1000000001:=rfl;rw[h6];have ho:=tF u hk (Kl r live 1000000001) hn b 4 0 (by omega) I0 (by omega);have eF:u7 b (C9 r live 1000000001) r 4 0=P3 b (C9 r live 1000000001) r:=by
   simp[u7,P3]
  rw[eF,v1]at ho;rw[show((0:Nat):Int)=0 from rfl]at ho;simp only at ho;rw[ho]
  cases v with
  |none=>rfl
  |some o=>rfl
 unfold MK;rw[ABp h.scan (ZZ h.st l1) l4 b];simp only[Aa];obtain⟨X,x1,x2,x3⟩:=eK BH (HZ r b live) (by omega);have hX:X=P3 b (C9 r live 1000000001) r:=NQ BH x2 t (λk=>by rw[x3 k,<-g k]);rw[x1,hX];simp only[Aa];have ho:=uK d b (P3 b (C9 r live 1000000001) r) (by omega) ⟨by omega,h3.2⟩ (P3 b (C9 r live 1000000001) r).length 0 (by omega) I0 (by omega) (by show d.Seq=d.Seq+((0:Nat):Int);omega);rw[List.drop_zero,v1,show((0:Nat):Int)=0 from rfl]at ho;simp only at ho;rw[ho]
 cases v with
 |none=>rfl
 |some o=>rfl
theorem AAM (s:Store) (hv:s.Vols.length<=1048576) (id:Int):∃w,Ds s id=some w/\(w<0↔KY (By s) id=none):=by
 rcases El s hv id with⟨e,h⟩|⟨k,v,e,h1,h2,_⟩
 ·exact⟨_,e,⟨λ_=>LN.1 h,λ_=>by omega⟩⟩
 refine⟨_,e,⟨λhh=>by omega,λhh=>absurd h2<|LN.2 hh v<|Aq h1⟩⟩
theorem AAW (h:HY d r) (hn:d.Store.Next<1000000000) (q:Rv):∃b text no,EP d q=some (b,text,no)/\(b=[]\/∃x p,b=[x]/\DA (By d.Store) d.Store.Next x=some p)/\(L text≠ []->q.Kind=1):=by
 have s:=h.st.len;have g:=h.st.nx;obtain⟨v,a1,a2⟩:=W0 q
 have a:∀{P:Prop},L (bs [])≠ []->P:=λhh=>absurd (EY _) hh
 unfold EP;rw[a1];simp only[Aa]
 cases v with
 |false=>exact⟨_,_,_,rfl,.inl rfl,a⟩
 |true=>
  have hq:=a2 rfl;simp only[Ah,Ac];have k:=hq.kind;obtain⟨w,hw,i⟩:=AAM d.Store (by omega) q.Vol;rw[hw];simp only[Aa];by_cases h34:q.Kind=3\/q.Kind=4
  ·have:(cond (q.Kind==3) (some true) (some<|q.Kind==4):Option Bool)=some true:=by
    rcases h34 with e|e<;>rw[e]<;>rfl
   rw[this];simp only[Aa,Ae];by_cases f:w<0
   ·rw[Af (by omega:¬w>=0)];simp only[Ac];obtain⟨u,hu,l⟩:=AAM d.Store (by omega) q.Of;obtain⟨j2,m,n⟩:∃j2,(cond (q.Kind==4) ((Ds d.Store q.Of).bind λv3=>some<|decide<|v3<0) (some false):Option Bool)=some j2/\(j2=false->q.Kind=4->KY (By d.Store) q.Of≠none):=by
     cases hk:q.Kind==4 with
     |false=>exact⟨_,rfl,λ_ e=>by rw[e]at hk;cases hk⟩
     |true=>
      rw[hu];refine⟨_,rfl,λhh _ hc=>?_⟩;rw[l.2 hc|>Ad]at hh;cases hh
    rw[m];simp only[Aa]
    cases j2 with
    |true=>exact⟨_,_,_,rfl,.inl rfl,a⟩
    |false=>
     simp only[Ac];rw[B4];by_cases j:(d.Store.Vols.length:Int)>=3
     ·rw[Ad j];exact⟨_,_,_,rfl,.inl rfl,a⟩
     rw[Af j];refine⟨_,_,_,rfl,.inr ⟨_,(qU (By d.Store) q.Vol (if 0<q.Of then(KY (By d.Store) q.Of).getD TB else TB),d.Store.Next),rfl,?_⟩,a⟩;unfold DA;rw[Av (by rw[AC5 hq.vol hq.of_];simp),Av (by simp),Ay rfl,Av];simp only[not_or];refine⟨?_,by rw[i.1 f];simp,by rw[IK];omega⟩;rintro⟨e1,e2⟩
     rcases h34 with e|e
     ·have:=hq.no (by omega);omega
     exact n rfl e e2
   rw[Ad (by omega:w>=0)];exact⟨_,_,_,rfl,.inl rfl,a⟩
  have:(cond (q.Kind==3) (some true) (some<|q.Kind==4):Option Bool)=some false:=by
   rw[show(q.Kind==3)=false by rw[Df];omega,show(q.Kind==4)=false by rw[Df];omega];rfl
  rw[this];simp only[Aa,Ac];by_cases f:w<0
  ·rw[Af (by omega:¬w>=0)];exact⟨_,_,_,rfl,.inl rfl,a⟩
  rw[Ad (by omega:w>=0)]
  have hg:KY (By d.Store) q.Vol≠none:=λe=>f<|i.2 e
  have taken:∀x:Cy,GL x=true->x.Kind≠1->x.Kind≠2->x.Vol=q.Vol->x.Chunk<1000000000->∃p,DA (By d.Store) d.Store.Next x=some p:=by
   intro x x1 x2 x3 x4 x5;unfold DA;have x6:¬(KY (By d.Store) x.Vol=none\/x.Chunk=1000000000):=by
    rw[x4];rintro(e|e)
    ·exact hg e
    omega
   rw[Av (by rw[x1];simp),Av x2,Av x3,Av x6];split<;>exact⟨_,rfl⟩
  simp only[Ah,Ac]
  cases k1:(q.Kind==1)with
  |true=>
   simp only[Ae];have k1':q.Kind=1:=by simpa using k1
   obtain⟨live,l1,l2,l3,l4⟩:=H3 h.st;obtain⟨c,f1,f2⟩:=Rj h l4 q.Text;rw[l1,Aa,f1];simp only[Aa]
   rcases f2 with⟨rfl,f2⟩|⟨f2,f3⟩
   ·obtain⟨z,z1,z2,z3⟩:=oU q.Text hq.text;rw[show((0:Int)==0)=true from rfl,z1];obtain⟨p,hp⟩:=taken (Cy.mk 4 q.Vol q.Sector d.Store.Next) (zB hq.vol (by have:=hq.sec;omega) ⟨g.1,g.2⟩) (by simp) (by simp) rfl hn;exact⟨_,_,_,rfl,.inr ⟨_,_,rfl,hp⟩,λ_=>k1'⟩
   have o:=(l3 c).1 f2;have t:=Y0 h.st o;rw[show(c==0)=false by rw[Df];omega];obtain⟨p,hp⟩:=taken (Cy.mk 4 q.Vol q.Sector c) (zB hq.vol (by have:=hq.sec;omega)<|by omega) (by simp) (by simp) rfl (by show c<_;omega);exact⟨_,_,_,rfl,.inr ⟨_,_,rfl,hp⟩,λ_=>k1'⟩
  |false=>
   simp only[Ac]
   cases k2:(q.Kind==2)with
   |true=>
    obtain⟨p,hp⟩:=taken (Cy.mk 5 q.Vol q.Sector 0) (by
     have:=hq.vol;have:=hq.sec;unfold GL;simp
     omega) (by simp) (by simp) rfl (by show(0:Int)<_;omega)
    exact⟨_,_,_,rfl,.inr ⟨_,_,rfl,hp⟩,a⟩
   |false=>
    simp only[Ac]
    cases k5:(q.Kind==5)with
    |true=>
     obtain⟨p,hp⟩:=taken (Cy.mk 3 q.Vol 0 0) (by
      have:=hq.vol;unfold GL;simp
      omega) (by simp) (by simp) rfl (by show(0:Int)<_;omega)
     exact⟨_,_,_,rfl,.inr ⟨_,_,rfl,hp⟩,a⟩
    |false=>exact⟨_,_,_,rfl,.inl rfl,a⟩
theorem xI (h:BE f):NM f<=10000:=by
 have hl:∀l:List Leaf,(∀x∈l,lfP x)->(l.map Pv).sum<=120*l.length:=by
  intro l
  induction l with
  |nil=>intro _;simp
  |cons x l ih=>
   intro hx;rw[BJ,FG,A7];have:=ih (λy hy=>hx y<|by simp[hy]);have h1:Pv x<=120:=by
    have a:x.Text.size=(L x.Text).length:=by have:=B9 x.Text;unfold FM at this;exact Int.ofNat_inj.1 this
    unfold Pv
    rcases hx x (by simp)with⟨_,e⟩|⟨_,_,e⟩|⟨_,e⟩
    ·rw[a,e];simp
    ·omega
    omega
   omega
 have hb:∀l:List Block,(∀b∈l,Lg b)->(l.map Ky).sum<=500*l.length:=by
  intro l
  induction l with
  |nil=>intro _;simp
  |cons b l ih=>
   intro hx;rw[BJ,FG,A7];have:=ih (λy hy=>hx y<|by simp[hy]);have h1:=hx b (by simp);have h2:=hl b.Leaves h1.leaf;have h4:=h1.four;have hz:Ky b=b.Leaves.length+(b.Leaves.map Pv).sum:=rfl;omega
 have:=hb f.Blocks h.blk;have hn:=h.n;unfold NM zl;omega
theorem wU (h:code.length<=1048576):∃q,SP code=some q/\AA6 q:=by
 unfold SP;obtain⟨c,c1,c2⟩:=AAZ h;obtain⟨d,c',r,d1,d2,d3,_,d4⟩:=X6 c2;obtain⟨q,c'',q1,q2,q3⟩:=AAY d2 d d3.dev.st.len λv hv=>d4.ids (v.Id,Fe d.Store.Arena.Knots v.Root)<|AG.2 ⟨v,hv,rfl⟩;rw[c1,Aa,d1,Aa,q1];exact⟨q,rfl,q3⟩
theorem dW (h:HY d r):SD d<=1048576:=by
 have h1:=xI h.fl;have h2:=h.st.len;have h3:=h.st.small;have a:∀l:List B6,(∀k∈l,k.Kids.length=4)->(l.map UT).sum=4*l.length:=by
  intro l
  induction l with
  |nil=>intro _;rfl
  |cons k l ih=>
   intro hl;rw[BJ,FG,ih (λx hx=>hl x<|by simp[hx]),A7];have:=hl k (by simp);unfold UT;omega
 have h4:=a d.Store.Arena.Knots (λk hk=>by
  obtain⟨i,hi,rfl⟩:=AC hk;have:=(GF.1 h.st.ar i hi).1;rw[Ol hi]at this
  exact this)
 have e1:Ln d.Store=d.Store.Vols.length+(d.Store.Arena.Knots.length+(d.Store.Arena.Knots.map UT).sum):=rfl;have e2:SD d=NM d.Flash+Ln d.Store:=rfl;omega
theorem pH (s:Store) (hv:s.Vols.length<=1048576) (ha:Rb s.Arena):∃l,LB s=some l/\QO s=some l/\l.length<=1+17*s.Vols.length:=by
 unfold LB QO;obtain⟨l,h1,h2,h3⟩:=I4 (body:=λq:List Cy×Int=>Eh s q.1 q.2) (body':=λq:List Cy×Int=>HR s q.1 q.2) (λ(l:List Cy) i=>(l,i)) s.Vols.length (λi l=>l.length<=1+17*i) (λl=>l.length<=1+17*s.Vols.length)
  (λl i hi hl=>by
   have hg:s.Vols[i]?=some s.Vols[i]:=Ab hi;obtain⟨a,a1,a2,a3⟩:=SC s.Arena ha s.Vols[i].Root;have b:ap 32 l [Cy.mk 2 s.Vols[i].Id 0 0]=some (l++ [Cy.mk 2 s.Vols[i].Id 0 0]):=BP (by simp only[A8];omega);simp only[Eh,HR,Ez hi,Aw,hg,Aa,b,a1,a2];obtain⟨u,u1,u2,u3⟩:=I4 (body:=λq:List Cy×Int=>Eg s (i:Int) a q.1 q.2) (body':=λq:List Cy×Int=>HQ s.Vols[i] a q.1 q.2) (λ(l:List Cy) k=>(l,k)) a.length (λk o=>o.length<=l.length+1+k) (λo=>o.length<=l.length+17)
    (λo k hk ho=>by
     have c:a[k]?=some a[k]:=Ab hk;simp only[Eg,HQ,Ez hk,Aw,c,hg,Aa];refine⟨by first|rfl|trivial,?_⟩;rw[ad1]
     cases decide (a[k]>0)with
     |true=>
      simp only[Ae];rw[BP (by simp only[A8];omega)];exact .inl ⟨_,rfl,by simp only[Ai,A8];omega⟩
     |false=>exact .inl ⟨_,rfl,by omega⟩)
    (λo ho=>⟨by simp only[Eg,HQ,Ec],o,by simp only[Eg,Ec],by omega⟩) (s:=l++ [Cy.mk 2 s.Vols[i].Id 0 0]) (by simp)
   have u1':Ap (λq:List Cy×Int=>Eg s (i:Int) a q.1 q.2) (l++ [Cy.mk 2 s.Vols[i].Id 0 0],0)=some u:=u1;have u2':Ap (λq:List Cy×Int=>HQ s.Vols[i] a q.1 q.2) (l++ [Cy.mk 2 s.Vols[i].Id 0 0],0)=some u:=u2;rw[u1',u2',Aa,ad1]
   exact⟨by first|rfl|trivial,.inl ⟨_,rfl,by omega⟩⟩)
  (λl hl=>⟨by simp only[Eh,HR,Ec],l,by simp only[Eh,Ec],hl⟩) (s:=[Cy.mk 1 0 s.Next 0]) (by simp)
 have h1':Ap (λq:List Cy×Int=>Eh s q.1 q.2) ([Cy.mk 1 0 s.Next 0],0)=some l:=h1;have h2':Ap (λq:List Cy×Int=>HR s q.1 q.2) ([Cy.mk 1 0 s.Next 0],0)=some l:=h2;rw[h1',h2'];exact⟨l,rfl,rfl,h3⟩
theorem pG (h:HY d r):∃st ok,M9 d=some (st,ok)/\OX d=some (st,ok)/\(ok=true->1<=st.length)/\st.length<=1048576:=by
 have hf:JW d.Flash:=h.fl.cap;obtain⟨b,r1,r2,r3⟩:=pH d.Store (by have:=h.st.len;omega)<|kI h.st;have hb:=h.st.vs;obtain⟨b1,b2⟩:=gC hb;have e:=Vz h.st;rw[r1]at e
 injection e with e
 subst e;obtain⟨st,ok,w1,w2,w3⟩:=Ps d hf (Lc (By d.Store) d.Store.Next) (by omega)<|bs [];refine⟨st,ok,?_,?_,?_,by omega⟩
 ·unfold M9;rw[r1];simp only[Aa];rw[w1];rfl
 ·unfold OX;rw[r2];simp only[Aa];rw[w2];rfl
 intro ho;subst ho
 rcases Rf h.fl h.seqs (Lc (By d.Store) d.Store.Next) (by unfold Lc;simp) b2 b1 (bs [])with w|⟨steps,T,g,c,q1,q2,q3,q4,q5,q6,q7,q8,q9⟩
 ·rw[w1]at w;cases w
 rw[w1]at q2
 injection q2 with q2
 injection q2 with q2 _
 subst q2;have a:=(Fw q7).2;rw[Ai]at a;have f:(Ct (Jn d<|bs []) d.Tx T).length=T.length:=by unfold Ct;rw[TA]
 omega
theorem dH (hr:GG r):∃l,Ap (λs:List Int×Int=>Kq r s.1 s.2) ([],0)=some l/\l.Nodup/\(∀x,x∈l↔∃y∈r,y.Page.Kind=2/\y.Page.Tx=x)/\l.length<=r.length:=by
 have c:=hr.len;obtain⟨l,h1,h2,h3,h4⟩:=AS (body:=λs:List Int×Int=>Kq r s.1 s.2) (λ(o:List Int) i=>(o,i)) r.length (λi o=>o.Nodup/\(∀x,x∈o↔∃y∈r.take i,y.Page.Kind=2/\y.Page.Tx=x)/\o.length<=i) (λo=>o.Nodup/\(∀x,x∈o↔∃y∈r,y.Page.Kind=2/\y.Page.Tx=x)/\o.length<=r.length)
  (λo i hi ho=>by
   obtain⟨o1,o2,o3⟩:=ho;have hx:=Ab hi;have et:r.take (i+1)=r.take i++ [r[i]]:=by rw[Ao hi]
   refine .inl ?_;simp only[Kq,Ez hi,Aw,hx,Aa];rw[ad1,Y8 o _<|by omega]
   cases hk:(r[i].Page.Kind==2)with
   |false=>
    simp only[Ac,Aa];refine⟨o,rfl,o1,λx=>?_,by omega⟩;rw[o2,et];constructor
    ·rintro⟨y,y1,y2⟩;exact⟨y,AI _ y1,y2⟩
    rintro⟨y,y1,y2,y3⟩;rw[Al,AE]at y1
    rcases y1 with y1|rfl
    ·exact⟨y,y1,y2,y3⟩
    rw[y2]at hk;simp at hk
   |true=>
    have hk':r[i].Page.Kind=2:=by simpa using hk
    simp only[Ae,Aa]
    cases hc:o.contains r[i].Page.Tx with
    |true=>
     have hc':r[i].Page.Tx∈o:=by simpa using hc
     simp only[Ah,Ac];refine⟨o,rfl,o1,λx=>?_,by omega⟩;rw[o2,et];constructor
     ·rintro⟨y,y1,y2⟩;exact⟨y,AI _ y1,y2⟩
     rintro⟨y,y1,y2,y3⟩;rw[Al,AE]at y1
     rcases y1 with y1|rfl
     ·exact⟨y,y1,y2,y3⟩
     rw[<-y3];exact(o2 _).1 hc'
    |false=>
     have hc':r[i].Page.Tx∉o:=by
      intro h;rw[List.contains_iff_mem.2 h]at hc;cases hc
     simp only[AD,Ae];rw[BP (by simp only[A8];omega)];refine⟨_,rfl,?_,λx=>?_,by simp;omega⟩
     ·rw[BR];exact⟨o1,by simp,λa ha b hb e=>by rw[AE]at hb;rw[e,hb]at ha;exact hc' ha⟩
     rw[Al,AE,o2,et];constructor
     ·rintro(⟨y,y1,y2⟩|rfl)
      ·exact⟨y,AI _ y1,y2⟩
      exact⟨r[i],AU _<|AE.2 rfl,hk',rfl⟩
     rintro⟨y,y1,y2,y3⟩;rw[Al,AE]at y1
     rcases y1 with y1|rfl
     ·exact .inl ⟨y,y1,y2,y3⟩
     exact .inr y3.symm)
  (λo ho=>⟨o,by simp only[Kq,Ec],by rw[Bc]at ho;exact ho⟩) (s:=[]) ⟨C7,by simp,by simp⟩
 exact⟨l,h1,h2,h3,h4⟩
theorem uZ {l:List Int} (hr:GG r) (h1:l.Nodup) (h2:∀x,x∈l↔∃y∈r,y.Page.Kind=2/\y.Page.Tx=x):RH l=D0 r:=by
 obtain⟨n1,n2,n3⟩:=Hc r λy hy=>(hr.tx y hy).1;refine Wc ?_ n1 λx=>?_
 ·have hs:(RH l).Pairwise λx y=>x<=y:=by
   have:=List.pairwise_mergeSort (le:=λx y:Int=>decide<|x<=y) (λa b c h1 h2=>by simp at*;omega) (λa b=>by simp;omega) l;unfold RH;exact this.imp λh=>by simpa using h
  have hd:(RH l).Nodup:=by
   unfold RH;exact(List.mergeSort_perm l _).nodup_iff.2 h1
  unfold asc;exact(hs.and hd).imp (λh=>by have:=h.1;have:=h.2;omega)
 rw[n2,<-h2];unfold RH;rw[List.mem_mergeSort]
theorem eY (t:ByteArray) (ht:(L t).length<=20000):∀(n a:Nat) (c:List Cy),(L t).length-a<=n->a<=(L t).length->c.length<=a->Ap (λs:List Cy×Int=>Mo t s.1 s.2) (c,(a:Int))=Ap (λs:List Cy×ByteArray×Int×Bool=>DN t s.1 s.2.1 s.2.2.1 s.2.2.2) (c,t,(a:Int),false)
 |n,a,c,hn,ha,ho=>by
  rw[A0,A0];simp only[DN,Mo];rw[B9];by_cases d:a<(L t).length
  ·rw[Ad (by omega:(a:Int)<((L t).length:Int))];simp only[Ae,Aa,AD];rw[Fl t d,ad1];obtain⟨r1,a1,a2,a3⟩:=IL t ((a+1:Nat):Int) (by omega) ⟨by omega,by omega⟩;have f:oI r1.2.1:=by
    rcases a3 with⟨_,_,e⟩|⟨_,_,b,_,_,e,_,_,e2,_⟩
    ·rw[e];exact⟨by omega,by omega⟩
    rw[e];exact⟨by omega,by omega⟩
   obtain⟨r2,b1,b2,b3⟩:=IL t r1.2.1 (by omega) f;rw[a2,Aa,b2];simp only[Aa];have l1:Dt (EA.mk t ((a+1:Nat):Int) false)=some (if r1.2.2=true then(r1.1,EA.mk t r1.2.1 false)else(0,EA.mk t ((a+1:Nat):Int) true)):=by
    unfold Dt;simp only;rw[a1];cases h:r1.2.2<;>simp[h]
   rw[l1]
   cases h1:r1.2.2 with
   |false=>
    simp only[BB,Fs,Aa,AD,Ae];have l2:Dt (EA.mk t ((a+1:Nat):Int) true)=some (0,EA.mk t ((a+1:Nat):Int) true):=by
     unfold Dt;simp only;rw[a1];simp
    rw[l2];simp only[Aa,Ae]
   |true=>
    simp only[BQ,Aa,Ah,Ac];have l2:Dt (EA.mk t r1.2.1 false)=some (if r2.2.2=true then(r2.1,EA.mk t r2.2.1 false)else(0,EA.mk t r1.2.1 true)):=by
     unfold Dt;simp only;rw[b1];cases h:r2.2.2<;>simp[h]
    rw[l2]
    cases h2:r2.2.2 with
    |false=>
     simp only[BB,Fs,Aa,AD,Ae]
    |true=>
     simp only[BQ,Aa,Ah,Ac];obtain⟨v,c1,c2,_⟩:=bJ<|Cy.mk (qu (IntKind.i64.wrap ((L t)[a].toNat:Int)) 16) (Int.tmod (IntKind.i64.wrap ((L t)[a].toNat:Int)) 16) r1.1 r2.1;rw[c1,c2];simp only[Aa]
     cases v with
     |false=>simp only[AD,Ae]
     |true=>
      simp only[Ah,Ac];rw[BP (by simp;omega)];simp only[Aa]
      rcases b3 with⟨e,_⟩|⟨_,aa,b,m,k1,k2,k3,k4,k5,_⟩
      ·rw[h2]at e;cases e
      rcases a3 with⟨e,_⟩|⟨_,aa',b',m',p1,p2,p3,p4,p5,_⟩
      ·rw[h1]at e;cases e
      rw[k2]
      match n,hn with
      |n+1,hn=>exact eY t ht n b _ (by omega) k5 (by simp;omega)
      |0,hn=>omega
  rw[Af<|by omega];simp only[Ac,Aa]
theorem dE (t:ByteArray) (ht:(L t).length<=20000):QD t=Iw t:=by
 have h:=eY t ht (L t).length 0 [] (by omega) (by omega) (by simp);rw[show((0:Nat):Int)=0 from rfl]at h;unfold QD Iw;rw[h]
def ADR:Page:=Page.mk 0 0 0 0 0<|bs []
theorem fK (r:List Ar) (hl:r.length<=1048576) (t a c:Int) (h:(a=0/\c=0)\/(0<a/\0<c)):Sm r t a c=some (match R5 r t a c with|some y=>(y.Page,true)|none=>(ADR,false)):=by
 have hp:∀y:Ar,(cond (y.Page.Kind==2) (cond (y.Page.Tx==t) (cond (y.Page.Part==a) (cond (c==0) (some true)<|some<|y.Page.Count==c)<|some false)<|some false) (some false):Option Bool)=some (pJ t a c y):=by
  intro y;unfold pJ;cases y.Page.Kind==2<;>cases y.Page.Tx==t<;>cases y.Page.Part==a<;>simp only[Ae,Ac,Bool.false_and,Dn]
  rcases h with⟨rfl,rfl⟩|⟨h1,h2⟩
  ·simp
  rw[show(c==0)=false by simp;omega];simp[h1]
 unfold Sm;obtain⟨b,h1,h2⟩:=AS (body:=λs:Int=>MG r t a c s) (λ(_:Unit) i=>i) r.length (λi _=>∀(j:Nat) x,j<i->r[j]?=some x->pJ t a c x=false) (λb=>match R5 r t a c with|some y=>b= .inr (y.Page,true)|none=>b= .inl ())
  (λ_ i hi hs=>by
   have hx:=Ab hi;simp only[MG,Ez hi,Aw,hx,Aa];rw[hp,ad1];simp only[Aa]
   cases e:pJ t a c r[i]with
   |true=>
    refine .inr ⟨_,rfl,?_⟩;unfold R5;rw[kG r _ hs hx e]
   |false=>
    refine .inl ⟨(),by simp only[Ac],λj x hj d=>?_⟩;by_cases q:j=i
    ·subst q;rw[hx]at d;injection d with d;rw[<-d];exact e
    exact hs j x (by omega) d)
  (λ_ hs=>⟨.inl (),by simp only[MG,Ec],by
   unfold R5
   rw[uM r _ λj x hx=>hs j x (Ag.1 hx).1 hx]⟩) (s:=()) (λj x hj=>by omega)
 rw[h1]
 cases hf:R5 r t a c with
 |none=>rw[hf]at h2;simp only at h2;rw[h2];rfl
 |some y=>rw[hf]at h2;simp only at h2;rw[h2];rfl
theorem AAs (r:List Ar) (hr:GG r) (t:Int) (v:Page×Bool) (hv:1<=v.1.Count/\v.1.Count<=9):∀(n:Nat) (a:Int) (text:ByteArray) (seq:Int),a+n=11->1<=a->a<=v.1.Count->(L text).length<=90*a.toNat->
  ∃b,Ap (λs:ByteArray×Int×Int=>Mj r t v s.1 s.2.1 s.2.2) (text,seq,a)=some b/\(match parts r t n a v.1.Count (L text) seq with
   |none=>b= .inr (Tx.mk 0 0 [],false)
   |some (x,q)=>∃u,b= .inl (u,q)/\L u=x/\(L u).length<=1000)
 |0,a,text,seq,hn,h1,hc,ht=>by omega
 |n+1,a,text,seq,hn,h1,hc,ht=>by
  rw[A0];simp only[Mj,parts];by_cases e:a<v.1.Count
  ·rw[Ad e,Ay (.inr e)];simp only[Ae];rw[fK r hr.len t a v.1.Count (.inr ⟨by omega,by omega⟩)];simp only[Aa]
   cases hf:R5 r t a v.1.Count with
   |none=>
      simp only[AD,Ae];exact⟨_,rfl,rfl⟩
   |some y=>
    simp only[Ah,Ac];have hy:=S3 hf;have d:=hr.text y hy.1;have c:=uE hy.2 (by omega);rw[FU text y.Page.Text (by omega),Aa,C6,c];have es:Oj a seq y=(if y.Page.Seq<seq then y.Page.Seq else seq):=by
     unfold Oj;by_cases q:y.Page.Seq<seq
     ·rw[Ay<|.inr q,Ay q]
     rw[Av (by rintro(h|h);omega;exact q h),Av q]
    rw[es,<-DZ];exact AAs r hr t v hv n (a+1) _ _ (by omega) (by omega) (by omega) (by rw[DZ,Ai];omega)
  rw[Af e,Av (by rintro(h|h);omega;exact e h)];simp only[Ac];exact⟨_,rfl,text,rfl,rfl,by omega⟩
theorem jK (r:List Ar) (hr:GG r) (t:Int):∃x ok,Q3 r t=some (x,ok)/\If r t=(if ok=true then some x else none)/\x.Recs.length<=20000:=by
 unfold Q3 If;rw[fK r hr.len t 0 0<|.inl ⟨rfl,rfl⟩];simp only[Aa]
 have a:parts r t 11 0 0 [] 0=(match R5 r t 0 0 with
  |none=>none
  |some y=>parts r t 10 1 y.Page.Count (L y.Page.Text) y.Page.Seq):=by
  rw[show(11:Nat)=10+1 from rfl];unfold parts;rw[Ay<|.inl rfl]
  cases R5 r t 0 0 with
  |none=>rfl
  |some y=>
   simp only[A6];have:Oj 0 0 y=y.Page.Seq:=by unfold Oj;rw[Ay<|.inl rfl]
   rw[this];rfl
 rw[a]
 cases hf:R5 r t 0 0 with
 |none=>exact⟨_,_,rfl,rfl,by simp⟩
 |some y=>
  simp only[Ah,Ac];have hy:=S3 hf;have c:=hr.text y hy.1;have hc:=hr.cnt y hy.1;obtain⟨b,h1,h2⟩:=AAs r hr t (y.Page,true) hc 10 1 y.Page.Text y.Page.Seq (by omega) (by omega) hc.1 (by omega);rw[h1];simp only[Aa]
  cases hp:parts r t 10 1 y.Page.Count (L y.Page.Text) y.Page.Seq with
  |none=>
   rw[hp]at h2;simp only at h2;rw[h2];exact⟨_,_,rfl,rfl,by simp⟩
  |some w=>
   obtain⟨x,q⟩:=w;rw[hp]at h2;obtain⟨u,rfl,rfl,h4⟩:=h2;simp only[Bz];obtain⟨l,ok,r1,r2,r3⟩:=bK u (by omega);rw[dE u (by omega),r1,AEg,r2];simp only[Aa]
   cases ok with
   |true=>exact⟨_,_,rfl,rfl,r3⟩
   |false=>exact⟨_,_,rfl,rfl,r3⟩
theorem XB (r:List Ar) (hr:GG r):Sz r=some (Bs r):=by
 have c:=hr.len;have a:=Hc r λy hy=>(hr.tx y hy).1;have d:=a.2.2;obtain⟨l,l1,l2,l3,l4⟩:=dH hr;unfold Sz;rw[l1];simp only[Aa];unfold Vl;rw[Ay (by omega),uZ hr l2 l3];simp only[Aa];obtain⟨b,h1,h2⟩:=AS (body:=λs:List Tx×Int=>MM r (D0 r) s.1 s.2) (λ(o:List Tx) i=>(o,i)) (D0 r).length (λi o=>o=((D0 r).take i).filterMap (If r)) (λb=>b=Bs r)
  (λo i hi ho=>by
   have hx:=Ab hi;have et:(D0 r).take (i+1)=(D0 r).take i++ [(D0 r)[i]]:=Ao hi;have e:o.length<=i:=by
    rw[ho];have:=List.length_filterMap_le (If r)<|(D0 r).take i;rw[AW]at this;omega
   simp only[MM,Ez hi,Aw,hx,Aa];rw[ad1];obtain⟨z,ok,k1,k2,k3⟩:=jK r hr (D0 r)[i];rw[k1];simp only[Aa];refine .inl ?_
   cases ok with
   |true=>
    simp only[Ae];rw[BP (by simp only[A8];omega)];refine⟨_,rfl,?_⟩;rw[et,List.filterMap_append,ho];simp only[List.filterMap_cons,List.filterMap_nil,k2,BQ]
   |false=>
    refine⟨o,rfl,?_⟩;rw[et,List.filterMap_append,ho]
    simp[k2])
  (λo ho=>⟨o,by simp only[MM,Ec],by rw[ho,Bc];rfl⟩) (s:=[]) rfl
 rw[h1,h2];rfl
theorem fQ (x:Tx):So x=some (cW x):=by
 unfold So cW
 cases h:x.Recs with
 |nil=>rfl
 |cons q m=>
  rw[Ad (by rw[B4,A7];omega:ln (q::m)>0),show gi (q::m) 0=some q from Aw (i:=0)];rfl
theorem rU (h:HY d r):OS d=Lw d:=by
 have hr:=h.pages;obtain⟨g1,_⟩:=QR hr;unfold OS Lw
 cases(d.Base !=sb d.Tx 1)with
 |true=>rfl
 |false=>
  simp only[Ac];rw[h.scan.s,h.scan.i];simp only[Aa];rw[OI r hr,XB r hr];simp only[Aa];have hb:(λs:Int=>KL d (Bs r) s)=(λs:Int=>G8 d (Bs r) s):=by
   funext s;simp only[KL,G8]
   cases decide (s<ln (Bs r))with
   |false=>rfl
   |true=>
    simp only[Ae]
    cases hg:gi (Bs r) s with
    |none=>rfl
    |some x=>
     simp only[Aa]
     cases(x.Num==d.Base)with
     |false=>rfl
     |true=>
      simp only[Ae,Aa];rw[fQ];unfold cW
      cases hx:x.Recs with
      |nil=>rfl
      |cons q m=>
       rw[Ad (by rw[B4,A7];omega:ln (q::m)>0),show gi (q::m) 0=some q from Aw (i:=0)];rfl
  rw[hb]
theorem dR (h:CB s) (a:List Cy) (hr:a.length<=1048576):QJ s a=JQ s a:=by
 have hl:=h.len;have f:=La h.ar (by have:=h.few;omega);have d:=Gq s f (by omega);have c:=Or s f (by omega);unfold QJ JQ;rw[d,c];simp only[Aa];obtain⟨b,h1,h2,_⟩:=I4 (body:=λq:Int×List Vol×List B6×Int=>Ef s a q.1 q.2.1 q.2.2.1 q.2.2.2) (body':=λq:Int×List Vol×List B6×Int=>HO s a q.1 q.2.1 q.2.2.1 q.2.2.2) (λ(t:Store) i=>(i,t.Vols,t.Arena.Knots,t.Next)) a.length (λ_ t=>CB t) (λ_=>True)
  (λt i hi hP=>by
   have hx:=Ab hi;have g:Store.mk t.Vols (Arena.mk t.Arena.Knots) t.Next=t:=rfl;have e:=aO hP a[i];simp only[Ef,HO,Ez hi,Aw,hx,Aa];rw[g,sO hP];unfold Mi at e;split at e
   ·rw[e];simp only[Aa,AD,Ae];rw[d,c];exact⟨rfl,.inr ⟨_,rfl,trivial⟩⟩
   obtain⟨u,u1,u2,_⟩:=e;rw[u1];simp only[Aa,Ah,Ac];rw[ad1]
   exact⟨by first|rfl|trivial,.inl ⟨u,rfl,u2⟩⟩)
  (λt _=>⟨by simp only[Ef,HO,Ec],.inl (t.Vols,t.Arena.Knots,t.Next),by simp only[Ef,Ec],trivial⟩) (s:=s) h
 have e1:Ap (λq:Int×List Vol×List B6×Int=>Ef s a q.1 q.2.1 q.2.2.1 q.2.2.2) (0,s.Vols,s.Arena.Knots,s.Next)=some b:=h1;have e2:Ap (λq:Int×List Vol×List B6×Int=>HO s a q.1 q.2.1 q.2.2.1 q.2.2.2) (0,s.Vols,s.Arena.Knots,s.Next)=some b:=h2;rw[e1,e2]
theorem ZV (l:List Tx) (hl:l.length<=1048576) (hr:∀x∈l,x.Recs.length<=20000):OT l=some (Dc l):=by
 unfold OT;obtain⟨b,h1,h2⟩:=AS (body:=λs:Int×Int=>IB l s.1 s.2) (λ(o:Int) i=>(o,i)) l.length (λi o=>o=(rX (l.take i):Int)) (λb=>b=(rX l:Int))
  (λo i hi ho=>by
   have hx:=Ab hi;have et:l.take (i+1)=l.take i++ [l[i]]:=Ao hi;have a:(l.take i).length=i:=by rw[AW];omega
   simp only[IB,Ez hi,Aw,hx,Aa];rw[ad1,fQ];simp only[Aa];refine .inl ?_
   cases hb:cW l[i]with
   |true=>exact⟨(i:Int),rfl,by rw[et,Re,Ay hb,a]⟩
   |false=>exact⟨o,rfl,by rw[et,Re,Av (by rw[hb];simp),ho]⟩)
  (λo ho=>⟨o,by simp only[IB,Ec],by rw[ho,Bc]⟩) (s:=0) rfl
 rw[h1,h2];simp only[Aa];have d:=rW l;have hd:dr l (rX l:Int) (ln l)=some (Dc l):=by
  unfold dr;rw[B4,Ay (by omega),Be,Be,AN<|by simp];rfl
 rw[hd];simp only[Aa];obtain⟨b1,b2⟩:=SH l;obtain⟨c,q1,q2⟩:=AS (body:=λs:List Tx×Int=>IA (Dc l) s.1 s.2) (λ(o:List Tx) i=>(o,i)) (Dc l).length (λi o=>o=(Dc l).take i) (λb=>b=Dc l)
  (λo i hi ho=>by
   have hx:=Ab hi;have e:=hr _<|b2 _<|A3 hi;have et:(Dc l).take (i+1)=(Dc l).take i++ [(Dc l)[i]]:=Ao hi;have f:o.length<=1048576:=by rw[ho,AW];omega
   simp only[IA,Ez hi,Aw,hx,Aa];rw[LV (by omega),Aa,BP (by simp only[A8];omega),Aa,ad1]
   exact .inl ⟨_,rfl,by rw[et,<-ho]⟩)
  (λo ho=>⟨o,by simp only[IA,Ec],by rw[ho,Bc]⟩) (s:=[]) rfl
 rw[q1,q2];rfl
theorem jV (h:dO f r):Tj f=some (Db r-1):=by
 have a:=h.len;unfold Tj;rw[h.i];simp only[Aa];obtain⟨b,h1,h2⟩:=AS (body:=λs:Int×Int=>KU r s.1 s.2) (λ(o:Int) i=>(o,i)) r.length (λi o=>o=Db (r.take i)-1) (λb=>b=Db r-1)
  (λo i hi ho=>by
   have hx:=Ab hi;have et:r.take (i+1)=r.take i++ [r[i]]:=Ao hi;simp only[KU,Ez hi,Aw,hx,Aa];rw[ad1];refine .inl ⟨_,rfl,?_⟩;rw[et,Ys,ho];by_cases e:r[i].Page.Seq>=Db (r.take i)
   ·rw[Ay (by omega),Ay e];omega
   rw[Av (by omega),Av e])
  (λo ho=>⟨o,by simp only[KU,Ec],by rw[ho,Bc]⟩) (s:=0) (by simp[Db])
 rw[h1,h2];rfl
theorem rB (r:List Ar) (hr:GG r):Ap (λs:Int×Int=>HN r s.1 s.2) (0,1)=some (DC r):=by
 have a:=hr.len;obtain⟨b,h1,h2⟩:=AS (body:=λs:Int×Int=>HN r s.1 s.2) (λ(o:Int) i=>(i,o)) r.length (λi o=>o=DC (r.take i)) (λb=>b=DC r)
  (λo i hi ho=>by
   have hx:=Ab hi;have ht:=hr.tx _<|A3 hi;have et:r.take (i+1)=r.take i++ [r[i]]:=Ao hi;simp only[HN,Ez hi,Aw,hx,Aa];rw[ad1,C6];refine .inl ?_;by_cases e:r[i].Page.Kind=2
   ·rw[show(r[i].Page.Kind==2)=true by simpa using e];refine⟨_,rfl,?_⟩;rw[et,UZ,ho];by_cases e2:r[i].Page.Tx>=DC (r.take i)
    ·rw[Ay (by omega),Ay ⟨e,e2⟩]
    rw[Av (by omega),Av λhh=>e2 hh.2]
   rw[show(r[i].Page.Kind==2)=false by simpa using e];refine⟨_,rfl,?_⟩
   rw[et,UZ,ho,Av λhh=>e hh.1])
  (λo ho=>⟨o,by simp only[HN,Ec],by rw[ho,Bc]⟩) (s:=1) rfl
 rw[<-h2];exact h1
theorem ZX (l:List Tx) (hl:l.length<=1048576) (hr:∀x∈l,x.Recs.length<=20000):Ap (λs:Int×List Vol×List B6×Int×Int=>GD l s.1 s.2.1 s.2.2.1 s.2.2.2.1 s.2.2.2.2) (0,[],[],1,0)=Ap (λs:Int×List Vol×List B6×Int×Int=>Dz l s.1 s.2.1 s.2.2.1 s.2.2.2.1 s.2.2.2.2) (0,[],[],1,0):=by
 obtain⟨b,h1,h2,_⟩:=I4 (body:=λs:Int×List Vol×List B6×Int×Int=>Dz l s.1 s.2.1 s.2.2.1 s.2.2.2.1 s.2.2.2.2) (body':=λs:Int×List Vol×List B6×Int×Int=>GD l s.1 s.2.1 s.2.2.1 s.2.2.2.1 s.2.2.2.2) (λ(o:Store×Int) i=>(i,o.1.Vols,o.1.Arena.Knots,o.1.Next,o.2)) l.length (λ_ o=>CB o.1) (λ_=>True)
  (λo i hi hP=>by
   obtain⟨t,b0⟩:=o;simp only at hP;have hx:=Ab hi;have d:=hr _<|A3 hi;have c:Store.mk t.Vols (Arena.mk t.Arena.Knots) t.Next=t:=rfl;simp only[Dz,GD,Ez hi,Aw,hx,Aa];rw[c,dR hP _ (by omega),ad1];have a:=Pb hP l[i].Recs (by omega);unfold LH at a;obtain⟨j,hj⟩:∃j,(cond ((i:Int)==0) (some l[i].Num) (some b0):Option Int)=some j:=by
    cases((i:Int)==0)with
    |true=>exact⟨_,rfl⟩
    |false=>exact⟨_,rfl⟩
   rw[hj];simp only[Aa];split at a
   ·rw[a];exact⟨rfl,.inl ⟨(t,j),rfl,hP⟩⟩
   obtain⟨u,u1,u2,_⟩:=a;rw[u1]
   exact⟨rfl,.inl ⟨(u,j),rfl,u2⟩⟩)
  (λo _=>⟨by simp only[Dz,GD,Ec],(o.1.Vols,o.1.Arena.Knots,o.1.Next,o.2),by simp only[Dz,Ec],trivial⟩) (s:=(Store.mk [] (Arena.mk []) 1,0)) eD
 have e1:Ap (λs:Int×List Vol×List B6×Int×Int=>Dz l s.1 s.2.1 s.2.2.1 s.2.2.2.1 s.2.2.2.2) (0,[],[],1,0)=some b:=h1;have e2:Ap (λs:Int×List Vol×List B6×Int×Int=>GD l s.1 s.2.1 s.2.2.1 s.2.2.2.1 s.2.2.2.2) (0,[],[],1,0)=some b:=h2;rw[e1,e2]
theorem TX (hf:BE f):Ov f=CK f:=by
 obtain⟨r,hs,_⟩:=AAS hf;have hr:=W7 hs hf;obtain⟨g1,g2⟩:=QR hr;obtain⟨b1,b2⟩:=SH<|Bs r;have a:=NT r;have b:Db r<=1000000001:=a.2.2 _ (by omega) (λy hy=>by have:=(hr.seq y hy).2;omega);unfold Ov CK;rw[QS,PV hf,hs.s,hs.i,Da f hf.cap,Jg,Da f hf.cap,jV hs];unfold NZ QB;simp only[Aa,Ah,Ac];rw[Vx r hr,rB r hr,OI r hr,XB r hr];simp only[Aa];rw[RN _ g1 g2,ZV _ g1 g2];simp only[Aa];rw[ZX (Dc<|Bs r) (by omega) λx hx=>g2 x<|b2 x hx,C6,show Db r-1+1=Db r by omega]
theorem dN (h:HY d r):Q6 d=L4 d:=by
 have hn:=h.fl.n;obtain⟨live,l1,l2,l3,l4⟩:=H3 h.st;unfold L4 Q6;rw[h.scan.s,l1];simp only[Aa];rw[Nw r live d.Base h.scan.len l4,Nw r live 1000000000 h.scan.len l4];simp only[Aa]
 have c:∀b,live.foldl (cU r) (r.map<|D3 b)=C9 r live b:=λ_=>rfl
 rw[c,c]
 have hi:∀b:Block,Kp b=ER b:=λ_=>rfl
 have step:∀(o:Int×Int) (i:Nat),i<d.Flash.Blocks.length->GC d o.1 o.2 (i:Int)=Dy d r (C9 r live d.Base) (C9 r live 1000000000) o.1 o.2 (i:Int)/\∃o':Int×Int,Dy d r (C9 r live d.Base) (C9 r live 1000000000) o.1 o.2 (i:Int)=some (.inl (o'.1,o'.2,((i+1:Nat):Int))):=by
  intro o i a;have hx:=Ab a;have hP:=h.fl.blk _<|A3 a;have e:KG d.Flash.Blocks[i].Leaves<=4:=by have:=jA d.Flash.Blocks[i].Leaves;rw[hP.four]at this;exact this
  simp only[Dy,GC,Ez a,Aw,hx,Aa];rw[Z7 r _ (i:Int) h.scan.len<|Kl _ _ _,Z7 r _ (i:Int) h.scan.len<|Kl _ _ _,hi,Ix _ hP.four,ad1,(o6 h l1 l2 l4 1000000000 (i:Int)).2,(o6 h l1 l2 l4 d.Base (i:Int)).2];generalize cn r.length (λj=>(C9 r live d.Base)[j]?.getD false&&bk r (i:Int) j)=A;generalize cn r.length (λj=>(C9 r live 1000000000)[j]?.getD false&&bk r (i:Int) j)=C;simp only[Aa]
  cases d.Flash.Blocks[i].Bad with
  |true=>exact⟨rfl,o,rfl⟩
  |false=>
   simp only[AD,Ae,Ac,Aa];by_cases q:KG d.Flash.Blocks[i].Leaves=4
   ·rw[Af (by omega:¬((KG d.Flash.Blocks[i].Leaves:Nat):Int)<4),show(((KG d.Flash.Blocks[i].Leaves:Nat):Int)==4)=true by simp;omega];simp only[Ae,Ac,Aa];by_cases q2:A=C
    ·subst q2;simp only[beq_self_eq_true,Ae];by_cases q3:(A:Int)>=1
     ·rw[Ad q3];simp only[Ae,Aa]
      cases decide ((A:Int)<o.2)with
      |true=>exact⟨by first|rfl|trivial,((i:Int),(A:Int)),rfl⟩
      |false=>exact⟨by first|rfl|trivial,o,rfl⟩
     rw[Af q3];exact⟨by first|rfl|trivial,o,rfl⟩
    rw[show((C:Int)==(A:Int))=false by simp;omega,show((A:Int)==(C:Int))=false by simp;omega];exact⟨rfl,o,rfl⟩
   rw[Ad (by omega:((KG d.Flash.Blocks[i].Leaves:Nat):Int)<4),show(((KG d.Flash.Blocks[i].Leaves:Nat):Int)==4)=false by simp;omega];exact⟨rfl,o,rfl⟩
 obtain⟨v,e1,e2,_⟩:=I4 (body:=λs:Int×Int×Int=>Dy d r (C9 r live d.Base) (C9 r live 1000000000) s.1 s.2.1 s.2.2) (body':=λs:Int×Int×Int=>GC d s.1 s.2.1 s.2.2) (λ(o:Int×Int) i=>(o.1,o.2,i)) d.Flash.Blocks.length (λ_ _=>True) (λ_=>True)
  (λo i a _=>by
   obtain⟨a1,o',a2⟩:=step o i a
   exact⟨a1,.inl ⟨o',a2,trivial⟩⟩)
  (λo _=>⟨by simp only[Dy,GC,Ec],o.1,by simp only[Dy,Ec],trivial⟩) (s:=(-1,4)) trivial
 have e1':Ap (λs:Int×Int×Int=>Dy d r (C9 r live d.Base) (C9 r live 1000000000) s.1 s.2.1 s.2.2) (-1,4,0)=some v:=e1;have e2':Ap (λs:Int×Int×Int=>GC d s.1 s.2.1 s.2.2) (-1,4,0)=some v:=e2;rw[e1',e2']
theorem dU (h:JI d r):QM d=L9 d:=by
 obtain⟨l,d1,d2,_⟩:=dT d<|dW h.dev;obtain⟨st,ok,b1,b2,_⟩:=pG h.dev;obtain⟨live,l1,l2,l3,l4⟩:=H3 h.dev.st
 have hm:∀b,MK d b=Hq d b:=λb=>by
  obtain⟨v,_,v2,v3,_⟩:=bO h.dev h.few l1 l2 l3 l4 b;rw[v2,v3]
 unfold QM L9;rw[d1,d2,rU h.dev,dN h.dev,b1,b2];simp only[hm]
 try rfl
theorem Zl (h:HY d r) (vol k:Int):Oa d vol k=(GU r d.Store vol k):=by
 unfold Oa;rw[h.scan.s];simp only[Aa];cases GU r d.Store vol k<;>rfl
theorem fU {r:Int} (h:CB s) (hr:r∈B3 s):OY s.Arena r=some (Fe s.Arena.Knots r):=by
 obtain⟨l,l1,l2,_⟩:=SC s.Arena (kI h) r;rw[Oc s.Arena (by have:=h.few;omega) h.ar<|h.root r hr]at l1;rw[l2,l1]
theorem dD (ha:CB a) (hb:CB b) (e:By a=By b) (n:a.Next=b.Next):OU a b=some true:=by
 have f:=ha.len;have d:a.Vols.length=b.Vols.length:=by rw[<-IK,<-IK,e]
 unfold OU;rw[show(ln a.Vols !=ln b.Vols)=false by rw[B4,B4,d];simp,show(a.Next !=b.Next)=false by rw[n];simp];simp only[Ac,Aa];obtain⟨q,h1,h2⟩:=AS (body:=λs:Int=>IE a b s) (λ(_:Unit) i=>i) a.Vols.length (λ_ _=>True) (λq=>q= .inl ())
  (λ_ i hi _=>by
   have hx:=Ab hi;have hy:=Ab (show i<b.Vols.length by omega);have c:(By a)[i]?=(By b)[i]? :=by rw[e]
   unfold By at c;rw[AP,AP,hx,hy]at c;simp only[Bx,An,Bo]at c;obtain⟨e1,e2⟩:=c;simp only[IE,Ez hi,Aw,hx,hy,Aa];rw[fU hb (AG.2 ⟨_,A3 (show i<b.Vols.length by omega),rfl⟩),fU ha<|AG.2 ⟨_,A3 hi,rfl⟩,e1,e2];simp only[Aa,bne_self_eq_false,Ac];generalize hR:Fe b.Arena.Knots b.Vols[i].Root=R;have g:R.length=16:=by rw[<-hR];unfold Fe;simp
   obtain⟨z,z1,z2⟩:=AS (body:=λs:Int=>ID R R s) (λ(_:Unit) i=>i) R.length (λ_ _=>True) (λq=>q= .inl ())
    (λ_ k hk _=>by
     have hx:=Ab hk;simp only[ID,Ez hk,Aw,hx,Aa,bne_self_eq_false,Ac];rw[ad1]
     exact .inl ⟨(),rfl,trivial⟩)
    (λ_ _=>⟨_,by simp only[ID,Ec],rfl⟩) (s:=()) trivial
   rw[z1,z2];simp only[Aa,Bz];rw[ad1]
   exact .inl ⟨(),rfl,trivial⟩)
  (λ_ _=>⟨_,by simp only[IE,Ec],rfl⟩) (s:=()) trivial
 rw[h1,h2];rfl
theorem QL (h:HY d r):LM d=some true:=by
 obtain⟨m,m1,m2,m3⟩:=JE h.fl h.sr;obtain⟨e1,e2,e3⟩:=G7 h m2 rfl;unfold LM;rw[TX h.fl,m1];simp only[Aa,Ae];rw[XA h.st,dD m2.st h.st e1 e2];simp only[Aa,Ae];rw[m2.seq,h.seq,m2.tx,h.tx,e3];simp
theorem pC (hf:BE f) (l:List Bh) (hl:l.length<=1048576):∃g n,Kk f l=some (g,n)/\BE g:=by
 unfold Kk;rw[Da f hf.cap];simp only[Aa];obtain⟨b,h1,g,n,h2,h3⟩:=AS (body:=λs:Int×List Block=>Er l s.1 s.2) (λ(o:Flash) i=>(i,o.Blocks)) l.length (λ_ o=>BE o) (λb=>∃g n,(b= .inl g.Blocks/\n=ln l\/b= .inr (g,n))/\BE g)
  (λo i hi ho=>by
   have hx:=Ab hi;have a:Flash.mk o.Blocks=o:=rfl;simp only[Er,Ez hi,Aw,hx,Aa];rw[a]
   rcases Un ho l[i]with⟨k1,k2⟩|⟨_,k2⟩
   ·rw[k2];simp only[Aa,Ah,Ac];rw[ad1];exact .inl ⟨Ka o l[i],rfl,tC ho k1⟩
   rw[k2]
   exact .inr ⟨_,rfl,o,(i:Int),.inr rfl,ho⟩)
  (λo ho=>⟨.inl o.Blocks,by simp only[Er,Ec],o,ln l,.inl ⟨rfl,rfl⟩,ho⟩) (s:=f) hf
 rw[h1]
 rcases h2 with⟨rfl,rfl⟩|rfl
 ·exact⟨g,_,rfl,h3⟩
 exact⟨g,n,rfl,h3⟩
theorem TU (hf:BE d.Flash) (l:List Bh) (hl:l.length<=1048576):Ot d l=H1 d l:=by
 obtain⟨g,n,h1,h2⟩:=pC hf l hl;obtain⟨g',n',h3,h4,_⟩:=sP d.Flash l hf.cap hl;rw[h1]at h3
 injection h3 with h3
 unfold Ot H1;rw[h1,h4,<-h3];simp only[Aa];rw[TX h2]
theorem VZ (h:HY d r):KK d=some d:=by
 unfold KK;rw[Jg,Da d.Flash h.fl.cap,Or d.Store (La h.st.ar (by have:=h.st.few;omega)) (by have:=h.st.len;omega)];rfl
theorem dV (h:JI d r) (hw:GR d.Flash 999999000) (most:Int):QN d most=H4 d most:=by
 unfold QN H4;rw[Mt h.dev,VZ h.dev];simp only[Aa];obtain⟨b,b',h1,h2,d',all,h3,h4⟩:=fL (body:=λs:List Bh×Int×List Block×List Vol×List B6×Int×Int×Int×Int=>EJ most s.1 s.2.1 s.2.2.1 s.2.2.2.1 s.2.2.2.2.1 s.2.2.2.2.2.1 s.2.2.2.2.2.2.1 s.2.2.2.2.2.2.2.1 s.2.2.2.2.2.2.2.2)
  (body':=λs:List Bh×Int×List Block×List Vol×List B6×Int×Int×Int×Int=>HP most s.1 s.2.1 s.2.2.1 s.2.2.2.1 s.2.2.2.2.1 s.2.2.2.2.2.1 s.2.2.2.2.2.2.1 s.2.2.2.2.2.2.2.1 s.2.2.2.2.2.2.2.2)
  (λ(o:List Bh×A9) i=>(o.1,i,o.2.Flash.Blocks,o.2.Store.Vols,o.2.Store.Arena.Knots,o.2.Store.Next,o.2.Seq,o.2.Tx,o.2.Base)) (λ(o:List Bh×A9) i=>(o.1,i,o.2.Flash.Blocks,o.2.Store.Vols,o.2.Store.Arena.Knots,o.2.Store.Next,o.2.Seq,o.2.Tx,o.2.Base)) 20
  (λi o=>o.1.length<=200*i/\(∃r',JI o.2 r')/\GR o.2.Flash (999999000+i))
  (λb b'=>∃(d':A9) (all:List Bh),(b= .inr (d',all)\/b= .inl (all,d'.Flash.Blocks,d'.Store.Vols,d'.Store.Arena.Knots,d'.Store.Next,d'.Seq,d'.Tx,d'.Base))/\b'=(all,d'.Flash.Blocks,d'.Store.Vols,d'.Store.Arena.Knots,d'.Store.Next,d'.Seq,d'.Tx,d'.Base))
  (λo i hi hs=>by
   obtain⟨all,e⟩:=o;obtain⟨c,⟨r',hg⟩,a⟩:=hs;simp only at c hg a;have f:A9.mk (Flash.mk e.Flash.Blocks) (Store.mk e.Store.Vols (Arena.mk e.Store.Arena.Knots) e.Store.Next) e.Seq e.Tx e.Base=e:=rfl;have g:Flash.mk e.Flash.Blocks=e.Flash:=rfl;obtain⟨v,v1,v2,_⟩:=Xe e.Flash hg.dev.fl.cap (by have:=hg.dev.fl.few;omega);simp only[EJ,HP]
   rw[f,g,v1,v2,Ad (by omega:(i:Int)<20),show decide ((i:Int)<(if 20<most then 20 else most))=decide ((i:Int)<most) by
    by_cases q:20<most
    ·rw[Ay q,Ad (by omega),Ad<|by omega]
    rw[Av q]]
   simp only[Ae,Aa];obtain⟨j,hj⟩:∃j,(bif decide ((i:Int)<most)then some (decide<|v<12)else some false:Option Bool)=some j:=by
    cases decide ((i:Int)<most)with
    |true=>exact⟨_,rfl⟩
    |false=>exact⟨_,rfl⟩
   rw[hj];simp only[Aa]
   cases j with
   |false=>exact .inr ⟨_,_,rfl,rfl,e,all,.inr rfl,rfl⟩
   |true=>
    simp only[Ae];obtain⟨steps,ok,c1,c2,_,c3⟩:=bR hg (λx hx=>by have:=a x hx;omega);rw[dU hg,c1];simp only[Aa]
    cases ok with
    |false=>exact .inr ⟨_,_,rfl,rfl,e,all,.inl rfl,rfl⟩
    |true=>
     obtain⟨d',r2,k1,k2,k3⟩:=(c3 rfl).full hg (by omega);simp only[Ah,Ac];rw[TU hg.dev.fl _ (by omega),k1,Aa,BP (by omega),ad1]
     exact .inl ⟨(all++steps,d'),rfl,rfl,by simp;omega,⟨r2,k3.good⟩,λx hx=>by have:=k3.wear _ a x hx;omega⟩)
  (λo hs=>by
   obtain⟨all,e⟩:=o;refine⟨.inl (all,e.Flash.Blocks,e.Store.Vols,e.Store.Arena.Knots,e.Store.Next,e.Seq,e.Tx,e.Base),_,?_,?_,e,all,.inr rfl,rfl⟩
   ·simp only[EJ];rw[Af (by omega:¬((20:Nat):Int)<20)];cases decide (((20:Nat):Int)<most)<;>rfl
   simp only[HP]
   rw[show decide (((20:Nat):Int)<(if 20<most then 20 else most))=false by
    by_cases q:20<most
    ·rw[Ay q,Af<|by omega]
    rw[Av q,Af<|by omega]]
   rfl) (s:=([],d)) ⟨by simp,⟨r,h⟩,λx hx=>by have:=hw x hx;show x.Wear<=999999000+((0:Nat):Int);omega⟩
 have e1:Ap (λs:List Bh×Int×List Block×List Vol×List B6×Int×Int×Int×Int=>EJ most s.1 s.2.1 s.2.2.1 s.2.2.2.1 s.2.2.2.2.1 s.2.2.2.2.2.1 s.2.2.2.2.2.2.1 s.2.2.2.2.2.2.2.1 s.2.2.2.2.2.2.2.2) ([],0,d.Flash.Blocks,d.Store.Vols,d.Store.Arena.Knots,d.Store.Next,d.Seq,d.Tx,d.Base)=some b:=h1;have e2:Ap (λs:List Bh×Int×List Block×List Vol×List B6×Int×Int×Int×Int=>HP most s.1 s.2.1 s.2.2.1 s.2.2.2.1 s.2.2.2.2.1 s.2.2.2.2.2.1 s.2.2.2.2.2.2.1 s.2.2.2.2.2.2.2.1 s.2.2.2.2.2.2.2.2) ([],0,d.Flash.Blocks,d.Store.Vols,d.Store.Arena.Knots,d.Store.Next,d.Seq,d.Tx,d.Base)=some b':=h2;rw[e1,e2,h4]
 rcases h3 with rfl|rfl
 ·rfl
 rfl
theorem ACd (ha:CB a) (hb:CB b) (e:By a=By b) (id:Int):Ds a id=Ds b id:=by
 have g:=ha.len;have h:=hb.len
 have c:∀i:Nat,(a.Vols[i]?).map Vol.Id=(b.Vols[i]?).map Vol.Id:=λi=>by
  have:=BG (λl=>(l[i]?).map Prod.fst) e;unfold By at this;simp only[AP,Option.map_map]at this;exact this
 rcases El a (by omega) id with⟨e1,n1⟩|⟨i,v,e1,g1,h1,k1⟩
 ·rcases El b (by omega) id with⟨e2,_⟩|⟨j,w,e2,g2,h2,_⟩
  ·rw[e1,e2]
  have:=c j;rw[g2]at this;obtain⟨x,x1,x2⟩:=AM.1 this;exact absurd (by rw[x2,h2])<|n1 x<|Aq x1
 rcases El b (by omega) id with⟨e2,n2⟩|⟨j,w,e2,g2,h2,k2⟩
 ·have:=c i;rw[g1]at this;obtain⟨x,x1,x2⟩:=AM.1 this.symm;exact absurd (by rw[x2,h1])<|n2 x<|Aq x1
 have f:i=j:=by
  rcases O5 i j with d|d|d
  ·have:=c i;rw[g1]at this;obtain⟨x,x1,x2⟩:=AM.1 this.symm;exact absurd (by rw[x2,h1])<|k2 i x d x1
  ·exact d
  have:=c j;rw[g2]at this;obtain⟨x,x1,x2⟩:=AM.1 this;exact absurd (by rw[x2,h2])<|k1 j x d x1
 rw[e1,e2,f]
theorem XR {e:A9} {re:List Ar} (h:JI d r) (k:Jr n d r e re) (q:Rv):EP e q=EP d q:=by
 have hv:(ln e.Store.Vols)=ln d.Store.Vols:=by rw[B4,B4,<-IK,<-IK,k.ab]
 have f:=ACd k.good.dev.st h.dev.st k.ab
 have g:((F8 e.Store).bind λv4=>Iy e.Flash v4 q.Text)=(F8 d.Store).bind λv4=>Iy d.Flash v4 q.Text:=by
  obtain⟨l,l1,_,l3,l4⟩:=H3 h.dev.st;obtain⟨m,m1,_,m3,m4⟩:=H3 k.good.dev.st;rw[l1,m1];simp only[Aa];obtain⟨v,v1,v2⟩:=Rj h.dev l4 q.Text;obtain⟨w,w1,w2⟩:=Rj k.good.dev m4 q.Text;rw[v1,w1];congr 1
  have hl:∀c,c∈m↔c∈l:=λc=>by rw[m3,l3,k.ab]
  rcases v2 with⟨rfl,v2⟩|⟨v2,v3⟩
  ·rcases w2 with⟨rfl,_⟩|⟨w2,w3⟩
   ·rfl
   rw[k.text _<|(l3 w).1<|(hl w).1 w2]at w3;exact absurd w3<|v2 w<|(hl w).1 w2
  have a:=(l3 v).1 v2
  rcases w2 with⟨rfl,w2⟩|⟨w2,w3⟩
  ·exact absurd (by rw[k.text _ a];exact v3)<|w2 v<|(hl v).2 v2
  have b:=(l3 w).1<|(hl w).1 w2;rw[k.text _ b]at w3;exact h.data.dist _ _ b a<|by rw[w3,v3]
 unfold EP;simp only[f,hv,k.nx];simp only[<-Option.bind_assoc,g]
theorem XP (h:BE f):Ou f=M2 f:=by
 obtain⟨v,v1,v2,_⟩:=Xe f h.cap (by have:=h.few;omega);rw[v1,v2]
theorem sE (h:JI d r) (hw:GR d.Flash 999999000) (q:Rv):Y4 d q=Mf d q:=by
 unfold Y4 Mf;obtain⟨v,p1,p2,p3⟩:=wS d (dW h.dev) q;rw[VZ h.dev,Mt h.dev,QL h.dev,Nt h.dev,p1,p2];simp only[Aa,Ah,Ac]
 cases a:(v.2.2 !=0)with
 |true=>rfl
 |false=>
  simp only[Ac]
  cases l:(q.Kind==6)with
  |true=>
   have hq:ADH q:=by
    obtain⟨i,j,no⟩:=v;have:no=0:=by simpa using a
    subst this;exact UK h.dev p1
   obtain⟨k,hk⟩:∃k:Nat,q.Sector=(k:Int):=⟨_,(AY hq.sec.1).symm⟩;simp only[Ae];rw[hk,qY h q.Vol (by have:=hq.sec;omega),Zl h.dev]
  |false=>
   simp only[Ac];rw[XP h.dev.fl,dV h hw 20];obtain⟨v5,b⟩:=LW h.dev.fl;rw[b];simp only[Aa];have clean:∃e all re,(cond (decide<|v5<12) ((H4 d 20).bind λv6=>some (v6.2,v6.1.Flash.Blocks,v6.1.Store.Vols,v6.1.Store.Arena.Knots,v6.1.Store.Next,v6.1.Seq,v6.1.Tx,v6.1.Base)) (some ([],d.Flash.Blocks,d.Store.Vols,d.Store.Arena.Knots,d.Store.Next,d.Seq,d.Tx,d.Base)):Option (List Bh×List Block×List Vol×List B6×Int×Int×Int×Int))=some (all,Flash.Blocks<|A9.Flash e,e.Store.Vols,e.Store.Arena.Knots,e.Store.Next,e.Seq,e.Tx,e.Base)/\Jr 20 d r e re:=by
    cases decide (v5<12)with
    |false=>exact⟨d,[],r,rfl,Jr.refl h⟩
    |true=>
     obtain⟨e,all,re,k1,k2,k3,_⟩:=UM h hw 20;simp only[Ae];rw[k1];exact⟨e,all,re,rfl,k2⟩
   obtain⟨e,all,re,k1,k5⟩:=clean;rw[k1];simp only[Aa];have c:A9.mk (Flash.mk e.Flash.Blocks) (Store.mk e.Store.Vols (Arena.mk e.Store.Arena.Knots) e.Store.Next) e.Seq e.Tx e.Base=e:=rfl;have f:Flash.mk e.Flash.Blocks=e.Flash:=rfl;rw[c,f,XR h k5 q,p1,XP k5.good.dev.fl];simp only[Aa];obtain⟨st,ok,w1,w2,w3⟩:=Ps e k5.good.dev.fl.cap v.1 (by omega) v.2.1;obtain⟨v9,g⟩:=LW k5.good.dev.fl;rw[w1,w2,g];simp only[Aa];rw[TU k5.good.dev.fl st<|by omega];cases ok<;>cases decide (v9<8)<;>rfl
structure AAR (d:A9) (r:List Ar) (q:Rv) (d':A9) (steps:List Bh) (t:ByteArray) (no:Int) (r':List Ar):Prop where
 good:JI d' r'
 walk:Steps d.Flash steps d'.Flash
 len:steps.length<=4010
 text:q.Kind≠6\/no≠0->t=bs []
 kept:no≠0->By d'.Store=By d.Store/\d'.Store.Next=d.Store.Next
 read:q.Kind=6->steps=[]/\(no=0->∃ok,Oa d q.Vol q.Sector=some (t,ok))
 done:no=0->q.Kind≠6->∃recs text s,EP d q=some (recs,text,0)/\JQ d.Store recs=some (s,true)/\CB s/\By d'.Store=By s/\d'.Store.Next=s.Next
theorem ACl (h:JI d r) (hw:GR d.Flash 999999000) (m:d.Store.Next<1000000000) (q:Rv):∃d' steps t no r',Mf d q=some (d',steps,t,no)/\AAR d r q d' steps t no r':=by
 unfold Mf;rw[Mt h.dev,Nt h.dev];simp only[Aa,Ah,Ac];obtain⟨f,b,no,p1,p2,p3⟩:=Wf h.dev q;obtain⟨recs',text',no',t1,t2,_⟩:=AAW h.dev m q;rw[p1]at t1
 injection t1 with t1
 obtain⟨rfl,rfl,rfl⟩:f=recs'/\b=text'/\no=no':=by injection t1 with e1 e2;injection e2 with e2 e3;exact⟨e1,e2,e3⟩
 rw[p1];simp only[Aa]
 cases g:(no !=0)with
 |true=>
  have hn:no≠0:=by simpa using g
  exact⟨_,_,_,_,r,rfl,⟨h,rfl,by simp,λ_=>rfl,λ_=>⟨rfl,rfl⟩,λ_=>⟨rfl,λe=>absurd e hn⟩,λe=>absurd e hn⟩⟩
 |false=>
  have n:no=0:=by simpa using g
  subst n;have hq:=UK h.dev p1;simp only[Ac]
  cases i:(q.Kind==6)with
  |true=>
   have hk:q.Kind=6:=by simpa using i
   simp only[Ae];obtain⟨k,o⟩:∃k:Nat,q.Sector=(k:Int):=⟨_,(AY hq.sec.1).symm⟩;obtain⟨u,ok,u1⟩:∃u ok,Oa d q.Vol q.Sector=some (u,ok):=by
    rw[Zl h.dev,o]
    rcases Xp h q.Vol (k:=k) (by have:=hq.sec;omega)with⟨_,e⟩|⟨h6,c,_,_,_,⟨_,e⟩|⟨_,_,u,_,e⟩⟩<;>exact⟨_,_,e⟩
   rw[u1];simp only[Aa]
   cases ok with
   |false=>exact⟨_,_,_,_,r,rfl,⟨h,rfl,by simp,λ_=>rfl,λ_=>⟨rfl,rfl⟩,λ_=>⟨rfl,λe=>by cases e⟩,λe=>by cases e⟩⟩
   |true=>exact⟨_,_,_,_,r,rfl,⟨h,rfl,by simp,λe=>by rcases e with e|e;exact absurd hk e;exact absurd rfl e,λe=>absurd rfl e,λ_=>⟨rfl,λ_=>⟨true,u1⟩⟩,λ_ e=>absurd hk e⟩⟩
  |false=>
   have hk:q.Kind≠6:=by simpa using i
   simp only[Ac];obtain⟨v5,v⟩:=LW h.dev.fl;rw[v];simp only[Aa];have clean:∃e all re,(cond (decide<|v5<12) ((H4 d 20).bind λv6=>some (v6.2,v6.1.Flash.Blocks,v6.1.Store.Vols,v6.1.Store.Arena.Knots,v6.1.Store.Next,v6.1.Seq,v6.1.Tx,v6.1.Base)) (some ([],d.Flash.Blocks,d.Store.Vols,d.Store.Arena.Knots,d.Store.Next,d.Seq,d.Tx,d.Base)):Option (List Bh×List Block×List Vol×List B6×Int×Int×Int×Int))=some (all,Flash.Blocks<|A9.Flash e,e.Store.Vols,e.Store.Arena.Knots,e.Store.Next,e.Seq,e.Tx,e.Base)/\Jr 20 d r e re/\all.length<=4000/\Steps d.Flash all e.Flash:=by
    cases decide (v5<12)with
    |false=>exact⟨d,[],r,rfl,Jr.refl h,by simp,rfl⟩
    |true=>
     obtain⟨e,all,re,k1,k2,k3,k4,_⟩:=UM h hw 20;simp only[Ae];rw[k1];exact⟨e,all,re,rfl,k2,k3,k4⟩
   obtain⟨e,all,re,k1,k5,k4,k3⟩:=clean;rw[k1];simp only[Aa];have z:A9.mk (Flash.mk e.Flash.Blocks) (Store.mk e.Store.Vols (Arena.mk e.Store.Arena.Knots) e.Store.Next) e.Seq e.Tx e.Base=e:=rfl;have h0:Flash.mk e.Flash.Blocks=e.Flash:=rfl;have k2:=k5.good;have j:=XR h k5 q;rw[z,h0,j,p1];simp only[Aa];have stay:AAR d r q e all (bs []) 4 re:=⟨k2,k3,by omega,λ_=>rfl,λ_=>⟨k5.ab,k5.nx⟩,λhh=>absurd hh hk,λhh=>by cases hh⟩;obtain⟨v9,h1⟩:=LW k2.dev.fl;obtain⟨st,ok,w1,_,w3⟩:=Ps e k2.dev.fl.cap f (by rcases p2 with⟨rfl,_⟩|⟨_,x,rfl,_⟩<;>simp) b;rw[w1,h1];simp only[Aa]
   cases h2:ok with
   |false=>exact⟨_,_,_,_,re,rfl,stay⟩
   |true=>
    subst h2;simp only[Ah,Ac,Aa]
    cases decide (v9<8)with
    |true=>exact⟨_,_,_,_,re,rfl,stay⟩
    |false=>
     simp only[Ac]
     rcases p2 with⟨rfl,rfl⟩|⟨_,x,rfl,p4⟩
     ·have h3:DS e [] (bs [])=some ([],true):=rfl;rw[h3]at w1
      injection w1 with w1
      injection w1 with w1 _
      subst w1;obtain⟨d',u1,u2,u3⟩:=JE k2.dev.fl k2.dev.sr;obtain⟨e1,e2,_⟩:=G7 k2.dev u2 rfl;rw[Np k2.dev (steps:=[]) rfl (by simp) u1,Aa,BP (by simp;omega)];have a:=Pb h.dev.st [] (by simp);have l:CM (By d.Store) d.Store.Next []=some (By d.Store,d.Store.Next):=rfl;unfold LH at a;rw[l]at a;obtain⟨s,s1,s2,s3,s4⟩:=a;exact⟨_,_,_,_,re,rfl,⟨⟨u2,k2.core,by rw[e1];exact k2.data⟩,by rw[A4,u3];exact k3,by simp;omega,λ_=>rfl,λhh=>absurd rfl hh,λhh=>absurd hh hk,λ_ _=>⟨_,_,s,p1,s1,s2,by rw[e1,k5.ab,s3],by rw[e2,k5.nx,s4]⟩⟩⟩
     obtain⟨recs2,text2,no2,s1,s2,_⟩:=Wf k2.dev q;rw[j,p1]at s1
     injection s1 with s1
     obtain⟨rfl,rfl,rfl⟩:[x]=recs2/\b=text2/\0=no2:=by injection s1 with e1 e2;injection e2 with e2 e3;exact⟨e1,e2,e3⟩
     have h4:zH e re q x b:=by
      rcases s2 with⟨s2,_⟩|⟨_,y,s2,s3⟩
      ·cases s2
      injection s2 with s2 _
      rw[s2];exact s3
     rcases sU k2 h4 with w|⟨steps,d',r',a1,a2,a3,a4,a5,_,_,_,_,a8,_⟩
     ·rw[w]at w1
      injection w1 with w1
      injection w1 with _ w1
      cases w1
     rw[a1]at w1
     injection w1 with w1
     injection w1 with w1 _
     subst w1;rw[a3,Aa,BP<|by omega];have a:=Pb h.dev.st [x] (by simp);unfold LH at a;obtain⟨p,hp⟩:∃p,DA (By d.Store) d.Store.Next x=some p:=by
      rcases t2 with t2|⟨x',p,t2,t3⟩
      ·cases t2
      injection t2 with t2 _
      subst t2;exact⟨p,t3⟩
     have h5:CM (By d.Store) d.Store.Next [x]=some p:=by rw[FC,hp];rfl
     rw[h5]at a;rw[k5.ab,k5.nx,hp,Bl]at a5;obtain⟨s,s1,s2,s3,s4⟩:=a;have e1:=BG Prod.fst a5;have e2:=BG Prod.snd a5;simp only at e1 e2;exact⟨_,_,_,_,r',rfl,⟨a4,(NJ _ _ _ _).2 ⟨_,k3,a8⟩,by simp;omega,λ_=>rfl,λhh=>absurd rfl hh,λhh=>absurd hh hk,λ_ _=>⟨_,_,s,p1,s1,s2,by rw[e1,s3],by rw[e2,s4]⟩⟩⟩
theorem o5 {c:List Cy} {e:ByteArray} (hp:EP d q=some (c,e,no)):no≠5:=by
 have fin:∀{a:List Cy} {b:ByteArray} {n:Int},some (a,b,n)=some (c,e,no)->n≠5->no≠5:=λh hn=>by
  injection h with h
  injection h with _ h
  injection h with _ h
  rw[<-h];exact hn
 unfold EP at hp;obtain⟨v1,_,hp⟩:=Aj.1 hp
 cases v1 with
 |false=>exact fin hp<|by omega
 |true=>
  simp only[Ah,Ac]at hp;obtain⟨v2,_,hp⟩:=Aj.1 hp;obtain⟨j1,_,hp⟩:=Aj.1 hp
  cases j1 with
  |true=>
   simp only[Ae]at hp;cases h2:decide (v2>=0)<;>rw[h2]at hp
   ·simp only[Ac]at hp;obtain⟨j2,_,hp⟩:=Aj.1 hp
    cases j2 with
    |true=>exact fin hp<|by omega
    |false=>
     simp only[Ac]at hp;cases h3:decide (ln d.Store.Vols>=3)<;>rw[h3]at hp<;>exact fin hp<|by omega
   exact fin hp<|by omega
  |false=>
   simp only[Ac]at hp;cases h2:decide (v2>=0)<;>rw[h2]at hp
   ·exact fin hp<|by omega
   simp only[Ah,Ac]at hp;cases h3:(q.Kind==1)<;>rw[h3]at hp
   ·simp only[Ac]at hp;cases h4:(q.Kind==2)<;>rw[h4]at hp
    ·simp only[Ac]at hp;cases h5:(q.Kind==5)<;>rw[h5]at hp<;>exact fin hp<|by omega
    exact fin hp<|by omega
   simp only[Ae]at hp;obtain⟨v4,_,hp⟩:=Aj.1 hp;obtain⟨v5,_,hp⟩:=Aj.1 hp;obtain⟨j3,_,hp⟩:=Aj.1 hp;exact fin hp<|by omega
theorem sF {d':A9} {ss:List Bh} {t:ByteArray} (hd:Ob d=some true) (h:Mf d q=some (d',ss,t,no)):no≠5:=by
 have fin:∀{a:A9} {b:List Bh} {c:ByteArray} {n:Int},some (a,b,c,n)=some (d',ss,t,no)->n≠5->no≠5:=λh hn=>by
  injection h with h
  injection h with _ h
  injection h with _ h
  injection h with _ h
  rw[<-h];exact hn
 unfold Mf at h;obtain⟨v1,_,h⟩:=Aj.1 h;rw[hd,Aa]at h;simp only[Ah,Ac]at h;obtain⟨v3,hp,h⟩:=Aj.1 h;cases h2:(v3.2.2 !=0)<;>rw[h2]at h
 ·simp only[Ac]at h;cases h3:(q.Kind==6)<;>rw[h3]at h
  ·simp only[Ac]at h;obtain⟨v5,_,h⟩:=Aj.1 h;obtain⟨j1,_,h⟩:=Aj.1 h;obtain⟨v7,_,h⟩:=Aj.1 h;obtain⟨v8,_,h⟩:=Aj.1 h;obtain⟨j2,_,h⟩:=Aj.1 h
   cases j2 with
   |true=>exact fin h<|by omega
   |false=>
    simp only[Ac]at h;obtain⟨_,_,h⟩:=Aj.1 h;obtain⟨_,_,h⟩:=Aj.1 h;exact fin h<|by omega
  simp only[Ae]at h;obtain⟨v4,_,h⟩:=Aj.1 h;cases h4:v4.2<;>rw[h4]at h<;>exact fin h<|by omega
 exact fin h<|o5 hp
theorem AB4 {y:Int} (h:BE f) (hy:y∈Kr f):∃i:Nat,∃x,y=(i:Int)/\f.Blocks[i]?=some x/\x.Bad=false/\KG x.Leaves=0:=by
 unfold Kr at hy;obtain⟨i,hi,rfl⟩:=AG.1 hy;obtain⟨a,b⟩:=Bf.1 hi;rw[Hm]at a;unfold On at b;rw[Ab a]at b;simp only[Ak,CG,A5]at b;have hP:=h.blk _<|A3 a;have:=hP.nb;have:=hP.four;exact⟨i,_,rfl,Ab a,b.1,by omega⟩
theorem tT:∀(i:Int) (l:List Block) (n:Nat) (x y:Block),l[n]?=some x->y.Leaves=x.Leaves->Jq i (l.set n y)=Jq i l
 |_,[],n,x,y,h,_=>by simp at h
 |i,b::l,0,x,y,h,e=>by
  simp only[DJ,An]at h;rw[Dr,Jq,Jq,e,h]
 |i,b::l,n+1,x,y,h,e=>by
  rw[JG,Jq,Jq,tT (i+1) l n x y (by simpa using h) e]
theorem gE {x:Block} (hx:x.Bad=true):∀{f:Flash} {ss:List Bh} {g:Flash},Steps f ss g->f.Blocks[n]?=some x->g.Blocks[n]?=some x/\∀s∈ss,s.Block≠(n:Int)
 |f,[],g,h,hf=>by rw[show g=f from h];exact⟨hf,λs hs=>by cases hs⟩
 |f,s::ss,g,h,hf=>by
  obtain⟨h1,h2⟩:=h;have b:s.Block≠(n:Int):=by
   intro e
   have:∀y,gi f.Blocks s.Block=some y->y.Bad=true:=λy hy=>by
    rw[e,Aw,hf]at hy
    injection hy with hy
    rw[<-hy];exact hx
   rcases h1 with⟨_,y,y1,y2,_⟩|⟨_,y,y1,y2,_⟩
   ·rw[this y y1]at y2;cases y2
   rw[this y y1]at y2;cases y2
  have set_ne:∀(z:Block),(si f.Blocks s.Block z)[n]?=some x:=λz=>by
   by_cases e:0<=s.Block
   ·obtain⟨c,hc⟩:∃c:Nat,s.Block=(c:Int):=⟨_,(AY e).symm⟩;rw[hc,E8,List.getElem?_set_ne<|by omega];exact hf
   rcases h1 with⟨_,y,y1,_⟩|⟨_,y,y1,_⟩<;>exact absurd (CQ y1).1 e
  have a:(Ka f s).Blocks[n]?=some x:=by
   unfold Ka;by_cases k:s.Kind=1
   ·rw[Ay k];unfold Uv
    cases gi f.Blocks s.Block with
    |none=>exact hf
    |some y=>exact set_ne _
   rw[Av k];unfold TC
   cases gi f.Blocks s.Block with
   |none=>exact hf
   |some y=>exact set_ne _
  obtain⟨k1,k2⟩:=gE hx h2 a;refine⟨k1,λt ht=>?_⟩
  rcases CC.1 ht with rfl|ht
  ·exact b
  exact k2 t ht
theorem VT (hs:code.length<=1048576):Jt code=some true:=by
 obtain⟨d,r,d1,d2,d3,d4⟩:=kZ hs;obtain⟨q,q1,q2⟩:=wU hs;unfold Jt;have hb:YN code=some false:=by
  unfold YN;rw[B4,Af<|by omega]
 rw[hb];simp only[Aa,Ac];rw[d1];rw[Aa,(Pu d.Flash d2.dev.fl.cap).1];simp only[Aa]
 cases hz:(ln (Kr d.Flash)==0)with
 |true=>
  simp only[Ae];rw[QL d2.dev];rfl
 |false=>
  simp only[Ac];obtain⟨p,p1,p2,p3⟩:=kY hs;rw[p1];simp only[Aa];have e:gi p 0=some p[0]:=by
   have:=Aw (l:=p) (i:=0);rw[Ab<|by omega]at this;exact this
  rw[e];simp only[Aa];have c:0<ln (Kr d.Flash):=by
   rw[B4]at hz⊢;have:((Kr d.Flash).length:Int)≠0:=by simpa using hz
   omega
  obtain⟨v,v1,v2,v3⟩:=AC3 (p3 _<|A3<|show 0<p.length by omega).1 c;rw[v1];simp only[Aa];obtain⟨k,rfl⟩:∃k:Nat,v=(k:Int):=⟨_,(AY v2).symm⟩;rw[B4]at v3;rw[Aw,Ab<|show k<(Kr d.Flash).length by omega];simp only[Aa];obtain⟨n,x,e1,e2,e3,e4⟩:=AB4 d2.dev.fl (A3<|show k<(Kr d.Flash).length by omega);rw[e1];have hn:=(Ag.1 e2).1;have o:=d2.dev.fl.n;have hP:=d2.dev.fl.blk x<|Aq e2;have a:SN d.Flash (n:Int)=some (Flash.mk<|d.Flash.Blocks.set n<|Block.mk true x.Wear x.Leaves):=by
   unfold SN;rw[Da d.Flash d2.dev.fl.cap,EB,B4,Cj,Ad<|by omega];simp only[Aa,Ae];rw[Aw,e2];rw[Aa,E8]
  rw[a];simp only[Aa];generalize hg:Flash.mk (d.Flash.Blocks.set n<|Block.mk true x.Wear x.Leaves)=g;have b:g.Blocks=d.Flash.Blocks.set n (Block.mk true x.Wear x.Leaves):=by rw[<-hg]
  have gP:BE g:=by rw[<-hg];exact Pa d2.dev.fl ⟨hP.four,hP.wear,hP.leaf,hP.turn⟩
  have gpg:Jq 0 g.Blocks=Jq 0 d.Flash.Blocks:=by rw[b];exact tT 0 _ n x _ e2 rfl
  have gx:g.Blocks[n]?=some (Block.mk true x.Wear x.Leaves):=by rw[b,List.getElem?_set_self hn]
  have gw:GR g 999999000:=λy hy=>by
   rw[b]at hy
   rcases Cf hy with hy|rfl
   ·have:=d4.wear y hy;omega
   have:=d4.wear x<|Aq e2;show x.Wear<=_;omega
  obtain⟨m,m1,m2,m3⟩:=JE gP (r:=r) (by rw[gpg];exact d2.dev.sr);obtain⟨a1,a2,_⟩:=G7 d2.dev m2 rfl;have gm:JI m r:=⟨m2,d2.core,by rw[a1];exact d2.data⟩;rw[m1];rw[Aa,q1];simp only[Aa];obtain⟨d',steps,t,no,r',s1,s2⟩:=ACl gm (by rw[m3];exact gw) (by rw[a2];omega) q;rw[sE gm (by rw[m3];exact gw) q,s1];simp only[Aa];have j:=s2.len;obtain⟨b1,b2⟩:=gE (n:=n) (x:=Block.mk true x.Wear x.Leaves) rfl s2.walk (by rw[m3];exact gx);obtain⟨w,w1,w2⟩:=AS (body:=λs:Int=>GS (n:Int) (steps,no,d'.Flash.Blocks,d'.Store.Vols,d'.Store.Arena.Knots,d'.Store.Next,d'.Seq,d'.Tx,d'.Base) s) (λ(_:Unit) i=>i) steps.length (λ_ _=>True) (λw=>w= .inl ())
   (λ_ i hi _=>by
    have hx:=Ab hi;simp only[GS,Ez hi,Aw,hx,Aa];rw[show(steps[i].Block==(n:Int))=false by rw[Df];exact b2 _<|A3 hi,Ac,ad1]
    exact .inl ⟨(),rfl,trivial⟩)
   (λ_ _=>⟨_,by simp only[GS,Ec],rfl⟩) (s:=()) trivial
  rw[w1,w2];simp only[Aa,Bz,Ae];have f:A9.mk (Flash.mk d'.Flash.Blocks) (Store.mk d'.Store.Vols (Arena.mk d'.Store.Arena.Knots) d'.Store.Next) d'.Seq d'.Tx d'.Base=d':=rfl;rw[f,XN m2.st d2.dev.st,Ad ⟨a1,a2⟩,QL s2.good.dev];simp only[Aa,Ae];rw[Aw,b1];rw[Aa,Ix (Block.mk true x.Wear x.Leaves) hP.four];simp only[Aa];have h:=sF (Nt gm.dev) s1;rw[show((KG x.Leaves:Nat):Int)=0 by omega];simp[h]
theorem fnBadBlocks_true (code:List Int) (hc:ol (oK .u8) code):Jt code=some true:=by
 by_cases h:code.length<=1048576
 ·exact VT h
 unfold Jt;have hb:YN code=some true:=by
  unfold YN;rw[B4,Ad<|by omega]
 rw[hb];rfl
end Go.TI
