/- What is told of a drawn life, spoilt or not, is what the document tells. No condition; no program is in sight. -/
import Derived.Test.YtogblbgocmfigaaGreatWAP2
set_option linter.unusedVariables false
set_option linter.unusedSimpArgs false
namespace Go.TI
open Go
def ABn (b:Int) (nd:List Bool) (r:List Al):Nat->Nat->List Al
 |0,_=>[]
 |n+1,i=>LE b (i:Int) nd r++ABn b nd r n (i+1)
theorem ABm (b i:Int) (nd:List Bool) (r:List Al):(LE b i nd r).length<=r.length:=by
 unfold LE
 grind
variable {r r' re:List Al} {d e:Device} {f:Flash} {s a b:Store} {k n i:Nat} {ss:List AH} {q:Ask} {M:List Shelf} {y:Al} {l code:List Int} {v:Vol} {t:ByteArray} {p:Int×List Int} {vol:Int} {α:Type} {w:World}
theorem xO {nd:List Bool} (hr:r.length<=40) (hk:∀y∈r,y.Page.Kind=1->y.Page.Count=1/\y.Page.Part=0) (c:nd.length=r.length) (hn:∀(j:Nat) y,r[j]?=some y->nd[j]?=some true->y.Page.Kind=1) (b:Int):∀(n i:Nat),i+n=4->∀{m:Nat} {o:MvS},MvI m o->m+n*40<=1000->
  Ah (λs:List AH×Int×Int×List Block=>Ft b r nd s.1 s.2.1 s.2.2.1 s.2.2.2) (o.2.1,o.1,(i:Int),o.2.2)=(mv b (ABn b nd r n i) o).map λq=>match q with
   |some o'=> .inl o'.2.1
   |none=> .inr ([],false)
 |0,i,hi,m,o,ho,hm=>by
  rw[Ay];simp only[Ft];rw[cF];rfl
 |n+1,i,hi,m,o,ho,hm=>by
  rw[Ay];simp only[Ft];rw[cT];have a:=xU hr hk c hn b (i:Int) r.length 0 (by omega) ho (by omega);simp only[List.drop_zero]at a;rw[show((0:Nat):Int)=0 from rfl]at a;rw[a];have d:=ABm b (i:Int) nd r;obtain⟨v,v1,v2⟩:=AB0 (b:=b) (LE b (i:Int) nd r) ho (by omega);have es:ABn b nd r (n+1) i=LE b (i:Int) nd r++ABn b nd r n (i+1):=rfl;rw[es,AB1,v1]
  cases v with
  |none=>rfl
  |some o'=>
   rw[ad1];exact xO hr hk c hn b n (i+1) (by omega) (v2 o' rfl)<|by omega
theorem zC (d:Device) (b:Int) (X:List Al) (hX:X.length<=100) (hd:0<=d.Seq/\d.Seq<=1000000001):∀(n i:Nat),i+n=X.length->∀{m:Nat} {o:MvS},MvI m o->m+n<=1000->o.1=d.Seq+i->
  Ah (λs:Int×List Block×List AH=>I9 d b X s.1 s.2.1 s.2.2) ((i:Int),o.2.2,o.2.1)=(mv b (X.drop i) o).map λq=>match q with
   |some o'=> .inl (o'.2.2,o'.2.1)
   |none=> .inr ([],false)
 |0,i,hi,m,o,ho,hm,hs=>by
  rw[Ay];simp only[I9,Fv];rw[cF,List.drop_of_length_le (by omega)];rfl
 |n+1,i,hi,m,o,ho,hm,hs=>by
  have a:i<X.length:=by omega
  have hx:=Ab a;rw[Ay];simp only[I9,Ds a,Aq,hx,Aa];rw[Cl,<-hs,AD a];have ep:Page.mk 1 o.1 X[i].Page.Tx 0 1 X[i].Page.Text=fT o.1 X[i]:=rfl;rw[ep]
  rcases uP (b:=b) (y:=X[i]) ho (by omega)with⟨s,g',a1,a2,a3,a4,a5⟩|⟨a1,⟨w,a2⟩,_⟩
  ·rw[a5,a3];rw[ad1];exact zC d b X hX hd n (i+1) (by omega) a4 (by omega)<|by omega
  grind
theorem i7 {x:Al} (h:Hb d r) (hx:x∈r) (hy:y∈r) (hb:x.Block=y.Block) (hl:x.Leaf=y.Leaf):x=y:=by
 obtain⟨b,l,g1,g2,_,g3⟩:=h.scan.page x hx;obtain⟨b',l',k1,k2,_,k3⟩:=h.scan.page y hy;rw[hb,k1]at g1
 injection g1 with g1
 subst g1;rw[hl,k2]at g2
 injection g2 with g2
 subst g2;rw[k3]at g3
 injection g3 with g3
 cases x;cases y
 grind
theorem AAo (h:Hb d r) (hy:y∈r):0<=y.Leaf/\y.Leaf<4:=by
 obtain⟨b,l,g1,g2,_,g3⟩:=h.scan.page y hy;obtain⟨_,k1⟩:=Ct g1;obtain⟨q0,k2⟩:=Ct g2;have:=(h.fl.blk b<|Aj k1).four
 grind
theorem eO (h:Hb d r) (m:r.length<=40) {live:List Int} (l1:EK d.Store=some live) (l2:asc live) (l3:∀x,x∈live↔Dz (AF d.Store) x) (l4:live.length<=16777216) (b:Int):
  ∃v,mv b (QJ b (C1 r live 1000000001) r) (d.Seq,[],d.Flash.Blocks)=some v/\Hk d b=some (match v with|some o=>(o.2.1,true)|none=>([],false))/\Nh d b=some (match v with|some o=>(o.2.1,true)|none=>([],false))/\
  (QJ b (C1 r live 1000000001) r).length=(KG r b live).length/\(QJ b (C1 r live 1000000001) r).length<=4/\∀y,y∈QJ b (C1 r live 1000000001) r↔y∈KG r b live:=by
 have n:=h.pages;have w:1<=d.Seq/\d.Seq<=1000000001:=by
  rw[h.seq];have h1:=Ow r;refine⟨h1.2.1,h1.2.2 _ (by omega) λy hy=>?_⟩;have:=(n.seq y hy).2;omega
 have hk:∀y∈r,y.Page.Kind=1->y.Page.Count=1/\y.Page.Part=0:=by
  intro y hy k1;obtain⟨_,_,_,c1,c2,_,c3⟩:=AD2 h hy;omega
 have hn:∀(j:Nat) y,r[j]?=some y->(C1 r live 1000000001)[j]?=some true->y.Page.Kind=1:=λj y hy hj=>(bX h l3 hy hj).1
 have f:∀(j:Nat) y,r[j]?=some y->(C1 r live 1000000001)[j]?=some true->Sm y.Page.Tx r r.length=some j/\y.Page.Tx∈live:=by
  intro j y hy hj;rw[Qi r live _ hy]at hj
  injection hj with hj
  rw[Gw]at hj
  rcases hj with hj|hj
  ·simp only[D5,Ap,HW,Bi]at hj;have:=(n.tx y<|Aj hy).2;omega
  grind [PW,Jm]
 have hm:∀y,y∈QJ b (C1 r live 1000000001) r↔y∈KG r b live:=by
  intro y;have e1:y∈QJ b (C1 r live 1000000001) r↔(∃j:Nat,r[j]?=some y/\(C1 r live 1000000001)[j]?=some true)/\y.Block=b:=by
   unfold QJ;simp only[A8,aP];constructor
   ·grind
   rintro⟨⟨j,q1,q2⟩,q3⟩;have:=AAo h<|Aj q1
   grind
  rw[e1];constructor
  ·rintro⟨⟨j,q1,q2⟩,q3⟩;obtain⟨q4,q5⟩:=f j y q1 q2;refine List.mem_filterMap.2 ⟨y.Page.Tx,q5,?_⟩
   grind [bk]
  intro hy;obtain⟨c,c1,j,c2,c3,c4,c5,c6⟩:=TF hy;refine⟨⟨j,c3,?_⟩,c4⟩;rw[Qi r live _ c3,A0,Gw]
  grind
 have p:∀y∈KG r b live,y∈r/\y.Block=b:=λy hy=>by grind [TF]
 have q:∀x∈KG r b live,∀y∈KG r b live,x.Leaf=y.Leaf->x=y:=λx hx y hy e=>i7 h (p x hx).1 (p y hy).1 (by grind) e
 have t:∀i:Int,∀y∈LE b i (C1 r live 1000000001) r,y∈r/\y.Block=b/\y.Leaf=i:=λi y hy=>by grind [aP]
 have h3:∀i:Int,(LE b i (C1 r live 1000000001) r).length<=1:=by
  intro i;have hd:=pI (λj y hy hj=>(f j y hy hj).1) b i
  rcases hc:LE b i (C1 r live 1000000001) r with _|⟨x,_|⟨y,l⟩⟩
  ·exact Jo 1
  ·exact A4 1
  have hx:=t i x (by rw[hc];simp);have hy:=t i y (by rw[hc];simp);rw[hc]at hd;exact absurd (i7 h hx.1 hy.1 (by rw[hx.2.1,hy.2.1])<|by rw[hx.2.2,hy.2.2]) λe=>(Co.1 hd).1 y (by simp)<|by rw[e]
 have z:(QJ b (C1 r live 1000000001) r).length<=4:=by
  unfold QJ
  grind
 have h0:nZ (QJ b (C1 r live 1000000001) r):=by
  have hd:∀i:Int,nZ (LE b i (C1 r live 1000000001) r):=λi=>pI (λj y hy hj=>(f j y hy hj).1) b i
  have cross:∀i k:Int,i≠k->∀x∈LE b i (C1 r live 1000000001) r,∀y∈LE b k (C1 r live 1000000001) r,x.Page.Tx≠y.Page.Tx:=by grind [aP]
  grind [QJ,nZ]
 have a:BH By (KG r b live) (QJ b (C1 r live 1000000001) r):=ABp (iH r b<|kM l2) h0 (λy=>(hm y).symm) q;have u:=a.len;have g:srt By (QJ b (C1 r live 1000000001) r):=by
  have hc:∀i:Int,srt By (LE b i (C1 r live 1000000001) r):=by
   intro i
   refine List.pairwise_of_forall_mem_list λx hx y hy=>?_
   show x.Leaf<=y.Leaf
   grind
  have cross:∀i k:Int,i<=k->∀x∈LE b i (C1 r live 1000000001) r,∀y∈LE b k (C1 r live 1000000001) r,By x<=By y:=by
   intro i k h4 x hx y hy;show x.Leaf<=y.Leaf
   grind
  grind [QJ,srt]
 have I0:MvI 0 (d.Seq,[],d.Flash.Blocks):=⟨h.fl.cap,A4 _,by omega,by omega⟩;obtain⟨v,v1,v2⟩:=AB0 (b:=b) (QJ b (C1 r live 1000000001) r) I0 (by omega);refine⟨v,v1,?_,?_,u.symm,z,hm⟩
 ·unfold Hk;rw[h.scan.s,l1];simp only[Aa];rw[NF r live _ h.scan.len l4];have h2:live.foldl (fU r) (r.map<|D5 1000000001)=C1 r live 1000000001:=rfl;rw[h2];have ho:=xO m hk (Ku r live 1000000001) hn b 4 0 (by omega) I0 (by omega)
  grind [ABn,QJ]
 unfold Nh;rw[ADm h.scan (cV h.st l1) l4 b];simp only[Aa];obtain⟨X,x1,x2,x3⟩:=iJ By (KG r b live) (by omega);have hX:X=QJ b (C1 r live 1000000001) r:=Oo By x2 g (λk=>by rw[x3 k,<-a k]);rw[x1,hX];have ho:=zC d b (QJ b (C1 r live 1000000001) r) (by omega) ⟨by omega,w.2⟩ (QJ b (C1 r live 1000000001) r).length 0 (by omega) I0 (by omega)<|by omega
 grind
theorem ACO (s:Store) (hv:s.Vols.length<=1048576) (id:Int):∃w,CR s id=some w/\(w<0↔Jg (AF s) id=none):=by
 rcases ED s hv id with⟨e,h⟩|⟨k,v,e,h1,h2,_⟩
 ·grind [Jf]
 grind [Jf]
theorem ACY (h:Hb d r) (hn:d.Store.Next<1000000000) (q:Ask):∃b text no,Eu d q=some (b,text,no)/\(b=[]\/∃x p,b=[x]/\CN (AF d.Store) d.Store.Next x=some p)/\(L text≠ []->q.Kind=1):=by
 have n:=h.st.len;have f:=h.st.nx;obtain⟨v,a1,a2⟩:=Qb q
 have a:∀{P:Prop},L (bs [])≠ []->P:=λhh=>absurd (DS _) hh
 unfold Eu;rw[a1];simp only[Aa]
 cases v with
 |false=>exact⟨_,_,_,rfl,.inl rfl,a⟩
 |true=>
  have hq:=a2 rfl;simp only[Ak,Ae];have j:=hq.kind;obtain⟨w,hw,k⟩:=ACO d.Store (by omega) q.Vol;rw[hw];simp only[Aa];by_cases h34:q.Kind=3\/q.Kind=4
  ·have:(cond (q.Kind==3) (some true) (some<|q.Kind==4):Option Bool)=some true:=by grind
   rw[this];simp only[Aa,Ao];by_cases g:w<0
   ·rw[Ai (by omega:¬w>=0)];simp only[Ae];obtain⟨u,hu,o⟩:=ACO d.Store (by omega) q.Of;obtain⟨j2,l,s⟩:∃j2,(cond (q.Kind==4) ((CR d.Store q.Of).bind λv3=>some<|decide<|v3<0) (some false):Option Bool)=some j2/\(j2=false->q.Kind=4->Jg (AF d.Store) q.Of≠none):=by grind
    rw[l];simp only[Aa]
    cases j2 with
    |true=>exact⟨_,_,_,rfl,.inl rfl,a⟩
    |false=>
     simp only[Ae];rw[Bb];by_cases i:(d.Store.Vols.length:Int)>=3
     ·rw[Ac i];exact⟨_,_,_,rfl,.inl rfl,a⟩
     rw[Ai i];refine⟨_,_,_,rfl,.inr ⟨_,(cH (AF d.Store) q.Vol (if 0<q.Of then(Jg (AF d.Store) q.Of).getD Ok else Ok),d.Store.Next),rfl,?_⟩,a⟩;unfold CN;rw[B6 (by rw[AE5 hq.vol hq.of_];simp),B6 (by simp),Cn rfl,B6];simp only[not_or];refine⟨?_,by grind,by rw[Lt];omega⟩;rintro⟨e1,e2⟩
     rcases h34 with e|e
     ·have:=hq.no (by omega);omega
     grind
   rw[Ac (by omega:w>=0)];exact⟨_,_,_,rfl,.inl rfl,a⟩
  have:(cond (q.Kind==3) (some true) (some<|q.Kind==4):Option Bool)=some false:=by grind
  rw[this];simp only[Aa,Ae];by_cases g:w<0
  ·rw[Ai (by omega:¬w>=0)];exact⟨_,_,_,rfl,.inl rfl,a⟩
  rw[Ac (by omega:w>=0)]
  have hg:Jg (AF d.Store) q.Vol≠none:=λe=>g<|k.2 e
  have taken:∀x:Cm,G0 x=true->x.Kind≠1->x.Kind≠2->x.Vol=q.Vol->x.Chunk<1000000000->∃p,CN (AF d.Store) d.Store.Next x=some p:=by
   intro x x1 x2 x3 x4 x5;unfold CN;have x6:¬(Jg (AF d.Store) x.Vol=none\/x.Chunk=1000000000):=by grind
   rw[B6 (by rw[x1];simp),B6 x2,B6 x3,B6 x6];split<;>exact⟨_,rfl⟩
  simp only[Ak,Ae]
  cases k1:(q.Kind==1)with
  |true=>
   simp only[Ao];have k1':q.Kind=1:=by simpa using k1
   obtain⟨live,l1,l2,l3,l4⟩:=Gy h.st;obtain⟨c,f1,f2⟩:=Sa h l4 q.Text;rw[l1,Aa,f1];simp only[Aa]
   rcases f2 with⟨rfl,f2⟩|⟨f2,f3⟩
   ·obtain⟨z,z1,z2,z3⟩:=sU q.Text hq.text;rw[show((0:Int)==0)=true from rfl,z1];obtain⟨p,hp⟩:=taken (Cm.mk 4 q.Vol q.Sector d.Store.Next) (ABA hq.vol (by have:=hq.sec;omega) ⟨f.1,f.2⟩) (by simp) (by simp) rfl hn;exact⟨_,_,_,rfl,.inr ⟨_,_,rfl,hp⟩,λ_=>k1'⟩
   have m:=(l3 c).1 f2;have t:=ZA h.st m;rw[show(c==0)=false by grind];obtain⟨p,hp⟩:=taken (Cm.mk 4 q.Vol q.Sector c) (ABA hq.vol (by have:=hq.sec;omega)<|by omega) (by simp) (by simp) rfl (by show c<_;omega);exact⟨_,_,_,rfl,.inr ⟨_,_,rfl,hp⟩,λ_=>k1'⟩
  |false=>
   simp only[Ae]
   cases k2:(q.Kind==2)with
   |true=>
    obtain⟨p,hp⟩:=taken (Cm.mk 5 q.Vol q.Sector 0) (by
     have:=hq.vol;have:=hq.sec
     grind [G0]) (by simp) (by simp) rfl<|by grind
    exact⟨_,_,_,rfl,.inr ⟨_,_,rfl,hp⟩,a⟩
   |false=>
    simp only[Ae]
    cases k5:(q.Kind==5)with
    |true=>
     obtain⟨p,hp⟩:=taken (Cm.mk 3 q.Vol 0 0) (by
      have:=hq.vol
      grind [G0]) (by simp) (by simp) rfl<|by grind
     exact⟨_,_,_,rfl,.inr ⟨_,_,rfl,hp⟩,a⟩
    |false=>exact⟨_,_,_,rfl,.inl rfl,a⟩
theorem AAY (h:Bl f):L8 f<=10000:=by
 have hl:∀l:List Leaf,(∀x∈l,lfP x)->(l.map ZQ).sum<=120*l.length:=by
  intro l
  induction l with
  |nil=>intro _;simp
  |cons x l ih=>
   intro hx;rw[HX,List.sum_cons,AY];have:=ih (λy hy=>hx y<|by simp[hy]);have h1:ZQ x<=120:=by
    have a:x.Text.size=(L x.Text).length:=by rfl
    unfold ZQ
    rcases hx x (by simp)with⟨_,e⟩|⟨_,_,e⟩|⟨_,e⟩
    ·grind
    ·omega
    omega
   omega
 have hb:∀l:List Block,(∀b∈l,Lv b)->(l.map L9).sum<=500*l.length:=by
  intro l
  induction l with
  |nil=>intro _;simp
  |cons b l ih=>
   intro hx;rw[HX,List.sum_cons,AY];have:=ih (λy hy=>hx y<|by simp[hy]);have h1:=hx b (by simp);have h2:=hl b.Leaves h1.leaf;have h4:=h1.four;have hz:L9 b=b.Leaves.length+(b.Leaves.map ZQ).sum:=rfl;omega
 have:=hb f.Blocks h.blk;have hn:=h.n;unfold L8 zl;omega
theorem gX (hf:Bl d.Flash) (hs:Ci d.Store):GA d<=1048576:=by
 have h1:=AAY hf;have h2:=hs.len;have h3:=hs.small;have a:∀l:List Bf,(∀k∈l,k.Kids.length=4)->(l.map UM).sum=4*l.length:=by
  intro l
  induction l with
  |nil=>intro _;rfl
  |cons k l ih=>grind [UM]
 have h4:=a d.Store.Arena.Knots (λk hk=>by
  obtain⟨i,hi,rfl⟩:=Au hk;have:=(Fy.1 hs.ar i hi).1
  grind [OI])
 have e1:EC d.Store=d.Store.Vols.length+(d.Store.Arena.Knots.length+(d.Store.Arena.Knots.map UM).sum):=rfl
 grind [GA]
theorem TC (h:Hb d r):GA d<=1048576:=gX h.fl h.st
theorem tK (s:Store) (hv:s.Vols.length<=1048576) (ha:Ls s.Arena):∃l,LU s=some l/\RG s=some l/\l.length<=1+17*s.Vols.length:=by
 unfold LU RG;obtain⟨l,h1,h2,h3⟩:=Gk (body:=λq:List Cm×Int=>En s q.1 q.2) (body':=λq:List Cm×Int=>JB s q.1 q.2) (λ(l:List Cm) i=>(l,i)) s.Vols.length (λi l=>l.length<=1+17*i) (λl=>l.length<=1+17*s.Vols.length)
  (λl i hi hl=>by
   have hg:s.Vols[i]?=some s.Vols[i]:=Ab hi;obtain⟨a,a1,a2,a3⟩:=Lw s.Arena ha s.Vols[i].Root;have b:ap 32 l [Cm.mk 2 s.Vols[i].Id 0 0]=some (l++ [Cm.mk 2 s.Vols[i].Id 0 0]):=AZ (by grind);simp only[En,JB,Ds hi,Aq,hg,Aa,b,a1,a2];obtain⟨u,u1,u2,u3⟩:=Gk (body:=λq:List Cm×Int=>EZ s (i:Int) a q.1 q.2) (body':=λq:List Cm×Int=>JA s.Vols[i] a q.1 q.2) (λ(l:List Cm) k=>(l,k)) a.length (λk o=>o.length<=l.length+1+k) (λo=>o.length<=l.length+17)
    (λo k hk ho=>by
     have c:a[k]?=some a[k]:=Ab hk
     grind [Aq,ad1,AZ,EZ,JA])
    (λo ho=>⟨by simp[CU,EZ,JA],o,by simp[CU,EZ],by omega⟩) (s:=l++ [Cm.mk 2 s.Vols[i].Id 0 0]) (by simp)
   grind [ad1])
  (λl hl=>⟨by simp[CU,En,JB],l,by simp[CU,En],hl⟩) (s:=[Cm.mk 1 0 s.Next 0]) (by simp)
 grind
theorem tJ (h:Hb d r):∃st ok,MU d=some (st,ok)/\PA d=some (st,ok)/\(ok=true->1<=st.length)/\st.length<=1048576:=by
 have hf:JD d.Flash:=h.fl.cap;obtain⟨a,r1,r2,r3⟩:=tK d.Store (by have:=h.st.len;omega)<|dX h.st;have hb:=h.st.vs;obtain⟨b1,b2⟩:=kJ hb;have e:=W6 h.st;rw[r1]at e
 injection e with e
 subst e;obtain⟨st,ok,w1,w2,w3⟩:=PR d hf (N3 (AF d.Store) d.Store.Next) (by omega)<|bs [];refine⟨st,ok,?_,?_,?_,by omega⟩
 ·unfold MU;grind
 ·unfold PA;grind
 intro ho;subst ho
 rcases RU h.fl h.seqs (N3 (AF d.Store) d.Store.Next) (by unfold N3;simp) b2 b1 (bs [])with w|⟨steps,T,g,b,q1,q2,q3,q4,q5,q6,q7,q8,q9⟩
 ·grind
 rw[w1]at q2
 injection q2 with q2
 injection q2 with q2 _
 subst q2;have c:=(Fe q7).2
 grind [Cg]
theorem Rn (x a b:Int):Gn x a b=some (decide (a<=x/\x<=b)):=by
 unfold Gn
 grind
theorem Nm (h:l.length<=1048576):Iz l=some l:=by grind [Mg,Iz]
theorem Tl (a:Arena) (h:ACH a.Knots):I2 a=some a:=by
 unfold I2;have q:=Tb (body:=λs:Int×List Bf=>I1 a s.1 s.2) a.Knots (λk=>k)
  (λi x b hx ho=>by
   have hi:=(Ad.1 hx).1;have hk:=h.2 x<|Aj hx;simp only[I1,Ds hi,Aq,hx,Aa];rw[Nm hk];simp only[Aa];have:=h.1;rw[AZ (by simp;omega),ad1]
   rfl)
  (λb=>by simp[CU,I1])
 rw[q];simp
theorem OK (s:Store) (h:ACH s.Arena.Knots) (hv:s.Vols.length<=1048576):Hm s=some s:=by
 unfold Hm;rw[Mg (by omega),Tl _ h];rfl
theorem Jd (a:Arena) (ha:a.Knots.length<=1048576):Je a=some (Cy a.Knots):=by grind [Xs,Gi]
theorem P3 (a:Arena) (ha:a.Knots.length<=1048576) (r:Int):Gm a r=some (decide (0<=r/\r<(a.Knots.length:Int))&&!(B5 a.Knots r).Leaf):=by
 unfold Gm;rw[Rn,Bb,BY]
 grind [H5]
theorem qS {a:Arena} {r:Int} (ha:a.Knots.length<=1048576) (hr:CA a.Knots r=true):(cond (r !=(-1)) ((Gm a r).bind λv2=>some (!v2)) (some false):Option Bool)=some false:=by grind [BN,P3]
theorem vA {r:Int} {s:Nat} {n:Int} (a:Arena) (ha:a.Knots.length<=1048000) (hK:Cy a.Knots=true) (hr:CA a.Knots r=true) (hs:s<16) (hn:0<=n):
  ZF a r (s:Int) n=some (Arena.mk (KA a.Knots r s n),(a.Knots.length:Int)+1):=by
 unfold ZF;rw[Tl _ (Lr hK<|by omega),Jd a (by omega),Rn,hK];rw[Ac (by omega:0<=(s:Int)/\(s:Int)<=15),Ai (by omega:¬n<0)];simp only[Ak,Ae,Aa];have hq:(cond (r !=(-1)) ((Gm a r).bind λv2=>cond (!v2) (some true)<|some false) (some false):Option Bool)=some false:=by grind [BN,P3]
 rw[hq,mk4];simp only[Aa,Ae];have fin:∀(lf tp:List Int),lf.length=4->tp.length=4->KA a.Knots r s n=a.Knots++ [Bf.mk true<|lf.set (s %4) n,Bf.mk false<|tp.set (s/4) (a.Knots.length:Int)]->
   ((gi lf<|Int.tmod (s:Int) 4).bind λx4=>(gi tp<|qu (s:Int) 4).bind λx5=>(ap 32 a.Knots [Bf.mk true<|si lf (Int.tmod (s:Int) 4) n,Bf.mk false<|si tp (qu (s:Int) 4)<|ln a.Knots]).bind λq2=>some (Arena.mk q2,ad (ln a.Knots) 1))=some (Arena.mk<|KA a.Knots r s n,(a.Knots.length:Int)+1):=by
  intro lf tp h1 h2 h3;rw[qu4 hs,AA6,Aq,Aq,Ab (by omega),Ab (by omega),Aa,AZ (by simp;omega),DQ,DQ,Bb,<-h3,ad1];rfl
 rcases BN hr with rfl|⟨h0,h1,hl⟩
 ·rw[Ai (by omega:¬(-1:Int)>=0)];simp only[Ae,Aa];have hx:gi [(-1:Int),-1,-1,-1] (qu (s:Int) 4)=some (-1):=by
   rw[qu4 hs,Aq]
   grind
  rw[hx,Aa,Ai (by omega:¬(-1:Int)>=0)];have:=fin [0,0,0,0] [-1,-1,-1,-1] rfl rfl rfl
  grind
 rw[cT,H5 h0 h1];have h4:=(EH hK h0 h1).1;rw[Aa,Nm<|by omega];simp only[Aa];have hx:gi (B5 a.Knots r).Kids (qu (s:Int) 4)=some (OZ (B5 a.Knots r)<|s/4):=by rw[qu4 hs,rW (by omega:s/4<(B5 a.Knots r).Kids.length)]
 rw[hx];simp only[Aa]
 rcases F5 hK h0 h1 hl (show s/4<4 by omega)with e|⟨e1,e2,e3⟩
 ·grind [KA,Sf,Wd]
 rw[cT,H5 e1<|by omega]
 grind [EH,Nm,KA,Sf,Wd]
theorem WY (l:List Int) (n:Int) (hl:l.length<=1048576):OJ l n=some (l.contains n):=by
 unfold OJ;obtain⟨b,h1,h2⟩:=AC (body:=λs:Int=>Nc l n s) (λ(_:Unit) i=>i) l.length (λi _=>n∉l.take i) (λb=>(b= .inr true/\n∈l)\/(b= .inl ()/\n∉l))
  (λ_ i hi hs=>by
   have hx:=Ab hi;simp only[Nc,Ds hi,Aq,hx,Aa];rw[ad1]
   cases e:(l[i]==n)with
   |true=>grind
   |false=>
    refine .inl ⟨(),by rfl,?_⟩
    grind [Ag])
  (λ_ hs=>⟨.inl (),by simp[CU,Nc],.inr ⟨rfl,by grind⟩⟩) (s:=()) (by simp)
 grind
theorem Rq {r:Int} (a:Arena) (ha:a.Knots.length<=1048000) (hK:Cy a.Knots=true) (hr:CA a.Knots r=true):∃l,Qn a r=some l/\l.length<=5/\∀i:Nat,(i:Int)∈l↔Pb a.Knots r i=true:=by
 unfold Qn;rw[P3 a<|by omega]
 rcases BN hr with rfl|⟨h0,h1,hl⟩
 ·simp[Pb]
 rw[Ac ⟨h0,h1⟩,hl,H5 h0 h1];simp only[CG,Bool.and_self,Ak,Ae,Aa];obtain⟨h4,hk⟩:=EH hK h0 h1;obtain⟨l,q1,q2,q3⟩:=AC (body:=λs:List Int×Int=>Ld a (B5 a.Knots r) s.1 s.2) (λ(o:List Int) i=>(o,i)) (B5 a.Knots r).Kids.length
  (λi o=>o.length<=1+i/\∀n:Nat,(n:Int)∈o↔(r=(n:Int)\/(n:Int)∈(B5 a.Knots r).Kids.take i)) (λo=>o.length<=5/\∀n:Nat,(n:Int)∈o↔(r=(n:Int)\/(n:Int)∈(B5 a.Knots r).Kids))
  (λo i hi ho=>by
   have hx:=Ab hi;have et:(B5 a.Knots r).Kids.take (i+1)=(B5 a.Knots r).Kids.take i++ [(B5 a.Knots r).Kids[i]]:=Ag hi;refine .inl ?_;simp only[Ld,Ds hi,Aq,hx,Aa];rw[Rn,Bb,BY,ad1];simp only[Aa];have b:(B5 a.Knots r).Kids[i]=OZ (B5 a.Knots r) i:=by grind
   rcases F5 hK h0 h1 hl (show i<4 by omega)with e|⟨e1,e2,e3⟩
   ·grind
   rw[cT,WY o _<|by omega];simp only[Aa]
   cases hc:o.contains (B5 a.Knots r).Kids[i]with
   |true=>
    grind
   |false=>
    rw[AZ (by simp;omega)];refine⟨_,rfl,by simp;omega,λn=>?_⟩
    grind)
  (λo ho=>⟨o,by simp[CU,Ld],by have:=ho.1;omega,by grind⟩) (s:=[r]) ⟨by simp,λn=>by simp[eq_comm]⟩
 grind [Pb]
theorem gD (hr:G6 r):∃l,Ah (λs:List Int×Int=>K3 r s.1 s.2) ([],0)=some l/\l.Nodup/\(∀x,x∈l↔∃y∈r,y.Page.Kind=2/\y.Page.Tx=x)/\l.length<=r.length:=by
 have a:=hr.len;obtain⟨l,h1,h2,h3,h4⟩:=AC (body:=λs:List Int×Int=>K3 r s.1 s.2) (λ(o:List Int) i=>(o,i)) r.length (λi o=>o.Nodup/\(∀x,x∈o↔∃y∈r.take i,y.Page.Kind=2/\y.Page.Tx=x)/\o.length<=i) (λo=>o.Nodup/\(∀x,x∈o↔∃y∈r,y.Page.Kind=2/\y.Page.Tx=x)/\o.length<=r.length)
  (λo i hi ho=>by
   have hx:=Ab hi;have et:r.take (i+1)=r.take i++ [r[i]]:=by simp
   refine .inl ?_;simp only[K3,Ds hi,Aq,hx,Aa];rw[ad1,WY o _<|by omega]
   cases hk:(r[i].Page.Kind==2)with
   |false=>grind
   |true=>
    cases hc:o.contains r[i].Page.Tx with
    |true=>grind
    |false=>
     rw[AZ<|by grind];refine⟨_,rfl,?_,λx=>?_,by simp;omega⟩
     ·grind
     grind)
  (λo ho=>⟨o,by simp[CU,K3],by grind⟩) (s:=[]) ⟨Dx,by simp,by simp⟩
 grind
theorem zU (hr:G6 r) (h1:l.Nodup) (h2:∀x,x∈l↔∃y∈r,y.Page.Kind=2/\y.Page.Tx=x):UG l=D3 r:=by
 obtain⟨n1,n2,n3⟩:=GS r λy hy=>(hr.tx y hy).1;refine Xk ?_ n1 λx=>?_
 ·have hs:(UG l).Pairwise λx y=>x<=y:=by grind [List.pairwise_mergeSort,UG]
  have hd:(UG l).Nodup:=by grind [List.mergeSort_perm,UG]
  unfold asc;exact(hs.and hd).imp (λh=>by omega)
 simp_all [UG]
theorem iV (t:ByteArray) (ht:(L t).length<=20000):∀(n a:Nat) (c:List Cm),(L t).length-a<=n->a<=(L t).length->c.length<=a->Ah (λs:List Cm×Int=>Mz t s.1 s.2) (c,(a:Int))=Ah (λs:List Cm×ByteArray×Int×Bool=>Eh t s.1 s.2.1 s.2.2.1 s.2.2.2) (c,t,(a:Int),false)
 |n,a,c,hn,ha,ho=>by
  rw[Ay,Ay];simp only[Eh,Mz];rw[Bv];by_cases d:a<(L t).length
  ·rw[Ac (by omega:(a:Int)<((L t).length:Int))];rw[EN t d,ad1];obtain⟨r1,a1,a2,a3⟩:=IF t ((a+1:Nat):Int) (by omega) ⟨by omega,by omega⟩;have f:oI r1.2.1:=by
    rcases a3 with⟨_,_,e⟩|⟨_,_,b,_,_,e,_,_,e2,_⟩
    ·rw[e];exact⟨by omega,by omega⟩
    rw[e];exact⟨by omega,by omega⟩
   obtain⟨r2,b1,b2,b3⟩:=IF t r1.2.1 (by omega) f;rw[a2,Aa,b2];have l1:De (EG.mk t ((a+1:Nat):Int) false)=some (if r1.2.2=true then(r1.1,EG.mk t r1.2.1 false)else(0,EG.mk t ((a+1:Nat):Int) true)):=by grind [De]
   rw[l1]
   cases h1:r1.2.2 with
   |false=>grind [De]
   |true=>
    simp only[C7,Aa,Ak,Ae];have l2:De (EG.mk t r1.2.1 false)=some (if r2.2.2=true then(r2.1,EG.mk t r2.2.1 false)else(0,EG.mk t r1.2.1 true)):=by grind [De]
    rw[l2]
    cases h2:r2.2.2 with
    |false=>rfl
    |true=>
     simp only[C7,Aa,Ak,Ae];obtain⟨v,c1,c2,_⟩:=eH<|Cm.mk (qu (IntKind.i64.wrap ((L t)[a].toNat:Int)) 16) (Int.tmod (IntKind.i64.wrap ((L t)[a].toNat:Int)) 16) r1.1 r2.1;rw[c1,c2];simp only[Aa]
     cases v with
     |false=>rfl
     |true=>
      rw[AZ (by simp;omega)]
      rcases b3 with⟨e,_⟩|⟨_,aa,b,m,k1,k2,k3,k4,k5,_⟩
      ·grind
      rcases a3 with⟨e,_⟩|⟨_,aa',b',m',p1,p2,p3,p4,p5,_⟩
      ·grind
      rw[k2]
      match n,hn with
      |n+1,hn=>exact iV t ht n b _ (by omega) k5 (by simp;omega)
      |0,hn=>omega
  grind
theorem gA (t:ByteArray) (ht:(L t).length<=20000):R2 t=Io t:=by
 have h:=iV t ht (L t).length 0 [] (by omega) (by omega)<|by simp
 grind [R2,Io]
def AFQ:Page:=Page.mk 0 0 0 0 0<|bs []
theorem jJ (r:List Al) (hl:r.length<=1048576) (t a c:Int) (h:(a=0/\c=0)\/(0<a/\0<c)):Tg r t a c=some (match Ty r t a c with|some y=>(y.Page,true)|none=>(AFQ,false)):=by
 have hp:∀y:Al,(cond (y.Page.Kind==2) (cond (y.Page.Tx==t) (cond (y.Page.Part==a) (cond (c==0) (some true)<|some<|y.Page.Count==c)<|some false)<|some false) (some false):Option Bool)=some (tL t a c y):=by grind [tL]
 unfold Tg;obtain⟨b,h1,h2⟩:=AC (body:=λs:Int=>Nb r t a c s) (λ(_:Unit) i=>i) r.length (λi _=>∀(j:Nat) x,j<i->r[j]?=some x->tL t a c x=false) (λb=>match Ty r t a c with|some y=>b= .inr (y.Page,true)|none=>b= .inl ())
  (λ_ i hi hs=>by
   have hx:=Ab hi;simp only[Nb,Ds hi,Aq,hx,Aa];rw[hp,ad1]
   cases e:tL t a c r[i]with
   |true=>grind [nY,Ty]
   |false=>
    refine .inl ⟨(),by rfl,λj x hj d=>?_⟩
    grind)
  (λ_ hs=>⟨.inl (),by simp[CU,Nb],by grind [zF,Ty]⟩) (s:=()) (λj x hj=>by omega)
 rw[h1]
 cases hf:Ty r t a c with
 |none=>rw[hf]at h2;simp only at h2;rw[h2];rfl
 |some y=>grind
theorem ACp (r:List Al) (hr:G6 r) (t:Int) (v:Page×Bool) (hv:1<=v.1.Count/\v.1.Count<=9):∀(n:Nat) (a:Int) (text:ByteArray) (seq:Int),a+n=11->1<=a->a<=v.1.Count->(L text).length<=90*a.toNat->
  ∃b,Ah (λs:ByteArray×Int×Int=>Ms r t v s.1 s.2.1 s.2.2) (text,seq,a)=some b/\(match parts r t n a v.1.Count (L text) seq with
   |none=>b= .inr (Tx.mk 0 0 [],false)
   |some (x,q)=>∃u,b= .inl (u,q)/\L u=x/\(L u).length<=1000)
 |0,a,text,seq,hn,h1,hc,ht=>by omega
 |n+1,a,text,seq,hn,h1,hc,ht=>by
  rw[Ay];simp only[Ms,parts];by_cases e:a<v.1.Count
  ·rw[Ac e,Cn (.inr e)];rw[jJ r hr.len t a v.1.Count (.inr ⟨by omega,by omega⟩)];simp only[Aa]
   cases hf:Ty r t a v.1.Count with
   |none=>grind
   |some y=>
    simp only[Ak,Ae];have hy:=Tw hf;have d:=hr.text y hy.1;have c:=yW hy.2 (by omega);rw[GY text y.Page.Text (by omega),Aa,Cl,c];have es:SZ a seq y=(if y.Page.Seq<seq then y.Page.Seq else seq):=by grind [SZ]
    rw[es,<-Hq];exact ACp r hr t v hv n (a+1) _ _ (by omega) (by omega) (by omega)<|by grind [Hq]
  simp_all [Ai];grind
theorem m9 (r:List Al) (hr:G6 r) (t:Int):∃x ok,Rs r t=some (x,ok)/\K9 r t=(if ok=true then some x else none)/\x.Recs.length<=20000:=by
 unfold Rs K9;rw[jJ r hr.len t 0 0<|.inl ⟨rfl,rfl⟩];simp only[Aa]
 have a:parts r t 11 0 0 [] 0=(match Ty r t 0 0 with
  |none=>none
  |some y=>parts r t 10 1 y.Page.Count (L y.Page.Text) y.Page.Seq):=by rfl
 rw[a]
 cases hf:Ty r t 0 0 with
 |none=>simp
 |some y=>
  simp only[Ak,Ae];have hy:=Tw hf;have c:=hr.text y hy.1;have hc:=hr.cnt y hy.1;obtain⟨b,h1,h2⟩:=ACp r hr t (y.Page,true) hc 10 1 y.Page.Text y.Page.Seq (by omega) (by omega) hc.1 (by omega);rw[h1];simp only[Aa]
  cases hp:parts r t 10 1 y.Page.Count (L y.Page.Text) y.Page.Seq with
  |none=>grind
  |some w=>
   obtain⟨x,q⟩:=w;rw[hp]at h2;obtain⟨u,rfl,rfl,h4⟩:=h2;simp only[Dj];obtain⟨l,ok,r1,r2,r3⟩:=eI u (by omega);rw[gA u (by omega),r1,AGm,r2];simp_all;grind
theorem YA (r:List Al) (hr:G6 r):Tr r=some (AU r):=by
 have c:=hr.len;have a:=GS r λy hy=>(hr.tx y hy).1;obtain⟨l,l1,l2,l3,l4⟩:=gD hr;unfold Tr;rw[l1];simp only[Aa];unfold Wl;rw[Cn (by omega),zU hr l2 l3];simp only[Aa];obtain⟨b,h1,h2⟩:=AC (body:=λs:List Tx×Int=>Nj r (D3 r) s.1 s.2) (λ(o:List Tx) i=>(o,i)) (D3 r).length (λi o=>o=((D3 r).take i).filterMap (K9 r)) (λb=>b=AU r)
  (λo i hi ho=>by
   have hx:=Ab hi;have et:(D3 r).take (i+1)=(D3 r).take i++ [(D3 r)[i]]:=Ag hi;simp only[Nj,Ds hi,Aq,hx,Aa];rw[ad1];obtain⟨z,ok,k1,k2,k3⟩:=m9 r hr (D3 r)[i]
   grind [AZ])
  (λo ho=>⟨o,by simp[CU,Nj],by rw[ho,Jh];rfl⟩) (s:=[]) rfl
 grind
theorem jQ (x:Tx):Th x=some (uW x):=by grind [Bb,Th,uW,gi]
theorem vU (h:Hb d r):P4 d=LF d:=by
 have hr:=h.pages;unfold P4 LF
 cases(d.Base !=sb d.Tx 1)with
 |true=>rfl
 |false=>
  rw[h.scan.s,h.scan.i];simp only[Aa];rw[Pt r hr,YA r hr];simp only[Aa];have hb:(λs:Int=>Lf d (AU r) s)=(λs:Int=>Gx d (AU r) s):=by
   funext s;simp only[Lf,Gx]
   cases decide (s<ln (AU r))with
   |false=>rfl
   |true=>
    cases hg:gi (AU r) s with
    |none=>rfl
    |some x=>simp_all [jQ,Bb,uW,gi];grind
  rw[hb]
theorem gK (h:Hb d r):Rv d=LK d:=by
 have hn:=h.fl.n;obtain⟨live,l1,l2,l3,l4⟩:=Gy h.st;unfold LK Rv;rw[h.scan.s,l1];simp only[Aa];rw[NF r live d.Base h.scan.len l4,NF r live 1000000000 h.scan.len l4];simp only[Aa]
 have c:∀b,live.foldl (fU r) (r.map<|D5 b)=C1 r live b:=λ_=>rfl
 rw[c,c]
 have hi:∀b:Block,K1 b=EY b:=λ_=>rfl
 have step:∀(o:Int×Int) (i:Nat),i<d.Flash.Blocks.length->HJ d o.1 o.2 (i:Int)=Dq d r (C1 r live d.Base) (C1 r live 1000000000) o.1 o.2 (i:Int)/\∃o':Int×Int,Dq d r (C1 r live d.Base) (C1 r live 1000000000) o.1 o.2 (i:Int)=some (.inl (o'.1,o'.2,((i+1:Nat):Int))):=by
  intro o i a;have hx:=Ab a;have hP:=h.fl.blk _<|Aw a;have e:NG d.Flash.Blocks[i].Leaves<=4:=by have:=uO d.Flash.Blocks[i].Leaves;rw[hP.four]at this;exact this
  simp only[Dq,HJ,Ds a,Aq,hx,Aa];rw[bP r _ (i:Int) h.scan.len<|Ku _ _ _,bP r _ (i:Int) h.scan.len<|Ku _ _ _,hi,KU _ hP.four,ad1,(tA h l1 l2 l4 1000000000 (i:Int)).2,(tA h l1 l2 l4 d.Base (i:Int)).2];generalize cn r.length (λj=>(C1 r live d.Base)[j]?.getD false&&bk r (i:Int) j)=A;generalize cn r.length (λj=>(C1 r live 1000000000)[j]?.getD false&&bk r (i:Int) j)=C;simp only[Aa]
  cases d.Flash.Blocks[i].Bad with
  |true=>grind
  |false=>
   simp only[CG,Ao,Ae,Aa];by_cases q:NG d.Flash.Blocks[i].Leaves=4
   ·rw[Ai (by omega:¬((NG d.Flash.Blocks[i].Leaves:Nat):Int)<4),show(((NG d.Flash.Blocks[i].Leaves:Nat):Int)==4)=true by simp;omega];simp_all;grind
   grind
 obtain⟨v,e1,e2,_⟩:=Gk (body:=λs:Int×Int×Int=>Dq d r (C1 r live d.Base) (C1 r live 1000000000) s.1 s.2.1 s.2.2) (body':=λs:Int×Int×Int=>HJ d s.1 s.2.1 s.2.2) (λ(o:Int×Int) i=>(o.1,o.2,i)) d.Flash.Blocks.length (λ_ _=>True) (λ_=>True)
  (λo i a _=>by simp_all)
  (λo _=>⟨by simp[CU,Dq,HJ],o.1,by simp[CU,Dq],trivial⟩) (s:=(-1,4)) trivial
 grind
theorem gV (h:Jn d r):RE d=LS d:=by
 obtain⟨l,d1,d2,_⟩:=gT d<|TC h.dev;obtain⟨st,ok,b1,b2,_⟩:=tJ h.dev;obtain⟨live,l1,l2,l3,l4⟩:=Gy h.dev.st
 have hm:∀b,Nh d b=Hk d b:=λb=>by
  obtain⟨v,_,v2,v3,_⟩:=eO h.dev h.few l1 l2 l3 l4 b;rw[v2,v3]
 unfold RE LS;rw[d1,d2,vU h.dev,gK h.dev,b1,b2]
 grind
theorem hJ {c:Nat} {s:AH} (hc:s.Block=(c:Int)) (B:Int×List Block->Option ((Int×List Block)⊕List Block)) (hB:∀i bl,B (i,bl)=EQ s i bl):∀(n i:Nat) (bl:List Block) (x:Block),bl[c]?=some x->i+n=x.Leaves.length->x.Leaves.length<=4->(∀(k:Nat),k<i->x.Leaves[k]?=some (Leaf.mk 2 (bs [])))->
  Ah B ((i:Int),bl)=some (bl.set c (Block.mk x.Bad x.Wear (List.replicate x.Leaves.length (Leaf.mk 2 (bs [])))))
 |0,i,bl,x,hx,hi,h4,hk=>by
  rw[Ay,hB];simp only[EQ,hc,Aq,hx,Aa,Fv];rw[cF];have e:x.Leaves=List.replicate x.Leaves.length (Leaf.mk 2 (bs [])):=by
   apply BF
   grind
  rw[<-e];have:bl.set c x=bl:=by
   apply BF
   grind
  cases x
  grind
 |n+1,i,bl,x,hx,hi,h4,hk=>by
  have a:i<x.Leaves.length:=by omega
  have hl:=Ab a;rw[Ay,hB];simp only[EQ,hc,Aq,hx,Aa,Ds a,hl,DQ];rw[ad1];have:=hJ (s:=s) hc B hB n (i+1) (bl.set c<|Block.mk x.Bad x.Wear<|x.Leaves.set i<|Leaf.mk 2<|bs []) (Block.mk x.Bad x.Wear<|x.Leaves.set i<|Leaf.mk 2<|bs []) (by grind) (by simp;omega) (by simpa using h4) (λk b=>by grind);simp_all
theorem AEV {s:AH} (h:Bl f) (hs:QH f s):∃g,NS f s=some (g,true)/\AA2 f s g:=by
 have hd:Ju f s=some (M7 f s,true):=by grind [QW]
 unfold NS;rw[hd,Cx f h.cap];simp only[Aa,Ak,Ae]
 rcases hs with⟨k1,hm⟩|⟨k1,hc⟩
 ·rw[show(s.Kind==1)=true by simpa using k1];simp only[Ao];obtain⟨_,_,A,B,e1,_,e2⟩:=Rg h hm;obtain⟨x,x1,x2,x3,x4,x5,x6⟩:=hm;have hP:=h.blk x<|Aj (Ct x1).2;rw[x1];simp only[Aa];have hq:qu (GF s.Text) 2=(((L s.Text).length/2:Nat):Int):=by grind [Bv,Pa,qu]
  rw[hq,show sub s.Text 0 (((L s.Text).length/2:Nat):Int)=sub s.Text ((0:Nat):Int) (((L s.Text).length/2:Nat):Int)from rfl,FW s.Text (Jo _)<|by omega];simp only[Aa];have hx:gi x.Leaves s.Leaf=some (x.Leaves[NG x.Leaves]'(by rw[hP.four];exact x4)):=by grind [Aq]
  rw[hx];simp only[Aa];refine⟨_,rfl,?_,λn hw=>kW hw<|hw x<|Aj (Ct x1).2,.inl ⟨k1,?_⟩⟩
  ·obtain⟨b0,b1⟩:=Ct x1;obtain⟨c,a⟩:∃c:Nat,s.Block=(c:Int):=⟨_,(AL b0).symm⟩;rw[a,x3,DQ,DQ];refine Nl h (V8 hP rfl x4 (.inr<|.inr ⟨rfl,?_⟩)<|by simp)
   grind [K8]
  grind [V0]
 rw[show(s.Kind==1)=false by simp;omega];simp only[Ae];obtain⟨x,x1,x2,x3⟩:=hc;obtain⟨b0,b1⟩:=Ct x1;obtain⟨c,a⟩:∃c:Nat,s.Block=(c:Int):=⟨_,(AL b0).symm⟩;rw[a,Cj]at b1;have hP:=h.blk x<|Aj b1;have hl:=hJ (s:=s) a (λq:Int×List Block=>EQ s q.1 q.2) (λ_ _=>rfl) x.Leaves.length 0 f.Blocks x b1 (by omega) (by rw[hP.four];omega) (λk hk=>by omega);rw[show((0:Nat):Int)=0 from rfl]at hl;rw[hl];refine⟨_,rfl,?_,λn hw y hy=>?_,.inr ⟨k1,?_⟩⟩
 ·refine Nl h ⟨by simp[hP.four],hP.wear,λy hy=>?_,λk y z hy hz h0=>?_⟩
  ·rw[DL hy];exact .inr<|.inr ⟨rfl,by rw[DS];simp⟩
  grind
 ·rcases C6 hy with hy|rfl
  ·exact hw y hy
  exact hw x<|Aj b1
 grind [Y3,WF]
theorem wQ (hf:Bl f) (hk:k<=ss.length) (hl:ss.length<=1000000) (h:∃m,Steps f ss m) (torn:Bool):∃g,Ir f ss (k:Int) torn=some (g,true)/\Bl g/\YJ f ss k g:=by
 obtain⟨z,hz⟩:=h;rw[<-BI k ss]at hz;obtain⟨m,h1,h2⟩:=(HO _ _ _ _).1 hz;have hm:=U8 hf h1;unfold Ir;rw[Bb,CM];simp only[Aa];rw[Ac (by omega:0<=(k:Int)/\(k:Int)<=(ss.length:Int))];have b:dr ss 0 (k:Int)=some (ss.take k):=by
  unfold dr
  grind
 have a:(ss.take k).length=k:=by grind
 rw[b];simp only[Aa];rw[MT hf h1 (by omega),a];simp only[Aa];rw[Ai (by omega:¬(k:Int)<(k:Int))]
 cases torn with
 |false=>exact⟨m,rfl,hm,m,h1,.inl rfl⟩
 |true=>
  simp only[Ak,Ae,Aa];by_cases e:k=ss.length
  ·rw[show((k:Int)==(ss.length:Int))=true by simp;omega];exact⟨m,rfl,hm,m,h1,.inl rfl⟩
  rw[show((k:Int)==(ss.length:Int))=false by simp;omega];have hx:=Ab (show k<ss.length by omega);rw[AD<|show k<ss.length by omega]at h2;rw[Aq,hx];simp only[Aa];obtain⟨g,g1,g2⟩:=AEV hm h2.1;rw[g1];exact⟨g,rfl,g2.1,m,h1,.inr ⟨_,hx,h2.1,g2⟩⟩
theorem aX (h:Hb d r) (vol k:Int):O7 d vol k=(Fg r d.Store vol k):=by
 unfold O7;rw[h.scan.s];simp only[Aa];cases Fg r d.Store vol k<;>rfl
theorem dR {body:Int×Int->Option ((Int×Int)⊕Int)} (l:List Int) (p:Int->Bool) (n0:Int) (h0:0<=n0) (hM:(l.length:Int)+n0<=1152921504606846976) (hb:∀(n:Int) (i:Nat) x,l[i]?=some x->body (n,(i:Int))=(bif p x then some (.inl (ad n 1,ad (i:Int) 1))else some (.inl (n,ad (i:Int) 1)))) (he:∀n,body (n,(l.length:Int))=some (.inr n)):Ah body (n0,0)=some (n0+((l.filter p).length:Int)):=by
 obtain⟨b,h1,rfl⟩:=AC (body:=body) (λ(n:Int) i=>(n,i)) l.length (λi n=>n=n0+(((l.take i).filter p).length:Int)) (λn=>n=n0+((l.filter p).length:Int))
  (λn i hi hn=>by
   have hg:l[i]?=some l[i]:=Ab hi;have a:=Be p<|l.take i;simp only[Fl]at a;refine .inl ?_;rw[hb n i _ hg];have et:l.take (i+1)=l.take i++ [l[i]]:=by simp
   cases hp:p l[i]with
   |true=>
    rw[Cl,ad1]
    grind
   |false=>
    rw[ad1]
    grind)
  (λn hn=>⟨n,he n,by grind⟩) (s:=n0) (by simp)
 exact h1
theorem kO (s:Store) (hv:s.Vols.length<=1048576) (ha:Ls s.Arena) (c:Int) (hc:0<c):∃n:Int,Wx s c=some n/\WR s c=some n/\0<=n/\n<=16777216/\n=(((Hd s s.Vols.length).filter λx=>x==c).length:Int):=by
 have hN:=Qg s ha s.Vols.length<|A4 _;have b:=Be (λx:Int=>x==c)<|Hd s s.Vols.length;refine⟨(((Hd s s.Vols.length).filter λx=>x==c).length:Int),?_,?_,by omega,by omega,rfl⟩
 ·unfold Wx;obtain⟨n,h1,rfl⟩:=AC (body:=λq:Int×Int=>MN s c q.1 q.2) (λ(n:Int) i=>(n,i)) s.Vols.length (λi n=>n=(((Hd s i).filter λx=>x==c).length:Int)) (λn=>n=(((Hd s s.Vols.length).filter λx=>x==c).length:Int))
   (λn i hi hn=>by
    have hg:s.Vols[i]?=some s.Vols[i]:=Ab hi;obtain⟨a,a1,_,a2⟩:=Lw s.Arena ha s.Vols[i].Root;have d:=Qg s ha i (by omega);have e:=Be (λx:Int=>x==c)<|Hd s i;refine .inl ?_;simp only[MN,Fv,Ac hi,Ao,Aq,hg,Aa,a1];rw[Ac (by omega:c>0)]
    rw[dR (body:=λq:Int×Int=>MM c a q.1 q.2) a (λx=>x==c) n (by omega) (by omega)
     (λm k y hy=>by grind [Fv,Aq,MM])
     (λm=>by grind [Fv,MM])]
    grind [ad1,Qf])
   (λn hn=>⟨n,by grind [Fv,MN],hn⟩) (s:=0) (by simp[Hd])
  rw[h1];rfl
 unfold WR;rw[T3 s hv ha];simp only[Aa];have f:=Be (λx:Int=>decide<|x>0)<|Hd s s.Vols.length
 rw[dR (body:=λq:Int×Int=>Ng c ((Hd s s.Vols.length).filter λx=>decide<|x>0) q.1 q.2) ((Hd s s.Vols.length).filter λx=>decide<|x>0) (λx=>x==c) 0 (by omega) (by omega)
  (λm k y hy=>by grind [Fv,Aq,Ng])
  (λm=>by grind [Fv,Ng])]
 simp_all;grind
theorem zD (d:Device) (hv:d.Store.Vols.length<=1048576) (ha:Ls d.Store.Arena):Ah (λs:Int×Int=>IT d s.1 s.2) (0,0)=some (((Hd d.Store d.Store.Vols.length).filter λx=>decide (x>0)).length:Int):=by
 obtain⟨n,h1,rfl⟩:=AC (body:=λq:Int×Int=>IT d q.1 q.2) (λ(n:Int) i=>(n,i)) d.Store.Vols.length (λi n=>n=(((Hd d.Store i).filter λx=>decide<|x>0).length:Int)) (λn=>n=(((Hd d.Store d.Store.Vols.length).filter λx=>decide<|x>0).length:Int))
  (λn i hi hn=>by
   have hg:d.Store.Vols[i]?=some d.Store.Vols[i]:=Ab hi;obtain⟨a,a1,_,a2⟩:=Lw d.Store.Arena ha d.Store.Vols[i].Root;have b:=Qg d.Store ha i (by omega);have c:=Be (λx:Int=>decide<|x>0)<|Hd d.Store i;refine .inl ?_;simp only[IT,Ds hi,Aq,hg,Aa,a1]
   rw[dR (body:=λq:Int×Int=>KV a q.1 q.2) a (λx=>decide<|x>0) n (by omega) (by omega)
    (λm k y hy=>by
     have hk:=(Ad.1 hy).1
     simp_all [Aq,Ds,KV])
    (λm=>by simp[CU,KV])]
   grind [ad1,Qf])
  (λn hn=>⟨n,by simp[CU,IT],hn⟩) (s:=0) (by simp[Hd])
 exact h1
theorem eT (d:Device) (hz:GA d<=1048576):∃v,Kq d=some v/\Oc d=some v:=by
 unfold GA at hz;obtain⟨r,hr⟩:=ZP d.Flash (by omega);have hs:EC d.Store<=1048576:=by omega
 have hv:d.Store.Vols.length<=1048576:=by grind [EC]
 have ha:Ls d.Store.Arena:=by grind [PG,EC,QC,Ls]
 obtain⟨l,l1,l2,⟨l3,l4⟩,l5⟩:=Q8 d.Store hv ha;unfold Kq Oc;rw[l1,l2,hr.s];simp only[Aa];obtain⟨v,h1,h2,_⟩:=La (body:=λs:Int×List ByteArray×Int=>ET d l r s.1 s.2.1 s.2.2) (body':=λs:Int×List ByteArray×Int=>Jc d l s.1 s.2.1 s.2.2) (λ(q:Int×List ByteArray) i=>(q.1,q.2,i)) (λ(q:Int×List ByteArray) i=>(q.1,q.2,i)) l.length (λi q=>0<=q.1/\q.1<=16777216*(i:Int)/\q.2.length=i) (λ_=>True)
  (λq i hi hq=>by
   have hg:l[i]?=some l[i]:=Ab hi;have a:0<l[i]:=((l4 _).1<|Aw hi).2;obtain⟨n,n1,n2,n3,n4⟩:=kO d.Store hv ha l[i] a;obtain⟨u,ok,t1,t2⟩:=Sb hr l[i];simp only[ET,Jc,Ds hi,Aq,hg,Aa,n1,n2,t1,t2]
   cases ok with
   |false=>grind
   |true=>
    have b:∃w,Ah (λs:Int=>ES q.2 (u,true) s) 0=some w/\Ah (λs:Int=>NP q.2 (u,true) s) 0=some w/\(w= .inl ()\/w= .inr (.inr<|.inr false)):=
     Gk (body:=λs:Int=>ES q.2 (u,true) s) (body':=λs:Int=>NP q.2 (u,true) s) (λ(_:Unit) k=>k) q.2.length (λ_ _=>True) (λw=>w= .inl ()\/w= .inr (.inr<|.inr false))
      (λ_ k hk _=>by
       have c:q.2[k]?=some q.2[k]:=Ab hk;refine⟨rfl,?_⟩;simp only[ES,Ds hk,Aq,c,Aa]
       cases seq q.2[k] u with
       |true=>grind
       |false=>
        rw[ad1]
        simp)
      (λ_ _=>⟨rfl,_,by simp[CU,ES],.inl rfl⟩) (s:=()) trivial
    obtain⟨w,w1,w2,w3⟩:=b;rw[w1,w2]
    rcases w3 with rfl|rfl
    ·rw[AZ (by grind),ad1,Cl];exact .inl ⟨(q.1+n,q.2++ [u]),rfl,rfl,by simp only;omega,by simp only;omega,by grind⟩
    grind)
  (λq hq=>⟨_,by simp only[ET,CU];rfl,by simp[CU,Jc],trivial⟩) (s:=(0,[])) ⟨by simp,by simp,rfl⟩
 have h1':Ah (λs:Int×List ByteArray×Int=>ET d l r s.1 s.2.1 s.2.2) (0,[],0)=some v:=h1;have h2':Ah (λs:Int×List ByteArray×Int=>Jc d l s.1 s.2.1 s.2.2) (0,[],0)=some v:=h2;rw[h1',h2',zD d hv ha,T3 d.Store hv ha]
 cases v with
 |inl v=>exact⟨_,rfl,rfl⟩
 |inr v=>simp
noncomputable def Ol (r:List Al) (c:Int):ByteArray:=if 0<c then(BX r c).getD (bs [])else bs []
noncomputable def Fq (r:List Al) (p:Int×List Int):Shelf:=Shelf.mk p.1 ((List.range 16).map λk=>Ol r (p.2[k]?.getD 0))
noncomputable def Kv (r:List Al) (l:Vs):List Shelf:=l.map (Fq r)
theorem ABB (h:Jn d r) (hv:v∈d.Store.Vols) (hk:k<16):Fg r d.Store v.Id (k:Int)=some (Ol r ((DJ d.Store.Arena.Knots v.Root)[k]?.getD 0),true):=by
 have hg:=Me h.dev.st.asc hv
 grind [Yq,Ol]
theorem Z9 (h:Jn d r):DM d=some (Kv r (AF d.Store))/\FR d=some (Kv r (AF d.Store)):=by
 have c:=h.dev.st.len;have hs:DM d=some (Kv r<|AF d.Store):=by
  unfold DM;rw[h.dev.scan.s];simp only[Aa];obtain⟨b,h1,rfl⟩:=AC (body:=λs:List Shelf×Int=>CS d r s.1 s.2) (λ(o:List Shelf) i=>(o,i)) d.Store.Vols.length (λi o=>o=Kv r ((AF d.Store).take i)) (λo=>o=Kv r (AF d.Store))
   (λo i hi ho=>by
    have hg:d.Store.Vols[i]?=some d.Store.Vols[i]:=Ab hi;simp only[CS,Ds hi,Aq,hg,Aa];have:=Tb (body:=λs:Int×List ByteArray=>Ea d r d.Store.Vols[i] s.1 s.2) (List.range 16) (λk=>Ol r<|(DJ d.Store.Arena.Knots d.Store.Vols[i].Root)[k]?.getD 0)
     (λk x a hx ho=>by grind [ABB,AZ,ad1,Ea])
     (λa=>by rfl)
    grind [AZ,ad1,Ag,Kv,AF,Fq])
   (λo ho=>⟨o,by simp[CU,CS],by grind [AQ,AF]⟩) (s:=[]) rfl
  rw[h1];rfl
 obtain⟨m,m1,m2⟩:=Q7 d<|TC h.dev
 grind
theorem jK {l:Vs} (h:∀c,Dz l c->BX r' c=BX r c):Kv r' l=Kv r l:=by
 refine D8 λp hp=>Cu (Shelf.mk p.1)<|D8 λk _=>?_
 unfold Ol;split
 ·rename_i hc;rw[h _ ⟨hc,p,hp,?_⟩]
  grind
 rfl
theorem Ql (h:Hb d r):JP (Kv r (AF d.Store)):=by
 have:=h.st.len;refine⟨by grind [Kv,AF],λx hx=>?_⟩;obtain⟨p,_,rfl⟩:=A6.1 hx;simp[Fq]
theorem ACD (p q:Int->Bool) (h:∀x,p x=true->q x=true->False):∀N:List Int,(N.filter λx=>p x||q x).length=(N.filter p).length+(N.filter q).length
 |[]=>rfl
 |x::N=>by
  have ih:=ACD p q h N
  grind
theorem kA (h:Jn d r):Kq d=some true/\Oc d=some true:=by
 have hs:Kq d=some true:=by
  have j:=h.dev.st.len;have o:=h.dev.st.small;have ha:Ls d.Store.Arena:=by unfold Ls;omega
  obtain⟨l,l1,l2,⟨l3,l4⟩,_⟩:=Q8 d.Store (by omega) ha;obtain⟨l',k1,_,k2,_⟩:=Gy h.dev.st;rw[l1]at k1
  injection k1 with k1
  subst k1;unfold Kq;rw[l1,h.dev.scan.s];simp only[Aa];have hN:=Qg d.Store ha d.Store.Vols.length<|A4 _
  have fl:=λp=>Be p<|Hd d.Store d.Store.Vols.length
  obtain⟨b,h1,rfl⟩:=AC (body:=λs:Int×List ByteArray×Int=>ET d l r s.1 s.2.1 s.2.2) (λ(q:Int×List ByteArray) i=>(q.1,q.2,i)) l.length
   (λi q=>q.1=(((Hd d.Store d.Store.Vols.length).filter λx=>(l.take i).contains x).length:Int)/\q.2=(l.take i).map (Ol r)) (λb=>b= .inl (((Hd d.Store d.Store.Vols.length).filter λx=>l.contains x).length:Int))
   (λq i hi hq=>by
    obtain⟨n,ts⟩:=q;obtain⟨rfl,rfl⟩:=hq;have hg:l[i]?=some l[i]:=Ab hi;have a:=(k2 l[i]).1<|Aw hi;obtain⟨m,n1,_,n3,n4,rfl⟩:=kO d.Store (by omega) ha l[i] a.1;obtain⟨u,hu⟩:=h.data.data _ a;obtain⟨w,ok,t1,t2⟩:=aV h.core.pages l[i];rw[hu]at t2
    cases ok with
    |false=>cases t2
    |true=>
     injection t2 with t2
     subst t2;simp only[ET,Ds hi,Aq,hg,Aa,n1,t1,Ak,Ae]
     have old:∀k (hk:k<i),l[k]'(by omega)<l[i]:=λk hk=>Cr.1 l3 k i (by omega) hi hk
     obtain⟨w,w1,rfl⟩:=AC (body:=λs:Int=>ES ((l.take i).map<|Ol r) (u,true) s) (λ(_:Unit) k=>k) i (λ_ _=>True) (λw=>w= .inl ())
      (λ_ k hk _=>by
       have f:k<l.length:=by omega
       have hx:((l.take i).map<|Ol r)[k]?=some (Ol r l[k]):=by grind
       have c:=(k2 l[k]).1<|Aw f;obtain⟨z,hz⟩:=h.data.data _ c;have g:seq (Ol r l[k]) u=false:=by
        rw[KH,decide_eq_false_iff_not];unfold Ol;rw[Cn c.1,hz,D4];intro e;have:=h.data.dist _ _ c a<|by rw[hz,hu,e]
        grind
       simp only[ES];rw[Bb,Ba,Fl,cT,Aq,hx,Aa,g,Ae,ad1]
       simp)
      (λ_ _=>⟨_,by grind [Bb,ES],rfl⟩) (s:=()) trivial
     rw[w1]
     have:=fl λx=>(l.take i).contains x
     rw[AZ (by simp;omega),ad1,Cl];refine .inl ⟨(_,_),rfl,?_,?_⟩
     ·have:=ACD (λx=>(l.take i).contains x) (λx=>x==l[i]) (λx h1 h2=>by grind [Au])<|Hd d.Store d.Store.Vols.length;rw[Ag hi];simp only[List.contains_append,List.contains_cons,List.contains_nil,Bool.or_false];omega
     grind [Ag,Ol])
   (λq hq=>⟨_,by simp only[ET,CU];rfl,by grind⟩) (s:=(0,[])) ⟨by grind [BM],rfl⟩
  grind [zD,List.filter_congr]
 obtain⟨m,m1,m2⟩:=eT d<|TC h.dev
 grind
theorem nE (a:Arena) (ha:a.Knots.length<=1048000) (hK:Cy a.Knots=true) (R:List Int) (hc:R.length<=1000) (hR:∀r∈R,CA a.Knots r=true) (v:List Int):∃l,Ah (λs:List Int×Int=>FP a R v s.1 s.2) ([],0)=some (.inl l)/\l.length<=5000/\∀i:Nat,(i:Int)∈l↔BW a.Knots R i=true:=by
 obtain⟨b,h1,l,rfl,h3,h4⟩:=AC (body:=λs:List Int×Int=>FP a R v s.1 s.2) (λ(o:List Int) i=>(o,i)) R.length (λi o=>o.length<=5*i/\∀n:Nat,(n:Int)∈o↔BW a.Knots (R.take i) n=true) (λb=>∃l,b= .inl l/\l.length<=5000/\∀i:Nat,(i:Int)∈l↔BW a.Knots R i=true)
  (λo i hi ho=>by
   obtain⟨o1,o2⟩:=ho;have hx:=Ab hi;have hr:=hR _<|Aw hi;obtain⟨m,m1,m2,m3⟩:=Rq a ha hK hr;simp only[FP,Ds hi,Aq,hx,Aa];rw[qS (by omega) hr];simp only[Aa,Ae];rw[m1,Aa,AZ (by omega),ad1]
   simp_all [Sz,BW];grind)
  (λo ho=>⟨_,by simp[CU,FP],o,rfl,by have:=ho.1;omega,by grind⟩) (s:=[]) ⟨by simp,λn=>by simp[BW]⟩
 grind
theorem fY (a:Arena) (ha:a.Knots.length<=1048000) (hK:Cy a.Knots=true) (R:List Int) (hR:∀r∈R,CA a.Knots r=true) (l:List Int) (z:l.length<=5000) (hl:∀i:Nat,(i:Int)∈l↔BW a.Knots R i=true):
  Ah (λs:List Int×Int×List Bf=>FO a l s.1 s.2.1 s.2.2) (List.replicate a.Knots.length 0,0,[])=some (VQ a.Knots R a.Knots.length,TE a.Knots R):=by
 have h:∀i:Nat,l.contains (i:Int)=BW a.Knots R i:=λi=>by grind
 obtain⟨b,h1,h2⟩:=AC (body:=λs:List Int×Int×List Bf=>FO a l s.1 s.2.1 s.2.2) (λ(o:List Int×List Bf) i=>(o.1,i,o.2)) a.Knots.length
  (λi o=>o=(VQ a.Knots R i,((List.range i).filter<|BW a.Knots R).map<|aH a.Knots R)) (λb=>b=(VQ a.Knots R a.Knots.length,TE a.Knots R))
  (λo i hi ho=>by
   subst ho;have h0:(0:Int)<=(i:Int):=by omega
   have f:(i:Int)<(a.Knots.length:Int):=by omega
   simp only[FO,Ds hi];rw[H5 h0 f,WY l _ (by omega),h];simp only[Aa]
   cases hu:BW a.Knots R i with
   |false=>
    rw[ad1];refine .inl ⟨(VQ a.Knots R i,((List.range i).filter<|BW a.Knots R).map<|aH a.Knots R),rfl,?_⟩;simp_all [DR,VQ];grind
   |true=>
    obtain⟨h4,hk⟩:=EH hK h0 f;have n:gi (VQ a.Knots R i) (i:Int)=some 0:=by grind [Aq,VQ]
    rw[n,Nm<|by omega];simp only[Aa];have y:=AEz (K:=a.Knots) (R:=R) i;have h3:(((List.range i).filter<|BW a.Knots R).map<|aH a.Knots R).length=oW a.Knots R i:=by rw[Ba];rfl
    have d:si (VQ a.Knots R i) (i:Int) (ln<|((List.range i).filter<|BW a.Knots R).map<|aH a.Knots R)=VQ a.Knots R (i+1):=by simp_all [Bb,DQ,Qd,VQ];grind
    have inner:Ah (λs:Int×List Int=>FN (VQ a.Knots R i) (i:Int) (((List.range i).filter<|BW a.Knots R).map<|aH a.Knots R) (B5 a.Knots (i:Int)) s.1 s.2) (0,(B5 a.Knots (i:Int)).Kids)=some (aH a.Knots R i).Kids:=by
     have q:=OG (body:=λs:Int×List Int=>FN (VQ a.Knots R i) (i:Int) (((List.range i).filter<|BW a.Knots R).map<|aH a.Knots R) (B5 a.Knots (i:Int)) s.1 s.2) (λl k=>(k,l)) (λ_ x=>bif(B5 a.Knots (i:Int)).Leaf then x else Sp a.Knots R x) (B5 a.Knots (i:Int)).Kids
      (λk l x p t g=>by
       have u:=(Ad.1 g).1;have v:k<4:=by omega
       have ex:x=OZ (B5 a.Knots (i:Int)) k:=by grind
       have same:l.set k x=l:=by
        apply BF
        grind
       simp only[FN,Ds u,Aq,g,Aa];rw[d]
       cases j:(B5 a.Knots (i:Int)).Leaf with
       |true=>grind [ad1]
       |false=>
        simp only[CG,Ao,Ae,Aa]
        rcases F5 hK h0 f j v with e|⟨e1,e2,e3⟩
        ·grind [ad1,Sp]
        obtain⟨c,hc⟩:∃c:Nat,x=(c:Int):=⟨x.toNat,by omega⟩;have w:x∈(B5 a.Knots (i:Int)).Kids:=Aj g;have m:=VY (ZX hK hR hu j) h0 w (by omega);rw[hc]at m;rw[hc,Aq];unfold VQ;rw[NX (by omega),Aa,Cn ⟨by omega,m⟩,t,Aa,DQ,ad1]
        rfl)
      (λl p=>by simp[CU,FN])
     rw[IV]at q;rw[q];unfold aH
     cases(B5 a.Knots (i:Int)).Leaf with
     |true=>simp
     |false=>rfl
    rw[inner,Aa,AZ (by grind),Aa,ad1,d];refine .inl ⟨(_,_),rfl,?_⟩;congr 1;rw[DR,Cq,Oh hu,List.filter_nil,Ka]
    rfl)
  (λo ho=>⟨o,by simp[CU,FO],ho⟩) (s:=(List.replicate a.Knots.length 0,[])) (by grind [N5,FT,VQ])
 grind
theorem u0 (a:Arena) (ha:a.Knots.length<=1048000) (hK:Cy a.Knots=true) (R:List Int) (hc:R.length<=1000) (hR:∀r∈R,CA a.Knots r=true):NJ a R=some (Arena.mk (TE a.Knots R),R.map (Sp a.Knots R)):=by
 unfold NJ;rw[Nm<|by omega];simp only[Aa];obtain⟨l,l1,l2,l3⟩:=nE a ha hK R hc hR R;rw[l1,Jd a (by omega),hK];simp only[Aa,Dj,Ak,Ae];rw[Bb,cA (by omega) (by omega),Aa,fY a ha hK R hR l l2 l3];simp only[Aa];have q:=OG (body:=λs:List Int×Int=>HC R (VQ a.Knots R a.Knots.length,TE a.Knots R) s.1 s.2) (λl k=>(l,k)) (λ_ x=>Sp a.Knots R x) R
  (λk l x g h b=>by
   have hk:=(Ad.1 b).1;simp only[HC,Ds hk,Aq,b,Aa]
   rcases BN (hR x<|Aj b)with e|⟨e1,e2,e3⟩
   ·rw[cF,ad1];have:Sp a.Knots R x=x:=by unfold Sp;omega
    rw[this,show l.set k x=l from by
     apply BF
     grind]
   rw[cT];obtain⟨c,d⟩:∃c:Nat,x=(c:Int):=⟨x.toNat,by omega⟩;have f:=PV (K:=a.Knots) (Aj b) e1;rw[d]at f;rw[d,Aq];unfold VQ;rw[NX (by omega),Aa,Cn ⟨by omega,f⟩,h,Aa,DQ,ad1]
   rfl)
  (λl g=>by simp[CU,HC])
 grind [IV]
theorem Rp (h:StoreR s):My s=some (LA s):=by
 have hl:=h.len;have hf:=h.few;have d:(AM s).length=s.Vols.length:=by unfold AM;rw[Ba]
 unfold My;have hr:Ah (λq:List Int×Int=>Fj s q.1 q.2) ([],0)=some (AM s):=by
  obtain⟨b,h1,h2⟩:=AC (body:=λq:List Int×Int=>Fj s q.1 q.2) (λ(o:List Int) i=>(o,i)) s.Vols.length (λi o=>o=(s.Vols.take i).map Vol.Root) (λb=>b=AM s)
   (λo i hi ho=>by
    have hx:=Ab hi;simp only[Fj,Ds hi,Aq,hx,Aa]
    grind [AZ,ad1,D9])
   (λo ho=>⟨o,by simp[CU,Fj],by rw[ho,AQ<|A4 _];rfl⟩) (s:=[]) rfl
  grind
 rw[hr];simp only[Aa];rw[u0 _ (by omega) h.ar _ (by omega) h.root];simp only[Aa];have q:=OG (body:=λq:Int×List Vol=>GT s (Arena.mk<|TE s.Arena.Knots<|AM s,(AM s).map<|Sp s.Arena.Knots<|AM s) q.1 q.2) (λl i=>(i,l)) (λ_ v=>Vol.mk v.Id<|Sp s.Arena.Knots (AM s) v.Root) s.Vols
  (λi l x a e c=>by
   have hi:=(Ad.1 c).1;simp only[GT,Ds hi]
   grind [Aq,DQ,ad1,AM])
  (λl a=>by simp[CU,GT])
 rw[IV]at q;rw[q];rfl
theorem qX {K:Ks} {R:List Int} {n:Int} (hK:Cy K=true) (hR:∀r∈R,CA K r=true) (hi:i<K.length) (hu:BW K R i=true) (hl:(B5 K (i:Int)).Leaf=true) (hn:n∈(B5 K (i:Int)).Kids):∃r∈R,n∈DJ K r:=by
 unfold BW at hu;obtain⟨r,hr,h⟩:=Fo.1 hu;unfold Pb at h;rw[Ap,Bi,Gw,Bi,Fo]at h;obtain⟨h0,h⟩:=h
 rcases BN (hR r hr)with e|⟨_,h1,h2⟩
 ·omega
 rcases h with h|⟨x,hx,he⟩
 ·grind
 obtain⟨h4,hk⟩:=EH hK h0 h1;obtain⟨j,hj,a⟩:=Au hx;have b:OZ (B5 K r) j=(i:Int):=by grind
 obtain⟨g4,gk⟩:=EH hK (r:=(i:Int)) (by omega) (by omega);obtain⟨t,ht,c⟩:=Au hn;have d:OZ (B5 K (i:Int)) t=n:=by grind
 refine⟨r,hr,A6.2 ⟨4*j+t,by simp;omega,?_⟩⟩
 grind [Qz]
theorem Y9 (h:Ci s):GU s=some true:=by
 have hl:=h.len;have hf:=h.few;unfold GU;rw[Bb,cF,Jd _ (by omega),h.ar,Rn,Ac h.nx];obtain⟨b,h1,l,rfl,h3,h4⟩:=AC (body:=λq:List Int×Int=>Gr s q.1 q.2) (λ(o:List Int) i=>(o,i)) s.Vols.length (λi o=>o.length<=5*i/\∀n:Nat,(n:Int)∈o↔BW s.Arena.Knots ((AM s).take i) n=true) (λb=>∃l,b= .inl l/\l.length<=5000/\∀i:Nat,(i:Int)∈l↔BW s.Arena.Knots (AM s) i=true)
  (λo i hi ho=>by
   obtain⟨o1,o2⟩:=ho;have hx:=Ab hi;have hm:s.Vols[i]∈s.Vols:=Aw hi;have a:s.Vols[i].Root∈AM s:=A6.2 ⟨_,hm,rfl⟩;have hr:=h.root _ a;have f:(AM s)[i]?=some s.Vols[i].Root:=by unfold AM;grind
   obtain⟨m,m1,m2,m3⟩:=Rq s.Arena (by omega) h.ar hr;simp only[Gr,Ds hi,Aq,hx,Aa];rw[Rn,Ac<|h.ids _ hm,qS (by omega) hr];have hj:(cond (decide<|(i:Int)>0) ((gi s.Vols<|sb (i:Int) 1).bind λx2=>cond (decide<|x2.Id>=s.Vols[i].Id) (some true)<|some false) (some false):Option Bool)=some false:=by
    by_cases h0:i=0
    ·rw[cF]
    rw[cT,BY,show(i:Int)-1=((i-1:Nat):Int) by omega,Aq,Ab<|by omega];simp only[Aa];have:=ST h.asc (show i-1<i by omega) (x:=s.Vols[i-1].Id) (y:=s.Vols[i].Id) (by grind) (by grind);rw[cF]
   rw[hj];simp only[Aa,Ae];rw[m1,Aa,AZ (by omega),ad1]
   simp_all [Sz,BW];grind)
  (λo ho=>⟨_,by simp[CU,Gr],o,rfl,by have:=ho.1;omega,by grind [AQ,AM]⟩) (s:=[]) ⟨by simp,λn=>by simp[BW]⟩
 rw[h1];simp only[Aa,Dj];obtain⟨c,q1,q2⟩:=AC (body:=λq:Int=>Gq s l q) (λ(_:Unit) i=>i) s.Arena.Knots.length (λ_ _=>True) (λc=>c= .inl ())
  (λ_ i hi _=>by
   have hu:=h.used i hi;simp only[Gq,Ds hi];rw[H5 (by omega) (by omega),WY l _ (by omega),List.contains_iff_mem.2<|(h4 i).2 hu];simp only[Aa,Ak,Ae];obtain⟨d,e1,e2⟩:=AC (body:=λq:Int=>Gp s (B5 s.Arena.Knots (i:Int)) q) (λ(_:Unit) i=>i) (B5 s.Arena.Knots (i:Int)).Kids.length (λ_ _=>True) (λc=>c= .inl ())
    (λ_ k hk _=>by
     have hx:=Ab hk;have h44:=(EH h.ar (r:=(i:Int)) (by omega)<|by omega).1;simp only[Gp,Ds hk,Aq,hx,Aa];rw[ad1]
     cases e:(B5 s.Arena.Knots (i:Int)).Leaf with
     |false=>simp
     |true=>
      obtain⟨r,r1,r2⟩:=qX h.ar h.root hi hu e<|Aw hk;have:=h.lt r r1 _ r2
      simp_all [Ai])
    (λ_ _=>⟨_,by simp[CU,Gp],rfl⟩) (s:=()) trivial
   rw[e1,e2];rw[ad1]
   simp)
  (λ_ _=>⟨_,by simp[CU,Gq],rfl⟩) (s:=()) trivial
 grind
def ACj (l:List Vol) (v:Vol):List Vol:=(l.filter λw=>decide<|w.Id<v.Id)++ [v]++l.filter λw=>decide<|w.Id>v.Id
theorem ABe {l:List Vol} (h:(l.map Vol.Id).Pairwise (·<·)) (hv:∀w∈l,w.Id≠v.Id) (hl:l.length<=3):LC (Oa Bz) (l++ [v])=some (ACj l v):=by
 have hk:∀x,Bz x=x.Id:=λ_=>rfl
 obtain⟨r,h1,h2,h3⟩:=iJ Bz (l++ [v]) (by simp;omega);have hs:srt Bz (ACj l v):=by
  have:=aN h v;rw[List.pairwise_map]at this
  exact this.imp λhh=>by grind
 have:r=ACj l v:=by
  refine Oo _ h2 hs λk=>?_
  rw[h3 k];unfold ACj;rw[Cq,Cq,Cq,DX,DX]
  rcases Int.lt_trichotomy k v.Id with e|e|e
  ·grind [BM]
  ·grind [BM]
  grind [BM]
 rw[h1,this]
theorem mX {r:Cm} {q:Int} (h:Ci s) (hn:CR s r.Vol=some (-1)) (hv:∀v∈s.Vols,v.Id≠r.Vol) (h3:s.Vols.length≠3) (hq:(cond (decide (r.Arg>0)) ((CR s r.Arg).bind λv1=>cond (decide (v1<0)) ((DI s).bind λv2=>some (.inr (v2,false))) ((gi s.Vols v1).bind λx1=>some (.inl x1.Root))) (some (.inl (-1))):Option (Int⊕(Store×Bool)))=some (.inl q)):Ga s r=some (Store.mk (ACj s.Vols (Vol.mk r.Vol q)) s.Arena s.Next,true):=by
 have hl:=h.len;have c:=Lr h.ar (by have:=h.few;omega);have a:=Gc s c (by omega);unfold Ga;rw[hq,hn];simp only[Aa,Dj];rw[cF,Bb,show((s.Vols.length:Int)==3)=false by simp;omega];rw[a];have k1:=Ud (body:=λq:List Vol×Int=>Hj s r q.1 q.2) s.Vols (λv=>decide<|v.Id<r.Vol) [] (by simp;omega)
  (λi v b hv ho=>by
   have hi:=(Ad.1 hv).1;simp only[Hj,Ds hi,Aq,hv,Aa]
   grind [ad1,AZ])
  (λb=>by simp[CU,Hj])
 rw[Az]at k1;rw[k1];simp only[Aa];have d:=iI s.Vols r.Vol;rw[AZ (by simp;omega)];simp only[Aa];have k2:=Ud (body:=λq:List Vol×Int=>Hi s r q.1 q.2) s.Vols (λv=>decide<|v.Id>r.Vol) ((s.Vols.filter λv=>decide<|v.Id<r.Vol)++ [Vol.mk r.Vol q]) (by simp;omega)
  (λi v b hv ho=>by
   have hi:=(Ad.1 hv).1;simp only[Hi,Ds hi,Aq,hv,Aa]
   grind [ad1,AZ])
  (λb=>by simp[CU,Hi])
 rw[k2];rfl
theorem sD {r:Cm} (h:Ci s) (hb:G0 r=true) (hk:r.Kind=2):∃t ok,Ga s r=some (t,ok)/\Ex s r.Vol r.Arg=some (ok,t):=by
 have hl:=h.len;have a:=Lr h.ar (by have:=h.few;omega);have c:=Gc s a (by omega);have hr:=hb;unfold G0 at hr;rw[hk]at hr;simp at hr
 have b:∀id,JN s id=CR s id:=λ_=>rfl
 have root:(Ga s r=some (s,false)/\Ex s r.Vol r.Arg=some (false,s))\/∃q,(cond (decide<|r.Arg>0) ((CR s r.Arg).bind λv1=>cond (decide<|v1<0) ((DI s).bind λv2=>some<|.inr (v2,false))<|(gi s.Vols v1).bind λx1=>some<|.inl x1.Root) (some<|.inl<|-1):Option (Int⊕(Store×Bool)))=some (.inl q)/\(cond (r.Arg !=0) ((CR s r.Arg).bind λv1=>cond (decide<|v1<0) (some<|.inr (false,s))<|(gi s.Vols v1).bind λx1=>some<|.inl x1.Root) (some<|.inl<|-1):Option (Int⊕(Bool×Store)))=some (.inl q):=by grind [ED,Aq,Ga,Ex]
 rcases root with⟨g1,g2⟩|⟨q,g1,g2⟩
 ·grind
 rcases ED s (by omega) r.Vol with⟨h1,h2⟩|⟨k,v,h1,h2,h3,_⟩
 ·by_cases h3:s.Vols.length=3
  ·simp_all [Bb,Ga,Ex]
  refine⟨_,true,mX h h1 h2 h3 g1,?_⟩;unfold Ex;rw[b,b,g2,h1];simp only[Aa,Dj];rw[cF,Bb,Ai (by omega:¬(s.Vols.length:Int)>=3)];rw[AZ (by simp;omega)];simp only[Aa];rw[ABe h.asc (v:=Vol.mk r.Vol q) h2 hl];rfl
 simp_all [Ga,Ex]
theorem wP (h:Ci s) (r:Cm):ZG s r=QT s r:=by
 have hl:=h.len;have d:=Lr h.ar (by have:=h.few;omega);have e:=Gc s d (by omega);have c:=OK s d<|by omega
 have g:∀id,JN s id=CR s id:=λ_=>rfl
 have f:R1 r=some (G0 r):=by
  obtain⟨v,a1,a2,_⟩:=eH r
  grind [NU]
 have a:=Xe h r;unfold ZG;rw[c,Y9 h,f];simp only[Aa,Ak,Ae]
 cases hb:G0 r with
 |false=>grind [Lb,CN]
 |true=>
  simp only[Ak,Ae];have hr:=hb;unfold G0 at hr;unfold QT at a⊢;rw[SF h,NU,hb]at a⊢;simp only[Aa,Ak,Ae]at a⊢;unfold PM
  cases k1:(r.Kind==1)with
  |true=>
   have e1:r.Kind=1:=by simpa using k1
   rw[e1]at hr;simp at hr;simp only[Ao,Aa,Ak,Ae];have hj:(cond (r.Arg==0) (some 1) (some r.Arg):Option Int)=some (if 1>r.Arg then 1 else r.Arg):=by grind
   rw[hj];simp only[Aa];have hP:Ci (Store.mk [] (Arena.mk [])<|if 1>r.Arg then 1 else r.Arg):=by
    refine⟨⟨by simp,rfl,?_,by simp,by simp,by simp[AM],by simp[AM],by simp⟩,by simp⟩
    grind
   rw[Rp hP.toStoreR,aE hP];rfl
  |false=>
   simp only[Ae];rw[k1]at hr a;simp only[Ae]at a
   cases k2:(r.Kind==2)with
   |true=>
    rw[k2]at a;simp only[Ao]at a⊢;obtain⟨t,ok,c1,c2⟩:=sD h hb (by simpa using k2);rw[c1]at a⊢;rw[c2];simp only[Aa]at a⊢;unfold Lb at a
    cases ok with
    |false=>grind
    |true=>
     split at a
     ·grind
     obtain⟨t',q,hP,_⟩:=a
     injection q with q
     injection q with q _
     subst q;simp only[Ak,Ae];have i:Store.mk t.Vols (Arena.mk t.Arena.Knots) t.Next=t:=rfl;rw[i,Rp hP.toStoreR,aE hP];rfl
   |false=>
    simp only[Ae];rw[k2]at hr;rw[g]
    rcases ED s (by omega) r.Vol with⟨h1,h2⟩|⟨k,v,h1,h2,h3,_⟩
    ·grind
    rw[h1];simp only[Aa];rw[cF];simp only[Aa];have hm:=Aj h2;have j:=(Ad.1 h2).1
    cases hc:(r.Chunk==1000000000)with
    |true=>grind
    |false=>
     simp only[Ae];have l:r.Chunk≠1000000000:=by simpa using hc
     rw[e];simp only[Aa]
     cases k3:(r.Kind==3)with
     |true=>
      simp only[Ao];rw[Bb,ad1];have d1:dr s.Vols 0 (k:Int)=some (s.Vols.take k):=by grind [dr]
      have d2:dr s.Vols ((k+1:Nat):Int) (s.Vols.length:Int)=some (s.Vols.drop<|k+1):=by grind [AQ,dr]
      rw[d1,d2];simp only[Aa];rw[Mg (by simp;omega)];simp only[Aa];rw[AZ (by simp;omega),PQ h.asc h2,h3];simp only[Aa,Ak,Ae];have hR:=ACy h r.Vol;simp_all [Mp,Rp]
     |false=>
      simp only[Ae];rw[k3]at hr;have ha:0<=r.Arg/\r.Arg<16/\0<=r.Chunk/\r.Chunk<=1000000000:=by grind
      obtain⟨t,ht⟩:∃t:Nat,r.Arg=(t:Int):=⟨_,(AL ha.1).symm⟩;have b:=h.root _<|A6.2 ⟨v,hm,rfl⟩;rw[Aq,h2];simp only[Aa];rw[ht,aY _ (by have:=h.few;omega) h.ar b (by omega) ha.2.2.1,vA _ (by have:=h.few;omega) h.ar b (by omega) ha.2.2.1];simp only[Aa,Ak,Ae];rw[DQ,Cl];have hR:=AEy h h2 (show t<16 by omega) ha.2.2.1<|show r.Chunk+1<=1000000000 by omega
      grind [Mp,Rp]
theorem gP (h:Ci s) (a:List Cm) (hr:a.length<=1048576):RB s a=LR s a:=by
 have hl:=h.len;have d:=Lr h.ar (by have:=h.few;omega);have e:=Gc s d (by omega);have c:=OK s d (by omega);unfold RB LR;rw[e,c];obtain⟨b,h1,h2,_⟩:=Gk (body:=λq:Int×List Vol×List Bf×Int=>El s a q.1 q.2.1 q.2.2.1 q.2.2.2) (body':=λq:Int×List Vol×List Bf×Int=>J9 s a q.1 q.2.1 q.2.2.1 q.2.2.2) (λ(t:Store) i=>(i,t.Vols,t.Arena.Knots,t.Next)) a.length (λ_ t=>Ci t) (λ_=>True)
  (λt i hi hP=>by
   have hx:=Ab hi;have f:Store.mk t.Vols (Arena.mk t.Arena.Knots) t.Next=t:=rfl;have g:=Xe hP a[i];simp only[El,J9,Ds hi,Aq,hx,Aa];rw[f,wP hP]
   grind [ad1,Lb])
  (λt _=>⟨by simp[CU,El,J9],.inl (t.Vols,t.Arena.Knots,t.Next),by simp[CU,El],trivial⟩) (s:=s) h
 grind
theorem cQ (l:List Tx) (hl:l.length<=1048576) (hr:∀x∈l,x.Recs.length<=20000):P5 l=some (CB l):=by
 unfold P5;obtain⟨b,h1,h2⟩:=AC (body:=λs:Int×Int=>I5 l s.1 s.2) (λ(o:Int) i=>(o,i)) l.length (λi o=>o=(vY (l.take i):Int)) (λb=>b=(vY l:Int))
  (λo i hi ho=>by
   have hx:=Ab hi;have et:l.take (i+1)=l.take i++ [l[i]]:=Ag hi;have a:(l.take i).length=i:=by grind
   simp only[I5,Ds hi,Aq,hx,Aa]
   grind [ad1,jQ,ZN])
  (λo ho=>⟨o,by simp[CU,I5],by grind⟩) (s:=0) rfl
 rw[h1,h2];simp only[Aa];have d:=vX l;have hd:dr l (vY l:Int) (ln l)=some (CB l):=by
  unfold dr;rw[Bb,Cn (by omega),Cj,Cj,AQ<|by simp];rfl
 rw[hd];simp only[Aa];obtain⟨b1,b2⟩:=TG l;obtain⟨c,q1,q2⟩:=AC (body:=λs:List Tx×Int=>I4 (CB l) s.1 s.2) (λ(o:List Tx) i=>(o,i)) (CB l).length (λi o=>o=(CB l).take i) (λb=>b=CB l)
  (λo i hi ho=>by
   have hx:=Ab hi;have e:=hr _<|b2 _<|Aw hi;have et:(CB l).take (i+1)=(CB l).take i++ [(CB l)[i]]:=Ag hi;simp only[I4,Ds hi,Aq,hx,Aa];rw[Mg (by omega),Aa,AZ (by grind),Aa,ad1]
   exact .inl ⟨_,rfl,by rw[et,<-ho]⟩)
  (λo ho=>⟨o,by simp[CU,I4],by grind⟩) (s:=[]) rfl
 grind
theorem nJ (h:gL f r):Up f=some (D6 r-1):=by
 have a:=h.len;unfold Up;rw[h.i];simp only[Aa];obtain⟨b,h1,h2⟩:=AC (body:=λs:Int×Int=>Ln r s.1 s.2) (λ(o:Int) i=>(o,i)) r.length (λi o=>o=D6 (r.take i)-1) (λb=>b=D6 r-1)
  (λo i hi ho=>by
   have hx:=Ab hi;have et:r.take (i+1)=r.take i++ [r[i]]:=Ag hi;simp only[Ln,Ds hi,Aq,hx,Aa];rw[ad1]
   grind [Zz])
  (λo ho=>⟨o,by simp[CU,Ln],by grind⟩) (s:=0) (by simp[D6])
 grind
theorem vC (r:List Al) (hr:G6 r):Ah (λs:Int×Int=>HL r s.1 s.2) (0,1)=some (EI r):=by
 have a:=hr.len;obtain⟨b,h1,h2⟩:=AC (body:=λs:Int×Int=>HL r s.1 s.2) (λ(o:Int) i=>(i,o)) r.length (λi o=>o=EI (r.take i)) (λb=>b=EI r)
  (λo i hi ho=>by
   have hx:=Ab hi;have ht:=hr.tx _<|Aw hi;have et:r.take (i+1)=r.take i++ [r[i]]:=Ag hi;simp only[HL,Ds hi,Aq,hx,Aa]
   grind [Cl,Zx])
  (λo ho=>⟨o,by simp[CU,HL],by grind⟩) (s:=1) rfl
 grind
theorem cU (l:List Tx) (hl:l.length<=1048576) (hr:∀x∈l,x.Recs.length<=20000):Ah (λs:Int×List Vol×List Bf×Int×Int=>HK l s.1 s.2.1 s.2.2.1 s.2.2.2.1 s.2.2.2.2) (0,[],[],1,0)=Ah (λs:Int×List Vol×List Bf×Int×Int=>Dr l s.1 s.2.1 s.2.2.1 s.2.2.2.1 s.2.2.2.2) (0,[],[],1,0):=by
 obtain⟨b,h1,h2,_⟩:=Gk (body:=λs:Int×List Vol×List Bf×Int×Int=>Dr l s.1 s.2.1 s.2.2.1 s.2.2.2.1 s.2.2.2.2) (body':=λs:Int×List Vol×List Bf×Int×Int=>HK l s.1 s.2.1 s.2.2.1 s.2.2.2.1 s.2.2.2.2) (λ(o:Store×Int) i=>(i,o.1.Vols,o.1.Arena.Knots,o.1.Next,o.2)) l.length (λ_ o=>Ci o.1) (λ_=>True)
  (λo i hi hP=>by
   obtain⟨t,b0⟩:=o;have hx:=Ab hi;have d:=hr _<|Aw hi;have c:Store.mk t.Vols (Arena.mk t.Arena.Knots) t.Next=t:=rfl;simp only[Dr,HK,Ds hi,Aq,hx,Aa];rw[c,gP hP _ (by omega),ad1];have a:=YH hP l[i].Recs (by omega);unfold Rm at a;obtain⟨j,hj⟩:∃j,(cond ((i:Int)==0) (some l[i].Num) (some b0):Option Int)=some j:=by
    cases((i:Int)==0)with
    |true=>exact⟨_,rfl⟩
    |false=>exact⟨_,rfl⟩
   rw[hj];split at a
   ·rw[a];exact⟨rfl,.inl ⟨(t,j),rfl,hP⟩⟩
   obtain⟨u,u1,u2,_⟩:=a;rw[u1]
   exact⟨rfl,.inl ⟨(u,j),rfl,u2⟩⟩)
  (λo _=>⟨by simp[CU,Dr,HK],(o.1.Vols,o.1.Arena.Knots,o.1.Next,o.2),by simp[CU,Dr],trivial⟩) (s:=(Store.mk [] (Arena.mk []) 1,0)) iD
 grind
theorem JF (hf:Bl f):IA f=Cs f:=by
 obtain⟨r,hs,_⟩:=ACU hf;have hr:=XD hs hf;obtain⟨g1,g2⟩:=VE hr;obtain⟨b1,b2⟩:=TG<|AU r;have a:=Ow r;have b:D6 r<=1000000001:=a.2.2 _ (by omega) (λy hy=>by have:=(hr.seq y hy).2;omega);unfold IA Cs;rw[OP,QA hf,hs.s,hs.i,Cx f hf.cap,Gt,Cx f hf.cap,nJ hs];unfold O4 R0;simp only[Aa,Ak,Ae];rw[W0 r hr,vC r hr,Pt r hr,YA r hr];simp only[Aa];rw[SG _ g1 g2,cQ _ g1 g2];simp only[Aa];rw[cU (CB<|AU r) (by omega) λx hx=>g2 x<|b2 x hx,Cl,show D6 r-1+1=D6 r by omega]
theorem jW {r:Int} (h:Ci s) (hr:r∈AM s):PB s.Arena r=some (DJ s.Arena.Knots r):=by
 obtain⟨l,l1,l2,_⟩:=Lw s.Arena (dX h) r;rw[O9 s.Arena (by have:=h.few;omega) h.ar<|h.root r hr]at l1;rw[l2,l1]
theorem f9 (ha:Ci a) (hb:Ci b) (e:AF a=AF b) (n:a.Next=b.Next):Ky a b=some true:=by
 have f:=ha.len;have d:a.Vols.length=b.Vols.length:=by grind [Lt]
 unfold Ky;rw[show(ln a.Vols !=ln b.Vols)=false by grind [Bb],show(a.Next !=b.Next)=false by rw[n];simp];obtain⟨q,h1,h2⟩:=AC (body:=λs:Int=>Ez a b s) (λ(_:Unit) i=>i) a.Vols.length (λ_ _=>True) (λq=>q= .inl ())
  (λ_ i hi _=>by
   have hx:=Ab hi;have hy:=Ab (show i<b.Vols.length by omega);have c:(AF a)[i]?=(AF b)[i]? :=by rw[e]
   unfold AF at c;rw[E4,E4,hx,hy]at c;simp only[JZ,A0,Prod.mk.injEq]at c;obtain⟨e1,e2⟩:=c;simp only[Ez,Ds hi,Aq,hx,hy,Aa];rw[jW hb (A6.2 ⟨_,Aw (show i<b.Vols.length by omega),rfl⟩),jW ha<|A6.2 ⟨_,Aw hi,rfl⟩,e1,e2];simp only[Aa,bne_self_eq_false,Ae];generalize hR:DJ b.Arena.Knots b.Vols[i].Root=R;have g:R.length=16:=by grind [DJ]
   obtain⟨z,z1,z2⟩:=AC (body:=λs:Int=>Ey R R s) (λ(_:Unit) i=>i) R.length (λ_ _=>True) (λq=>q= .inl ())
    (λ_ k hk _=>by
     have hx:=Ab hk;simp only[Ey,Ds hk,Aq,hx,Aa,bne_self_eq_false,Ae];rw[ad1]
     simp)
    (λ_ _=>⟨_,by simp[CU,Ey],rfl⟩) (s:=()) trivial
   rw[z1,z2];rw[ad1]
   simp)
  (λ_ _=>⟨_,by simp[CU,Ez],rfl⟩) (s:=()) trivial
 grind
theorem WW (h:Hb d r):JV d=some true:=by
 obtain⟨m,m1,m2,m3⟩:=Nn h.fl h.sr;obtain⟨e1,e2,e3⟩:=Ic h m2 rfl;unfold JV;rw[JF h.fl,m1];simp only[Aa,Ao];rw[Y9 h.st,f9 m2.st h.st e1 e2];rw[m2.seq,h.seq,m2.tx,h.tx,e3];simp
theorem tF (hf:Bl f) (l:List AH) (hl:l.length<=1048576):∃g n,IR f l=some (g,n)/\Bl g:=by
 unfold IR;rw[Cx f hf.cap];simp only[Aa];obtain⟨b,h1,g,n,h2,h3⟩:=AC (body:=λs:Int×List Block=>DE l s.1 s.2) (λ(o:Flash) i=>(i,o.Blocks)) l.length (λ_ o=>Bl o) (λb=>∃g n,(b= .inl g.Blocks/\n=ln l\/b= .inr (g,n))/\Bl g)
  (λo i hi ho=>by
   have hx:=Ab hi;have a:Flash.mk o.Blocks=o:=rfl;simp only[DE,Ds hi,Aq,hx,Aa];rw[a]
   rcases QW ho l[i]with⟨k1,k2⟩|⟨_,k2⟩
   ·grind [ad1,lA]
   grind)
  (λo ho=>⟨.inl o.Blocks,by simp[CU,DE],o,ln l,.inl ⟨rfl,rfl⟩,ho⟩) (s:=f) hf
 rw[h1]
 rcases h2 with⟨rfl,rfl⟩|rfl
 ·simp_all
 grind
theorem Vf (hf:Bl d.Flash) (l:List AH) (hl:l.length<=1048576):OL d l=Hu d l:=by
 obtain⟨g,n,h1,h2⟩:=tF hf l hl;obtain⟨g',n',h3,h4,_⟩:=eS d.Flash l hf.cap hl
 grind [JF,OL,Hu]
theorem Xg (h:Hb d r):Le d=some d:=by
 unfold Le;rw[Gt,Cx d.Flash h.fl.cap,OK d.Store (Lr h.st.ar (by have:=h.st.few;omega)) (by have:=h.st.len;omega)];rfl
theorem gW (h:Jn d r) (hw:FU d.Flash 999999000) (most:Int):RF d most=It d most:=by
 unfold RF It;rw[Kh h.dev,Xg h.dev];simp only[Aa];obtain⟨b,b',h1,h2,d',all,h3,h4⟩:=jL (body:=λs:List AH×Int×List Block×List Vol×List Bf×Int×Int×Int×Int=>Em most s.1 s.2.1 s.2.2.1 s.2.2.2.1 s.2.2.2.2.1 s.2.2.2.2.2.1 s.2.2.2.2.2.2.1 s.2.2.2.2.2.2.2.1 s.2.2.2.2.2.2.2.2)
  (body':=λs:List AH×Int×List Block×List Vol×List Bf×Int×Int×Int×Int=>HM most s.1 s.2.1 s.2.2.1 s.2.2.2.1 s.2.2.2.2.1 s.2.2.2.2.2.1 s.2.2.2.2.2.2.1 s.2.2.2.2.2.2.2.1 s.2.2.2.2.2.2.2.2)
  (λ(o:List AH×Device) i=>(o.1,i,o.2.Flash.Blocks,o.2.Store.Vols,o.2.Store.Arena.Knots,o.2.Store.Next,o.2.Seq,o.2.Tx,o.2.Base)) (λ(o:List AH×Device) i=>(o.1,i,o.2.Flash.Blocks,o.2.Store.Vols,o.2.Store.Arena.Knots,o.2.Store.Next,o.2.Seq,o.2.Tx,o.2.Base)) 20
  (λi o=>o.1.length<=200*i/\(∃r',Jn o.2 r')/\FU o.2.Flash (999999000+i))
  (λb b'=>∃(d':Device) (all:List AH),(b= .inr (d',all)\/b= .inl (all,d'.Flash.Blocks,d'.Store.Vols,d'.Store.Arena.Knots,d'.Store.Next,d'.Seq,d'.Tx,d'.Base))/\b'=(all,d'.Flash.Blocks,d'.Store.Vols,d'.Store.Arena.Knots,d'.Store.Next,d'.Seq,d'.Tx,d'.Base))
  (λo i hi hs=>by
   obtain⟨all,e⟩:=o;obtain⟨c,⟨r',hg⟩,a⟩:=hs;simp only at c hg a;have f:Device.mk (Flash.mk e.Flash.Blocks) (Store.mk e.Store.Vols (Arena.mk e.Store.Arena.Knots) e.Store.Next) e.Seq e.Tx e.Base=e:=rfl;have g:Flash.mk e.Flash.Blocks=e.Flash:=rfl;obtain⟨v,v1,v2,_⟩:=Ye e.Flash hg.dev.fl.cap (by have:=hg.dev.fl.few;omega);simp only[Em,HM];rw[f,g,v1,v2,Ac (by omega:(i:Int)<20),show decide ((i:Int)<(if 20<most then 20 else most))=decide ((i:Int)<most) by grind];simp only[Ao,Aa];obtain⟨j,hj⟩:∃j,(bif decide ((i:Int)<most)then some (decide<|v<12)else some false:Option Bool)=some j:=by
    cases decide ((i:Int)<most)with
    |true=>exact⟨_,rfl⟩
    |false=>exact⟨_,rfl⟩
   rw[hj];simp only[Aa]
   cases j with
   |false=>grind
   |true=>
    obtain⟨steps,ok,c1,c2,_,c3⟩:=eW hg (λx hx=>by have:=a x hx;omega);rw[gV hg,c1];simp only[Aa]
    cases ok with
    |false=>exact .inr ⟨_,_,rfl,rfl,e,all,.inl rfl,rfl⟩
    |true=>
     obtain⟨d',r2,k1,k2,k3⟩:=(c3 rfl).full hg (by omega);rw[Vf hg.dev.fl _ (by omega),k1,Aa,AZ (by omega),ad1]
     exact .inl ⟨(all++steps,d'),rfl,rfl,by simp;omega,⟨r2,k3.good⟩,λx hx=>by have:=k3.wear _ a x hx;omega⟩)
  (λo hs=>by
   obtain⟨all,e⟩:=o;refine⟨.inl (all,e.Flash.Blocks,e.Store.Vols,e.Store.Arena.Knots,e.Store.Next,e.Seq,e.Tx,e.Base),_,?_,?_,e,all,.inr rfl,rfl⟩
   ·grind [Em]
   grind [HM]) (s:=([],d)) ⟨by simp,⟨r,h⟩,λx hx=>by have:=hw x hx;omega⟩
 have e1:Ah (λs:List AH×Int×List Block×List Vol×List Bf×Int×Int×Int×Int=>Em most s.1 s.2.1 s.2.2.1 s.2.2.2.1 s.2.2.2.2.1 s.2.2.2.2.2.1 s.2.2.2.2.2.2.1 s.2.2.2.2.2.2.2.1 s.2.2.2.2.2.2.2.2) ([],0,d.Flash.Blocks,d.Store.Vols,d.Store.Arena.Knots,d.Store.Next,d.Seq,d.Tx,d.Base)=some b:=h1;have e2:Ah (λs:List AH×Int×List Block×List Vol×List Bf×Int×Int×Int×Int=>HM most s.1 s.2.1 s.2.2.1 s.2.2.2.1 s.2.2.2.2.1 s.2.2.2.2.2.1 s.2.2.2.2.2.2.1 s.2.2.2.2.2.2.2.1 s.2.2.2.2.2.2.2.2) ([],0,d.Flash.Blocks,d.Store.Vols,d.Store.Arena.Knots,d.Store.Next,d.Seq,d.Tx,d.Base)=some b':=h2;rw[e1,e2,h4]
 rcases h3 with rfl|rfl
 ·rfl
 rfl
theorem AEa (ha:Ci a) (hb:Ci b) (e:AF a=AF b) (id:Int):CR a id=CR b id:=by
 have d:=ha.len;have f:=hb.len
 have c:∀i:Nat,(a.Vols[i]?).map Vol.Id=(b.Vols[i]?).map Vol.Id:=λi=>by
  have:=Cu (λl=>(l[i]?).map Prod.fst) e
  grind [AF]
 grind [ED]
theorem YV (h:Jn d r) (k:JI n d r e re) (q:Ask):Eu e q=Eu d q:=by
 have hv:(ln e.Store.Vols)=ln d.Store.Vols:=by rw[Bb,Bb,<-Lt,<-Lt,k.ab]
 have f:=AEa k.good.dev.st h.dev.st k.ab
 have g:((EK e.Store).bind λv4=>Ip e.Flash v4 q.Text)=(EK d.Store).bind λv4=>Ip d.Flash v4 q.Text:=by
  obtain⟨l,l1,_,l3,l4⟩:=Gy h.dev.st;obtain⟨m,m1,_,m3,m4⟩:=Gy k.good.dev.st;rw[l1,m1];simp only[Aa];obtain⟨v,v1,v2⟩:=Sa h.dev l4 q.Text;obtain⟨w,w1,w2⟩:=Sa k.good.dev m4 q.Text;rw[v1,w1];congr 1
  have hl:∀c,c∈m↔c∈l:=λc=>by rw[m3,l3,k.ab]
  rcases v2 with⟨rfl,v2⟩|⟨v2,v3⟩
  ·rcases w2 with⟨rfl,_⟩|⟨w2,w3⟩
   ·rfl
   rw[k.text _<|(l3 w).1<|(hl w).1 w2]at w3
   grind
  have a:=(l3 v).1 v2
  rcases w2 with⟨rfl,w2⟩|⟨w2,w3⟩
  ·exact absurd (by rw[k.text _ a];exact v3)<|w2 v<|(hl v).2 v2
  have b:=(l3 w).1<|(hl w).1 w2;rw[k.text _ b]at w3;exact h.data.dist _ _ b a<|by rw[w3,v3]
 unfold Eu;simp only[f,hv,k.nx];simp only[<-Option.bind_assoc,g]
theorem YT (h:Bl f):ON f=ML f:=by
 obtain⟨v,v1,v2,_⟩:=Ye f h.cap (by have:=h.few;omega);rw[v1,v2]
theorem wH (h:Jn d r) (hw:FU d.Flash 999999000) (q:Ask):ZE d q=TQ d q:=by
 unfold ZE TQ;obtain⟨v,p1,p2,p3⟩:=AAO d (TC h.dev) q;rw[Xg h.dev,Kh h.dev,WW h.dev,QX h.dev,p1,p2];simp only[Aa,Ak,Ae]
 cases a:(v.2.2 !=0)with
 |true=>rfl
 |false=>
  cases l:(q.Kind==6)with
  |true=>
   have hq:AEo q:=by
    obtain⟨i,j,no⟩:=v;have:no=0:=by simpa using a
    subst this;exact eM h.dev p1
   obtain⟨k,hk⟩:∃k:Nat,q.Sector=(k:Int):=⟨_,(AL hq.sec.1).symm⟩;simp only[Ao];rw[hk,u9 h q.Vol (by have:=hq.sec;omega),aX h.dev]
  |false=>
   rw[YT h.dev.fl,gW h hw 20];obtain⟨v5,b⟩:=Q6 h.dev.fl;rw[b];simp only[Aa];have clean:∃e all re,(cond (decide<|v5<12) ((It d 20).bind λv6=>some (v6.2,v6.1.Flash.Blocks,v6.1.Store.Vols,v6.1.Store.Arena.Knots,v6.1.Store.Next,v6.1.Seq,v6.1.Tx,v6.1.Base)) (some ([],d.Flash.Blocks,d.Store.Vols,d.Store.Arena.Knots,d.Store.Next,d.Seq,d.Tx,d.Base)):Option (List AH×List Block×List Vol×List Bf×Int×Int×Int×Int))=some (all,Flash.Blocks<|Device.Flash e,e.Store.Vols,e.Store.Arena.Knots,e.Store.Next,e.Seq,e.Tx,e.Base)/\JI 20 d r e re:=by
    cases decide (v5<12)with
    |false=>exact⟨d,[],r,rfl,JI.refl h⟩
    |true=>
     obtain⟨e,all,re,k1,k2,k3,_⟩:=eX h hw 20;rw[k1];exact⟨e,all,re,rfl,k2⟩
   obtain⟨e,all,re,k1,k5⟩:=clean;rw[k1];simp only[Aa];have c:Device.mk (Flash.mk e.Flash.Blocks) (Store.mk e.Store.Vols (Arena.mk e.Store.Arena.Knots) e.Store.Next) e.Seq e.Tx e.Base=e:=rfl;have f:Flash.mk e.Flash.Blocks=e.Flash:=rfl;rw[c,f,YV h k5 q,p1,YT k5.good.dev.fl];simp only[Aa];obtain⟨st,ok,w1,w2,w3⟩:=PR e k5.good.dev.fl.cap v.1 (by omega) v.2.1;obtain⟨v9,g⟩:=Q6 k5.good.dev.fl;rw[w1,w2,g];simp only[Aa];rw[Vf k5.good.dev.fl st<|by omega]
   grind
theorem ACA (h:Jn d r):L7 n d r []:=⟨⟨d.Flash,rfl⟩,λk g _ hg=>by
 obtain⟨m,m1,m2⟩:=hg;rw[List.take_nil]at m1;obtain rfl:m=d.Flash:=m1
 rcases m2 with rfl|⟨s,s1,_⟩
 ·obtain⟨x,hx⟩:=(JI.refl (n:=n) h).torn h.dev.fl rfl λ_ h=>h;exact⟨x,r,hx⟩
 simp at s1⟩
def AG7 (d:Device) (r:List Al) (d':Device) (r':List Al) (g:Flash):Prop:=∃x rx,Cs g=some (x,true)/\x.Flash=g/\Jn x rx/\x.Store.Next<=d.Store.Next+1/\(∀w:Int,FU d.Flash w->FU x.Flash (w+21))/\
 ((AF x.Store=AF d.Store/\∀c,Dz (AF d.Store) c->BX rx c=BX r c)\/(AF x.Store=AF d'.Store/\rx=r'))
structure ZO (d:Device) (r:List Al) (q:Ask) (d':Device) (steps:List AH) (t:ByteArray) (no:Int) (r':List Al):Prop where
 good:Jn d' r'
 len:steps.length<=4010
 nx:d'.Store.Next<=d.Store.Next+1
 ids:AC1 d d' q.Vol
 wear:∀w:Int,FU d.Flash w->FU d'.Flash (w+20)
 tk:∀c,Dz (AF d.Store) c->BX r' c=BX r c
 kept:no≠0\/q.Kind=6->AF d'.Store=AF d.Store
 text:q.Kind≠6\/no≠0->t=bs []
 read:q.Kind=6->no=0->∃ok,O7 d q.Vol q.Sector=some (t,ok)
 done:∃recs text n,Eu d q=some (recs,text,n)/\(n≠0->no=n)/\(n=0->no=0\/no=4\/q.Kind=6/\no=1)/\(no=0->q.Kind≠6->(recs=[]/\AF d'.Store=AF d.Store)\/
  ∃x,recs=[x]/\qK d r q x text/\CN (AF d.Store) d.Store.Next x=some (AF d'.Store,d'.Store.Next)/\(L text≠ []->BX r' x.Chunk=some q.Text))
 walk:Steps d.Flash steps d'.Flash
 cut:∀k g,k<=steps.length->YJ d.Flash steps k g->AG7 d r d' r' g
theorem JI.served {no:Int} {steps:List AH} (k:JI 20 d r e re) (hs:Steps d.Flash steps e.Flash) (hc:L7 20 d r steps) (hl:steps.length<=4010) (ht:q.Kind≠6\/no≠0->t=bs []) (hr:q.Kind=6->no=0->∃ok,O7 d q.Vol q.Sector=some (t,ok)) (hd:∃c text n,Eu d q=some (c,text,n)/\(n≠0->no=n)/\(n=0->no=0\/no=4\/q.Kind=6/\no=1)/\(no=0->q.Kind≠6->c=[])):ZO d r q e steps t no re:=by
 obtain⟨c,text,n,h1,h2,h3,h4⟩:=hd;refine⟨k.good,hl,by have:=k.nx;omega,rB k.ab _,k.wear,k.text,λ_=>k.ab,ht,hr,⟨c,text,n,h1,h2,h3,λa b=> .inl ⟨h4 a b,k.ab⟩⟩,hs,λj g hj hg=>?_⟩;obtain⟨x,rx,x1,x2,x3⟩:=hc.2 j g hj hg;exact⟨x,rx,x1,x2,x3.good,by have:=x3.nx;omega,λw hw b hb=>by have:=x3.wear w hw b hb;omega,.inl ⟨x3.ab,x3.text⟩⟩
theorem AEh (h:Jn d r) (hw:FU d.Flash 999999000) (n:d.Store.Next<1000000000) (q:Ask):∃d' steps t no r',TQ d q=some (d',steps,t,no)/\ZO d r q d' steps t no r':=by
 unfold TQ;rw[Kh h.dev,QX h.dev];obtain⟨f,text,no,p1,p2,p3⟩:=s9 h.dev q;obtain⟨recs',text',no',t1,t2,_⟩:=ACY h.dev n q;rw[p1]at t1;rw[p1];simp only[Aa];have k0:JI 20 d r d r:=JI.refl h;have c0:L7 20 d r []:=ACA h
 cases i:(no !=0)with
 |true=>
  have hn:no≠0:=by simpa using i
  exact⟨_,_,_,_,r,rfl,k0.served rfl c0 (by simp) (λ_=>rfl) (λ_ e=>absurd e hn) ⟨_,_,_,p1,λ_=>rfl,λe=>absurd e hn,λe=>absurd e hn⟩⟩
 |false=>
  have o:no=0:=by simpa using i
  subst o;have hq:=eM h.dev p1
  cases j:(q.Kind==6)with
  |true=>
   have hk:q.Kind=6:=by simpa using j
   obtain⟨k,v⟩:∃k:Nat,q.Sector=(k:Int):=⟨_,(AL hq.sec.1).symm⟩;obtain⟨u,ok,u1⟩:∃u ok,O7 d q.Vol q.Sector=some (u,ok):=by
    rw[aX h.dev,v]
    rcases Yq h q.Vol (k:=k) (by have:=hq.sec;omega)with⟨_,e⟩|⟨h6,c,_,_,_,⟨_,e⟩|⟨_,_,u,_,e⟩⟩<;>exact⟨_,_,e⟩
   rw[u1]
   cases ok with
   |false=>exact⟨_,_,_,_,r,rfl,k0.served rfl c0 (by simp) (λ_=>rfl) (λ_ e=>by cases e) ⟨_,_,_,p1,λe=>absurd rfl e,λ_=> .inr (.inr ⟨hk,rfl⟩),λe=>by cases e⟩⟩
   |true=>exact⟨_,_,_,_,r,rfl,k0.served rfl c0 (by simp) (λe=>by omega) (λ_ _=>⟨true,u1⟩) ⟨_,_,_,p1,λe=>absurd rfl e,λ_=> .inl rfl,λ_ e=>absurd hk e⟩⟩
  |false=>
   have hk:q.Kind≠6:=by simpa using j
   obtain⟨v5,z⟩:=Q6 h.dev.fl;rw[z];simp only[Aa];have clean:∃e all re,(cond (decide<|v5<12) ((It d 20).bind λv6=>some (v6.2,v6.1.Flash.Blocks,v6.1.Store.Vols,v6.1.Store.Arena.Knots,v6.1.Store.Next,v6.1.Seq,v6.1.Tx,v6.1.Base)) (some ([],d.Flash.Blocks,d.Store.Vols,d.Store.Arena.Knots,d.Store.Next,d.Seq,d.Tx,d.Base)):Option (List AH×List Block×List Vol×List Bf×Int×Int×Int×Int))=some (all,Flash.Blocks<|Device.Flash e,e.Store.Vols,e.Store.Arena.Knots,e.Store.Next,e.Seq,e.Tx,e.Base)/\JI 20 d r e re/\all.length<=4000/\Steps d.Flash all e.Flash/\L7 20 d r all:=by
    cases decide (v5<12)with
    |false=>exact⟨d,[],r,rfl,k0,by simp,rfl,c0⟩
    |true=>
     obtain⟨e,all,re,k1,k2,k3,k4,k5⟩:=eX h hw 20
     grind
   obtain⟨e,all,re,k1,k5,k4,k3,kc⟩:=clean;rw[k1];simp only[Aa];have h0:Device.mk (Flash.mk e.Flash.Blocks) (Store.mk e.Store.Vols (Arena.mk e.Store.Arena.Knots) e.Store.Next) e.Seq e.Tx e.Base=e:=rfl;have h1:Flash.mk e.Flash.Blocks=e.Flash:=rfl;have k2:=k5.good;have l:=YV h k5 q;rw[h0,h1,l,p1];simp only[Aa];have stay:ZO d r q e all (bs []) 4 re:=k5.served k3 kc (by omega) (λ_=>rfl) (λhh=>absurd hh hk) ⟨_,_,_,p1,λe=>absurd rfl e,λ_=> .inr (.inl rfl),λe=>by cases e⟩;obtain⟨v9,h2⟩:=Q6 k2.dev.fl;obtain⟨st,ok,w1,_,w3⟩:=PR e k2.dev.fl.cap f (by grind) text;rw[w1,h2]
   cases h3:ok with
   |false=>grind
   |true=>
    subst h3;simp only[Ak,Ae,Aa]
    cases decide (v9<8)with
    |true=>grind
    |false=>
     rcases p2 with⟨rfl,rfl⟩|⟨_,x,rfl,p4⟩
     ·have h7:Da e [] (bs [])=some ([],true):=rfl
      injection w1 with w1
      injection w1 with w1 _
      subst w1;obtain⟨d',u1,u2,u3⟩:=k5.torn k2.dev.fl rfl λ_ hh=>hh;rw[QP k2.dev (steps:=[]) rfl (by simp) u1,Aa,AZ (by simp;omega),AW];exact⟨_,_,_,_,re,rfl,u3.served (by rw[u2];exact k3) kc (by omega) (λ_=>rfl) (λhh=>absurd hh hk) ⟨_,_,_,p1,λe=>absurd rfl e,λ_=> .inl rfl,λ_ _=>rfl⟩⟩
     obtain⟨recs2,text2,no2,s1,s2,_⟩:=s9 k2.dev q;rw[l,p1]at s1;have h4:qK e re q x text:=by grind
     rcases ADa k2 h4 with w|⟨steps,d',r',a1,a2,a3,a4,a5,_,a7,_,aw,a8,tt,_,ac⟩
     ·grind
     rw[a1]at w1
     injection w1 with w1
     injection w1 with w1 _
     subst w1;rw[a3,Aa,AZ<|by omega];obtain⟨p,hp⟩:∃p,CN (AF d.Store) d.Store.Next x=some p:=by grind
     rw[k5.ab,k5.nx,hp,D4]at a5;have hnx':=k5.nx
     have a:∀w:Int,FU d.Flash w->FU d'.Flash (w+20):=λw hw=>aw _<|k5.wear w hw
     refine⟨_,_,_,_,r',rfl,⟨a4,by simp;omega,by omega,λy hy=>by rw[<-p4.2.2.1];grind [vK,CN],a,λc hc=>by rw[tt.1 c (by rw[k5.ab];exact hc),k5.text c hc],λhh=>by omega,λ_=>rfl,λhh=>absurd hh hk,
      ⟨_,_,_,p1,λe=>absurd rfl e,λ_=> .inl rfl,λ_ _=> .inr ⟨x,rfl,p4,by rw[hp,a5],λe=>?_⟩⟩,(HO _ _ _ _).2 ⟨_,k3,a8⟩,λk g h8 hg=>?_⟩⟩
     ·rw[tt.2 e]
      rcases p4.2.2.2 with⟨q1,_⟩|⟨_,_,_,q4,_⟩
      ·exact absurd q1 e
      exact q4
     rcases j9 hg k3 with⟨c1,c2⟩|⟨c1,c2⟩
     ·obtain⟨x,rx,x1,x2,x3⟩:=kc.2 k g (by omega) c2;exact⟨x,rx,x1,x2,x3.good,by have:=x3.nx;omega,λw hw b hb=>by have:=x3.wear w hw b hb;omega,.inl ⟨x3.ab,x3.text⟩⟩
     by_cases h5:k-all.length<steps.length
     ·obtain⟨y,ry,y1,y2,y3,_⟩:=ac _ g h5 c2;exact⟨y,ry,y1,y2,y3.good,by have:=y3.nx;omega,λw hw b hb=>by have:=y3.wear _ (k5.wear w hw) b hb;omega,.inl ⟨by rw[y3.ab,k5.ab],λc hc=>by rw[y3.text c (by rw[k5.ab];exact hc),k5.text c hc]⟩⟩
     obtain⟨m,m1,m2⟩:=c2;rw[AQ<|by omega]at m1;obtain rfl:=Q5 m1 a8
     rcases m2 with rfl|⟨s,s1,_⟩
     ·obtain⟨y,u1,u2,u3⟩:=Nn a4.dev.fl a4.dev.sr;obtain⟨e1,e2,_⟩:=Ic a4.dev u2 rfl;exact⟨y,r',u1,u3,⟨u2,a4.core,by rw[e1];exact a4.data⟩,by omega,λw hw b hb=>by rw[u3]at hb;have:=a w hw b hb;omega,.inr ⟨e1,rfl⟩⟩
     grind
theorem kD {l:List Shelf} (h:JP l) {body:List Shelf×Int->Option ((List Shelf×Int)⊕List Shelf)} (hb:∀o i,body (o,i)=bif decide (i<ln l)then((gi l i).bind λx=>(ap 16 [] x.Texts).bind λq1=>(ap 32 o [Shelf.mk x.Vol q1]).bind λq2=>some (.inl (q2,ad i 1)))else some (.inr o)):Ah body ([],0)=some l:=by
 have h1:=h.1;obtain⟨b,h3,rfl⟩:=AC (body:=body) (λ(o:List Shelf) i=>(o,i)) l.length (λi o=>o=l.take i) (λb=>b=l)
  (λo i hi ho=>by
   have hx:=Ab hi;have:=h.2 _<|Aw hi;rw[hb];simp only[Ds hi,Aq,hx,Aa];rw[AZ (by simp;omega),Aa,Az,AZ (by grind),Aa,ad1]
   exact .inl ⟨_,rfl,by rw[ho,Ag hi]⟩)
  (λo ho=>⟨o,by simp_all [CU],by grind⟩) (s:=[]) rfl
 exact h3
theorem sF {l:List Shelf} (h:JP l):Kg l=some l/\Mt l=some l:=by
 constructor
 ·grind [kD,Kg,QK,gi]
 unfold Mt;rw[kD h λo i=>rfl];rfl
theorem vW (h:Hb d r) (vol:Int):Uf (Kv r (AF d.Store)) vol=QL (Kv r (AF d.Store)) vol/\((QL (Kv r (AF d.Store)) vol=some (-1)/\Jg (AF d.Store) vol=none)\/
  ∃k:Nat,∃a,QL (Kv r (AF d.Store)) vol=some (k:Int)/\(AF d.Store)[k]?=some (vol,a)/\Jg (AF d.Store) vol=some a):=by
 refine⟨rfl,?_⟩;have g:=h.st.len;have c:(Kv r<|AF d.Store).length=d.Store.Vols.length:=by unfold Kv AF;simp
 unfold QL;obtain⟨b,h1,h2⟩:=AC (body:=λs:Int=>Oy (Kv r<|AF d.Store) vol s) (λ(_:Unit) i=>i) d.Store.Vols.length (λi _=>∀j w,j<i->d.Store.Vols[j]?=some w->w.Id≠vol)
  (λb=>(b= .inl ()/\Jg (AF d.Store) vol=none)\/∃k:Nat,∃a,b= .inr (k:Int)/\(AF d.Store)[k]?=some (vol,a)/\Jg (AF d.Store) vol=some a)
  (λ_ i hi hs=>by
   have hv:=Ab hi;have hx:(Kv r<|AF d.Store)[i]?=some (Fq r (d.Store.Vols[i].Id,DJ d.Store.Arena.Knots d.Store.Vols[i].Root)):=by grind [Kv,AF]
   have f:i<(Kv r<|AF d.Store).length:=by omega
   simp only[Oy,Ds f,Aq,hx,Aa];by_cases e:d.Store.Vols[i].Id=vol
   ·rw[show((Fq r (d.Store.Vols[i].Id,DJ d.Store.Arena.Knots d.Store.Vols[i].Root)).Vol==vol)=true from HW.2 e];refine .inr ⟨_,rfl,.inr ⟨i,DJ d.Store.Arena.Knots d.Store.Vols[i].Root,rfl,?_,?_⟩⟩
    ·unfold AF;grind
    rw[<-e];exact Me h.st.asc<|Aw hi
   rw[show((Fq r (d.Store.Vols[i].Id,DJ d.Store.Arena.Knots d.Store.Vols[i].Root)).Vol==vol)=false from beq_eq_false_iff_ne.2 e,Ae,ad1];refine .inl ⟨(),rfl,λj w hj hw=>?_⟩
   grind)
  (λ_ hs=>⟨_,by simp only[Oy];rw[show((d.Store.Vols.length:Nat):Int)=((Kv r<|AF d.Store).length:Nat) by rw[c]];simp only[CU],.inl ⟨rfl,Jf.1 λv hv=>by
   obtain⟨j,hj,e⟩:=Au hv
   exact hs j v hj<|by grind⟩⟩) (s:=()) (λj w hj=>by omega)
 grind
def fW (M:List Shelf) (s:Shelf):List Shelf:=(M.filter λx=>decide<|x.Vol<s.Vol)++ [s]++M.filter λx=>decide<|x.Vol>s.Vol
theorem AEG (hM:M.length<=3) (p:Shelf->Bool) (o:List Shelf) (ho:o.length<=4) {body:List Shelf×Int->Option ((List Shelf×Int)⊕List Shelf)} (hb:∀o i,body (o,i)=bif decide (i<ln M)then((gi M i).bind λx=>bif p x then((gi M i).bind λy=>(ap 32 o [y]).bind λq=>some (.inl (q,ad i 1)))else some (.inl (o,ad i 1)))else some (.inr o)):Ah body (o,0)=some (o++M.filter p):=by
 obtain⟨b,h3,rfl⟩:=AC (body:=body) (λ(q:List Shelf) i=>(q,i)) M.length (λi q=>q=o++(M.take i).filter p) (λb=>b=o++M.filter p)
  (λq i hi hq=>by
   have hx:=Ab hi;have a:=Be p<|M.take i;rw[Fl]at a;rw[hb];simp only[Ds hi,Aq,hx,Aa]
   grind [Ag,ad1,AZ])
  (λq hq=>⟨q,by simp_all [CU],by grind⟩) (s:=o) (by simp)
 exact h3
theorem uX {s:Shelf} (h:JP M) (hM:M.length<=3) (hs:s.Texts.length=16):JP (fW M s)/\(fW M s).length<=7:=by
 have h1:=Be (λx:Shelf=>decide<|x.Vol<s.Vol) M;have h2:=Be (λx:Shelf=>decide<|x.Vol>s.Vol) M;have hl:(fW M s).length<=7:=by unfold fW;grind
 refine⟨⟨by omega,λx hx=>?_⟩,hl⟩;unfold fW at hx;simp only[A8,Cp]at hx
 rcases hx with(hx|rfl)|hx
 ·exact h.2 x (AR.1 hx).1
 ·omega
 exact h.2 x (AR.1 hx).1
theorem AGo {s:Shelf} (h:JP M) (hM:M.length<=3) (hs:s.Texts.length=16) (a:∀x∈M,x.Vol≠s.Vol):S8 M s=some (fW M s)/\Na M s=some (fW M s):=by
 have h1:=Be (λx:Shelf=>decide<|x.Vol<s.Vol) M;have h2:=Be (λx:Shelf=>decide<|x.Vol>s.Vol) M;constructor
 ·unfold S8;rw[AEG hM (λx=>decide<|x.Vol<s.Vol) [] (by simp) λo i=>rfl,Aa,AZ (by simp;omega),Aa,Az,AEG hM (λx=>decide<|x.Vol>s.Vol) _ (by simp;omega) λo i=>rfl,Aa]
  grind [sF,uX,fW]
 unfold Na;obtain⟨b,h3,rfl⟩:=AC (body:=λq:List Shelf×List Shelf×Int=>Iy M s q.1 q.2.1 q.2.2) (λ(q:List Shelf×List Shelf) i=>(q.1,q.2,i)) M.length (λi q=>q=((M.take i).filter λx=>decide<|x.Vol<s.Vol,(M.take i).filter λx=>decide<|x.Vol>s.Vol)) (λb=>b=(M.filter λx=>decide<|x.Vol<s.Vol,M.filter λx=>decide<|x.Vol>s.Vol))
  (λq i hi hq=>by
   have hx:=Ab hi;have hn:=a _<|Aw hi;have f1:=Be (λx:Shelf=>decide<|x.Vol<s.Vol)<|M.take i;have f2:=Be (λx:Shelf=>decide<|x.Vol>s.Vol)<|M.take i;rw[Fl]at f1 f2;subst hq;simp only[Iy,Ds hi,Aq,hx,Aa];rw[Ag hi];simp only[Cq]
   grind [AZ,ad1])
  (λq hq=>⟨_,by simp only[Iy,CU];rfl,by grind⟩) (s:=([],[])) (by simp)
 rw[h3];simp only[Aa];rw[AZ (by grind),Aa,AZ<|by grind];rfl
theorem wK {c:List Cm} {e:ByteArray} (hp:Eu d q=some (c,e,0)):(c=[]/\q.Kind≠1/\q.Kind≠2/\q.Kind≠3/\q.Kind≠4/\q.Kind≠5)\/
  ∃x,c=[x]/\((q.Kind=1/\x=Cm.mk 4 q.Vol q.Sector x.Chunk)\/(q.Kind=2/\x=Cm.mk 5 q.Vol q.Sector 0)\/((q.Kind=3\/q.Kind=4)/\x=Cm.mk 2 q.Vol q.Of 0)\/(q.Kind=5/\x=Cm.mk 3 q.Vol 0 0)):=by
 have no:∀{a:List Cm} {b:ByteArray} {n:Int} {P:Prop},some (a,b,n)=some (c,e,0)->n≠0->P:=λh hn=>by grind
 have yes:∀{x:Cm} {b:ByteArray},some ([x],b,(0:Int))=some (c,e,0)->c=[x]:=λh=>by grind
 obtain⟨v1,_,hp⟩:=Af.1 hp
 cases v1 with
 |false=>grind
 |true=>
  obtain⟨v2,_,hp⟩:=Af.1 hp;obtain⟨j1,e1,hp⟩:=Af.1 hp
  cases j1 with
  |true=>
   have h34:q.Kind=3\/q.Kind=4:=by grind
   cases h2:decide (v2>=0)<;>rw[h2]at hp
   ·obtain⟨j2,_,hp⟩:=Af.1 hp
    grind
   grind
  |false=>
   have h34:q.Kind≠3/\q.Kind≠4:=by grind
   cases h2:decide (v2>=0)<;>rw[h2]at hp
   ·grind
   cases h3:(q.Kind==1)<;>rw[h3]at hp
   ·grind
   obtain⟨v4,_,hp⟩:=Af.1 hp
   grind [Af]
theorem AAB {l:Vs} {nx:Int} {x:Cm} {p:Vs×Int} (h:CN l nx x=some p):(x.Kind=1\/(x.Kind=2/\¬(0<x.Arg/\Jg l x.Arg=none)/\Jg l x.Vol=none/\p=(cH l x.Vol (if 0<x.Arg then(Jg l x.Arg).getD Ok else Ok),nx))\/
  (Jg l x.Vol≠none/\((x.Kind=3/\p=(vN l x.Vol,nx))\/(x.Kind≠3/\x.Kind≠2/\p=(fA l x.Vol x.Arg.toNat x.Chunk,max nx (x.Chunk+1)))))):=by
 unfold CN at h;split at h
 ·cases h
 split at h
 ·exact .inl ‹_›
 split at h
 ·grind
 grind
theorem AAJ {p':Int×List Int} (h:Ci s) (hi:(AF s)[i]?=some p) (hk:(AF s)[k]?=some p') (e:p.1=p'.1):i=k:=by
 have ha:=h.asc
 grind [Cr,AF]
theorem ABu (hp:p∈AF s):p.2.length=16:=by
 obtain⟨v,_,rfl⟩:=A6.1 hp;simp[DJ]
theorem ADq {j:Nat} {c:Int} {T:ByteArray} (h:Hb d r) {a:List Int} (hk:(AF d.Store)[k]?=some (vol,a)) (hj:j<16) (hT:Ol r' c=T) (hs:∀p∈AF d.Store,∀i:Nat,Ol r' (p.2[i]?.getD 0)=Ol r (p.2[i]?.getD 0)):
  (Kv r (AF d.Store)).set k (Shelf.mk vol ((Fq r (vol,a)).Texts.set j T))=Kv r' (fA (AF d.Store) vol j c):=by
 apply BF;intro i;unfold Kv fA;rw[Pf,E4,E4,E4,Ba];by_cases e:k=i
 ·subst e;have b:=(Ad.1 hk).1;have f:=ABu<|Aj hk;rw[Cn rfl,Cn b,hk];simp only[JZ,C7,Fq];congr 2;apply BF
  grind
 rw[B6 e]
 cases hV:(AF d.Store)[i]? with
 |none=>rfl
 |some p=>
  have g:p.1≠vol:=λe2=>e<|AAJ h.st hk hV<|by simpa using e2.symm
  grind [Fq]
theorem yR (r:List Al) (V:Vs) (vol:Int) (a:List Int):Kv r (cH V vol a)=fW (Kv r V) (Fq r (vol,a)):=by
 unfold Kv cH fW;simp only[Ka,List.filter_map,HX,List.map_nil];rfl
theorem yS (r:List Al) (V:Vs) (vol:Int):Kv r (vN V vol)=(Kv r V).filter λx=>x.Vol !=vol:=by
 unfold Kv vN;rw[List.filter_map];rfl
theorem ACx (h:Hb d r) {a:List Int} (hk:(AF d.Store)[k]?=some (vol,a)):(Kv r (AF d.Store)).take k++(Kv r (AF d.Store)).drop (k+1)=Kv r (vN (AF d.Store) vol):=by
 have ha:((Kv r<|AF d.Store).map Shelf.Vol).Pairwise (·<·):=by
  have:=h.st.asc;unfold Kv AF;simp only[HQ];exact this
 have hx:(Kv r<|AF d.Store)[k]?=some (Fq r (vol,a)):=by unfold Kv;grind
 rw[yS,PQ ha hx];rfl
theorem zG (l:List α) (hk:k<=l.length):dr l 0 (k:Int)=some (l.take k):=by
 unfold dr
 grind
theorem AGk (l:List α) (hk:k<=l.length):dr l (k:Int) (ln l)=some (l.drop k):=by grind [Bb,AQ,dr]
theorem AAP {d':Device} {steps:List AH} (h:Jn d r) (hs:ZO d r q d' steps t 0 r') (m:Hv q=some true):Ko (Kv r (AF d.Store)) q=some (Kv r' (AF d'.Store))/\K2 (Kv r (AF d.Store)) q=some (Kv r' (AF d'.Store)):=by
 have a:AEo q:=by
  obtain⟨v,a1,a2⟩:=Qb q
  grind
 have f:=Ql h.dev;have a6:=h.dev.st.len;have hM:(Kv r<|AF d.Store).length=d.Store.Vols.length:=by unfold Kv AF;simp
 obtain⟨c1,c2⟩:=sF f;obtain⟨h9,l,n,e1,e2,_,e4⟩:=hs.done
 obtain rfl:n=0:=Classical.byContradiction λhn=>hn (e2 hn).symm
 have keep:∀V',(∀c,Dz V' c->Dz (AF d.Store) c)->Kv r' V'=Kv r V':=λV' hv=>jK λc hc=>hs.tk c<|hv c hc
 have same:∀p∈AF d.Store,∀i:Nat,Ol r' (p.2[i]?.getD 0)=Ol r (p.2[i]?.getD 0):=λp hp i=>by
  unfold Ol;split
  ·rename_i hc;rw[hs.tk _ ⟨hc,p,hp,?_⟩]
   grind
  rfl
 have hx:∀{k:Nat} {p:Int×List Int},(AF d.Store)[k]?=some p->(Kv r<|AF d.Store)[k]?=some (Fq r p)/\k<(Kv r<|AF d.Store).length:=λhk=>by grind [Kv]
 unfold Ko K2;rw[c1,c2,TA,m];obtain⟨a1,a2⟩:=vW (r:=r) h.dev q.Vol;rw[a1];by_cases y:q.Kind=6
 ·rw[hs.kept<|.inr y,keep _ λ_ hc=>hc,y]
  grind
 rcases wK e1 with⟨_,n1,n2,n3,n4,n5⟩|⟨x,rfl,h5⟩
 ·have:=a.kind;omega
 obtain⟨p1,p4,ev,tx⟩:x.Kind≠1/\qK d r q x l/\CN (AF d.Store) d.Store.Next x=some (AF d'.Store,d'.Store.Next)/\(L l≠ []->BX r' x.Chunk=some q.Text):=by grind
 obtain⟨v1,_⟩:=YG ev p1;have e:=AAB ev
 have set:∀c T,Jg (AF d.Store) q.Vol≠none->AF d'.Store=fA (AF d.Store) q.Vol q.Sector.toNat c->Ol r' c=T->q.Text=T->(q.Kind=1\/q.Kind=2)->Ko (Kv r<|AF d.Store) q=some (Kv r'<|AF d'.Store)/\K2 (Kv r<|AF d.Store) q=some (Kv r'<|AF d'.Store):=λc T hg hV hT h6 hk=>by
  rcases a2 with⟨_,a2⟩|⟨k,b,a2,a3,_⟩
  ·exact absurd a2 hg
  obtain⟨g,z⟩:=hx a3;obtain⟨j,hj⟩:∃j:Nat,q.Sector=(j:Int):=⟨_,(AL a.sec.1).symm⟩;have h2:j<16:=by have:=a.sec;omega
  have a0:(Fq r (q.Vol,b)).Texts.length=16:=by simp[Fq]
  have a7:gi (Fq r (q.Vol,b)).Texts (j:Int)=some ((Fq r (q.Vol,b)).Texts[j]'(by omega)):=by grind [Aq]
  have a5:si (Kv r<|AF d.Store) (k:Int) (Shelf.mk (Fq r (q.Vol,b)).Vol<|si (Fq r (q.Vol,b)).Texts (j:Int) q.Text)=Kv r' (AF d'.Store):=by
   rw[DQ,DQ,h6,hV,hj,Cj];exact ADq h.dev a3 h2 hT same
  have b3:(q.Kind==3)=false:=by grind
  have b4:(q.Kind==4)=false:=by grind
  have b5:(q.Kind==5)=false:=by grind
  have b12:(cond (q.Kind==1) (some<|q.Kind==1) (some<|q.Kind==2):Option Bool)=some true:=by grind
  unfold Ko K2;rw[c1,c2,TA,m,a1,a2,b3,b4,b5,b12,hj];simp only[Aa,Ak,Ae,Ao];rw[cT,Aq,g]
  grind [Bb]
 unfold Ko K2 at set;rw[c1,c2,TA,m]at set;rw[a1]at set
 rcases h5 with⟨hk,o⟩|⟨hk,rfl⟩|⟨hk,rfl⟩|⟨hk,rfl⟩
 ·
  have k4:x.Kind=4:=by rw[o]
  have kv:x.Vol=q.Vol:=by rw[o]
  have ka:x.Arg=q.Sector:=by rw[o]
  rcases e with hh|⟨hh,_⟩|⟨hg,⟨hh,_⟩|⟨_,_,hh⟩⟩
  ·omega
  ·omega
  ·omega
  rw[kv]at hg hh;rw[ka]at hh;have hT:Ol r' x.Chunk=q.Text:=by
   rcases p4.2.2.2 with⟨q1,q2⟩|⟨_,q2,q3,_⟩
   ·obtain⟨q2,q3⟩:=q2 k4;unfold Ol;rw[Cn q2.1,hs.tk _ q2,q3];rfl
   have:=h.dev.st.nx
   grind [Ol]
  grind
 ·rcases e with hh|⟨hh,_⟩|⟨hg,⟨hh,_⟩|⟨_,_,hh⟩⟩
  ·simp at hh
  ·simp at hh
  ·simp at hh
  exact set 0 (bs []) hg (Cu Prod.fst hh) (by simp[Ol]) (JH<|by rw[a.tx (by omega),DS])<|.inr hk
 ·
  rcases e with hh|⟨_,hf,hg,hh⟩|⟨_,⟨hh,_⟩|⟨_,hh,_⟩⟩
  ·simp at hh
  ·have hV:AF d'.Store=cH (AF d.Store) q.Vol (if 0<q.Of then(Jg (AF d.Store) q.Of).getD Ok else Ok):=Cu Prod.fst hh
   rcases a2 with⟨a2,_⟩|⟨k,b,a2,a3,a4⟩
   ·have h3:∀x∈Kv r (AF d.Store),x.Vol≠q.Vol:=λx u=>by
     obtain⟨p,hp,rfl⟩:=A6.1 u;obtain⟨v,hv,rfl⟩:=A6.1 hp;exact Jf.2 hg v hv
    rw[a2]
    rcases hk with hk|hk
    ·have h0:=a.no (by omega);rw[h0,B6<|by omega]at hV;have h7:mk 16 (bs []) 16=some (List.replicate 16<|bs []):=by rfl
     have h8:Shelf.mk q.Vol (List.replicate 16<|bs [])=Fq r (q.Vol,Ok):=by rfl
     obtain⟨s1,s2⟩:=AGo f (by omega) (s:=Shelf.mk q.Vol<|List.replicate 16<|bs []) (by simp) h3;rw[show(q.Kind==3)=true by simpa using hk,h7];simp only[Ao,Aa]
     rw[cT,s1,s2,keep _ (λc hc=>by
      rcases v1 c hc with hh2|hh2
      ·exact hh2
      have:=hc.1
      grind),hV,yR,h8]
     exact⟨rfl,rfl⟩
    have h1:=a.cl hk;rw[Cn<|by omega]at hV;obtain⟨_,b2⟩:=vW (r:=r) h.dev q.Of;obtain⟨b1,_⟩:=vW (r:=r) h.dev q.Of
    rcases b2 with⟨_,b2⟩|⟨k,b,b2,b3,b4⟩
    ·grind
    obtain⟨g,z⟩:=hx b3;obtain⟨s1,s2⟩:=AGo f (by omega) (s:=Shelf.mk q.Vol (Fq r (q.Of,b)).Texts) (by simp[Fq]) h3;rw[show(q.Kind==3)=false by grind,show(q.Kind==4)=true by simpa using hk,b1,b2];simp only[Ao,Ae,Aa];rw[cT,Ac (by omega:((k:Nat):Int)>=0)];rw[Aq,g];simp only[Aa];rw[AZ (by simp[Fq]),Az];simp only[Aa]
    rw[s1,s2,keep _ (λc hc=>by
     rcases v1 c hc with hh2|hh2
     ·exact hh2
     have:=hc.1
     grind),hV,b4,yR]
    exact⟨rfl,rfl⟩
   grind
  ·simp at hh
  simp at hh
 
 rcases e with hh|⟨hh,_⟩|⟨hg,⟨_,hh⟩|⟨hh,_⟩⟩
 ·simp at hh
 ·simp at hh
 ·have hV:AF d'.Store=vN (AF d.Store) q.Vol:=Cu Prod.fst hh
  rcases a2 with⟨_,a2⟩|⟨k,b,a2,a3,_⟩
  ·exact absurd a2 hg
  obtain⟨g,z⟩:=hx a3;have w:=ACx (r:=r) h.dev a3;have a8:((Kv r<|AF d.Store).take k).length+((Kv r<|AF d.Store).drop<|k+1).length<=3:=by grind
  have h4:JP (Kv r<|vN (AF d.Store) q.Vol):=by
   rw[yS];exact⟨by grind,λx u=>f.2 x (AR.1 u).1⟩
  rw[a2,show(q.Kind==3)=false by grind,show(q.Kind==4)=false by grind,show(q.Kind==5)=true by simpa using hk];simp only[Ao,Ae,Aa];rw[cT,zG _ (by omega),ad1,AGk _<|by omega];simp only[Aa]
  rw[AZ (by grind),Az,Aa,AZ (by omega),w,Aa,(sF h4).1,keep _ (λc hc=>by
   rcases v1 c hc with hh2|hh2
   ·exact hh2
   have:=hc.1
   grind),hV]
  refine⟨rfl,?_⟩
  grind [AZ]
 simp at hh
theorem AFo (h:code.length<=1048576):g6 code=some false:=by grind [Bb,g6]
theorem oJ {s:AH} (h:Bl f) (hs:QH f s):Ui f s=NS f s:=by
 obtain⟨x,x1⟩:∃x,gi f.Blocks s.Block=some x:=by rcases hs with⟨_,x,x1,_⟩|⟨_,x,x1,_⟩<;>exact⟨x,x1⟩
 obtain⟨g,v,d1,d2,_⟩:=UF f s h.cap;unfold Ui NS;rw[Gt,Cx f h.cap,d1,d2];simp only[Aa]
 cases v with
 |false=>rfl
 |true=>
  rw[x1];simp only[Aa]
  cases hk:(s.Kind==1)with
  |true=>rfl
  |false=>
   obtain⟨b0,b1⟩:=Ct x1;obtain⟨c,hc⟩:∃c:Nat,s.Block=(c:Int):=⟨_,(AL b0).symm⟩;have h4:=(h.blk x<|Aj b1).four;rw[hc,Cj]at b1;obtain⟨b,l1,l2,_⟩:=Gk (body:=λq:Int×List Block=>EQ s q.1 q.2) (body':=λq:Int×List Block=>Li s x q.1 q.2) (λ(bl:List Block) i=>(i,bl)) x.Leaves.length (λ_ bl=>∃z,bl[c]?=some z/\z.Leaves.length=x.Leaves.length) (λ_=>True)
    (λbl i hi hz=>by
     obtain⟨z,z1,z2⟩:=hz;have a:i<z.Leaves.length:=by omega
     have d:=Ab a;have e:=(Ad.1 z1).1;simp only[EQ,Li,hc,Aq,z1,Aa,Ds hi,Ds a,d]
     grind [ad1,si])
    (λbl hz=>by
     obtain⟨z,z1,z2⟩:=hz;simp only[EQ,Li,hc,Aq,z1,Aa];rw[<-z2];simp only[CU];rw[z2]
     simp[CU]) (s:=f.Blocks) ⟨x,b1,rfl⟩
   rw[l1,l2]
theorem gU (hf:Bl f) (hk:k<=ss.length) (hl:ss.length<=1000000) (h:∃m,Steps f ss m) (torn:Bool):RD f ss (k:Int) torn=Ir f ss (k:Int) torn:=by
 obtain⟨z,hz⟩:=h;rw[<-BI k ss]at hz;obtain⟨m,h1,h2⟩:=(HO _ _ _ _).1 hz;have hm:=U8 hf h1;have a:(ss.take k).length=k:=by grind
 obtain⟨g,n,e1,e2,_⟩:=eS f (ss.take k) hf.cap (by omega);rw[MT hf h1<|by omega]at e1
 injection e1 with e1
 obtain⟨rfl,rfl⟩:m=g/\((ss.take k).length:Int)=n:=by grind
 unfold RD Ir;rw[Bb,CM,Rn,Gt,Cx f hf.cap,Ac (by omega:0<=(k:Int)/\(k:Int)<=(ss.length:Int)),zG _ hk];simp only[Aa,Ak,Ae];rw[e2,MT hf h1 (by omega),a];simp only[Aa];rw[Ai (by omega:¬(k:Int)<(k:Int))]
 cases torn with
 |false=>rfl
 |true=>
  by_cases e:k=ss.length
  ·grind
  have hx:=Ab (show k<ss.length by omega);rw[AD<|show k<ss.length by omega]at h2;rw[show((k:Int)==(ss.length:Int))=false by simp;omega,Aq,hx];simp only[Ae,Aa];rw[show Flash.mk m.Blocks=m from rfl,oJ hm h2.1]
theorem wR {m:Flash} (hf:Bl f) (hk:k<=ss.length) (hl:ss.length<=1000000) (h:Steps f (ss.take k) m):Ir f ss (k:Int) false=some (m,true):=by
 have a:(ss.take k).length=k:=by grind
 unfold Ir;rw[Bb,CM,Ac (by omega:0<=(k:Int)/\(k:Int)<=(ss.length:Int)),zG _ hk];simp only[Aa,Ak,Ae];rw[MT hf h (by omega),a];simp
theorem AAQ {e:DY} (h:FL e=some true):Hv e.Ask=some true/\0<=e.Whole:=by
 obtain⟨v,v1,h⟩:=Af.1 h
 grind
theorem wO (e:DY):Uq e=FL e:=by
 unfold Uq FL;rw[TA]
structure RX (w:World) (r:List Al) (n:Nat):Prop where
 good:Jn w.Device r
 wear:FU w.Device.Flash (21*n)
 nx:w.Device.Store.Next<=1+n
 ids:∀p∈AF w.Device.Store,1<=p.1/\p.1<=9
 model:w.Model=Kv r (AF w.Device.Store)
 codes:w.Codes.length=n
 told:w.Told.length=n
 steps:w.Steps.length<=4010*n
theorem AGz {e:DY} (h:RX w r n) (hn:n<=40) (he:FL e=some true):∃w' r',Wr w e=some w'/\Mw w e=some w'/\RX w' r' (n+1)/\AC1 w.Device w'.Device e.Ask.Vol/\(e.Torn=false->∃ss,w'.Steps=w.Steps++ss/\Steps w.Device.Flash ss w'.Device.Flash):=by
 obtain⟨o,h4⟩:=AAQ he;have hg:=h.good
 have hw:FU w.Device.Flash 999999000:=λx hx=>by have:=h.wear x hx;omega
 have h5:=h.nx;have h2:1<=e.Ask.Vol/\e.Ask.Vol<=9:=by
  obtain⟨v,a1,a2⟩:=Qb e.Ask;rw[o]at a1
  injection a1 with a1
  exact(a2 a1.symm).vol
 have idk:∀d':Device,AC1 w.Device d' e.Ask.Vol->∀p∈AF d'.Store,1<=p.1/\p.1<=9:=λd' hi p hp=>by
  rcases hi p hp with⟨p',q1,q2⟩|q1
  ·rw[<-q2];exact h.ids p' q1
  omega
 obtain⟨d',steps,t,no,r',s1,s2⟩:=AEh hg hw (by omega) e.Ask;have h3:=s2.len;have i:=h.codes;have j:=h.told;have h6:=h.steps;unfold Wr Mw;rw[wH hg hw,s1];simp only[Aa];have q:Device.mk (Flash.mk d'.Flash.Blocks) (Store.mk d'.Store.Vols (Arena.mk d'.Store.Arena.Knots) d'.Store.Next) d'.Seq d'.Tx d'.Base=d':=rfl;by_cases hc:e.Cut=true/\0<steps.length
 ·obtain⟨s,h7⟩:=hc;rw[s,Bb];rw[show((steps.length:Int)==0)=false by grind,Ac (by omega:(steps.length:Int)>0)];obtain⟨k,hk,a,u⟩:∃k:Nat,(if(steps.length:Int)<e.Whole then(steps.length:Int)else e.Whole)=(k:Int)/\k<=steps.length/\TK e.Whole (steps.length:Int)=some (k:Int):=by
   unfold TK;by_cases h8:(steps.length:Int)<e.Whole
   ·grind
   exact⟨e.Whole.toNat,by omega,by omega,by grind⟩
  obtain⟨g,c1,c2,c3⟩:=wQ hg.dev.fl a (by omega) ⟨_,s2.walk⟩ e.Torn;obtain⟨x,rx,x1,x2,x3,x4,x5,x6⟩:=s2.cut k g a c3;have c:AC1 w.Device x e.Ask.Vol:=by
   rcases x6 with⟨x6,_⟩|⟨x6,_⟩
   ·exact rB x6 _
   intro p hp;rw[x6]at hp;exact s2.ids p hp
  have f:e.Torn=false->Steps w.Device.Flash (steps.take k) x.Flash:=λht=>by
   have hz:=s2.walk;rw[<-BI k steps]at hz;obtain⟨m,h1,_⟩:=(HO _ _ _ _).1 hz;have:=wR hg.dev.fl a (by omega) h1
   grind
  rw[hk,u];simp only[Aa];rw[gU hg.dev.fl a (by omega) ⟨_,s2.walk⟩ e.Torn,c1];simp only[Aa];rw[show Flash.mk g.Blocks=g from rfl,JF c2,x1,zG _ a];simp only[Aa];rw[(Z9 x3).1,(Z9 x3).2];have h9:(steps.take k).length<=4010:=by grind
  rw[AZ (l:=[]) (m:=w.Codes) (by simp;omega),AZ (l:=[]) (m:=w.Told) (by simp;omega),AZ (l:=[]) (m:=w.Steps) (by simp;omega)];simp only[Aa,Az];rw[AZ (l:=w.Codes) (by simp;omega),Aa,AZ (l:=w.Told) (by simp;omega),Aa,AZ (l:=w.Steps)<|by omega];exact⟨_,rx,rfl,rfl,⟨x3,λb hb=>by have:=x5 _ h.wear b hb;omega,by grind,idk x c,rfl,by simp[i],by simp[j],by grind⟩,c,λht=>⟨_,rfl,f ht⟩⟩
 have y:(cond e.Cut (some<|decide<|(ln steps)>0) (some false):Option Bool)=some false:=by grind [Bb,Ai]
 have z:(cond (!e.Cut) (some true) (some<|(ln steps)==0):Option Bool)=some true:=by grind [Bb]
 rw[y,z];simp only[Aa,Ae,Ao];have d:(cond (no==0) ((Ko w.Model e.Ask).bind λv10=>some v10) (some w.Model):Option (List Shelf))=some (Kv r'<|AF d'.Store)/\(cond (no==0) ((K2 w.Model e.Ask).bind λv10=>some v10) (some w.Model):Option (List Shelf))=some (Kv r'<|AF d'.Store):=by
  rw[h.model];by_cases h0:no=0
  ·grind [AAP]
  rw[show(no==0)=false by simpa using h0,s2.kept<|.inl h0,jK s2.tk];exact⟨rfl,rfl⟩
 rw[d.1,d.2];rw[AZ (l:=[]) (m:=w.Codes) (by simp;omega),AZ (l:=[]) (m:=w.Told) (by simp;omega),AZ (l:=[]) (m:=w.Steps) (by simp;omega)];simp only[Aa,Az];rw[AZ (l:=w.Codes) (by simp;omega),Aa,AZ (l:=w.Told) (by simp;omega),Aa,AZ (l:=w.Steps)<|by omega];rw[q];exact⟨_,r',rfl,rfl,⟨s2.good,λb hb=>by have:=s2.wear _ h.wear b hb;omega,by have:=s2.nx;grind,idk d' s2.ids,rfl,by simp[i],by simp[j],by grind⟩,s2.ids,λ_=>⟨_,rfl,s2.walk⟩⟩
theorem tG (h:3<=n/\n<=10):P9 (n:Int)=Iq (n:Int):=by grind [r7,W1,JF,sN,P9,Iq]
theorem ACS (h:Jn d []) (hv:AF d.Store=[]) (hn:d.Store.Next=1) (hf:d.Flash=Flash.mk (List.replicate n (Block.mk false 0 JY))):RX (World.mk d [] [] [] []) [] 0:=by
 refine⟨h,λb hb=>?_,by grind,λp hp=>?_,?_,rfl,rfl,by simp⟩
 ·grind
 ·grind
 rw[hv];rfl
theorem AAM {es:List DY} (h:3<=n/\n<=10) (hl:es.length<=40) (he:∀e∈es,FL e=some true):∃w r,TR (n:Int) es=some (w,true)/\Uk (n:Int) es=some (w,true)/\RX w r es.length/\((∀e∈es,e.Torn=false)->Steps (Flash.mk (List.replicate n (Block.mk false 0 JY))) w.Steps w.Device.Flash):=by
 obtain⟨d,d1,d2,d3,d4,d5⟩:=Zc h;unfold TR Uk;rw[tG h,d1];simp only[Aa,Ak,Ae];rw[Bb,Ai (by omega:¬(es.length:Int)>40)];simp only[Aa,Ae];obtain⟨b1,l1,rfl⟩:=AC (body:=λs:Bool×Int=>KS es s.1 s.2) (λ(o:Bool) i=>(o,i)) es.length (λ_ o=>o=true) (λb=>b=true)
  (λo i hi ho=>by
   have hx:=Ab hi;simp only[KS,Ds hi,ho,Aa,Ao,Aq,hx];rw[Bb,Ac (by omega:(es.length:Int)<=40),Ao,he _<|Aw hi,ad1]
   simp_all)
  (λo ho=>⟨o,by simp[CU,KS],ho⟩) (s:=true) rfl
 obtain⟨b2,l2,rfl⟩:=AC (body:=λs:Int=>Lm es s) (λ(_:Unit) i=>i) es.length (λ_ _=>True) (λb=>b= .inl ())
  (λ_ i hi _=>by
   have hx:=Ab hi;have g:=he _<|Aw hi;simp only[Lm,Ds hi,Aa,Aq,hx];rw[wO,g,ad1]
   simp_all)
  (λ_ _=>⟨_,by simp[CU,Lm],rfl⟩) (s:=()) trivial
 obtain⟨b3,l3,l4,w,r,rfl,hw,a⟩:=La (body:=λs:Int×List Block×List Vol×List Bf×Int×Int×Int×Int×List Int×List ByteArray×List Shelf×List AH=>KR es s.1 s.2.1 s.2.2.1 s.2.2.2.1 s.2.2.2.2.1 s.2.2.2.2.2.1 s.2.2.2.2.2.2.1 s.2.2.2.2.2.2.2.1 s.2.2.2.2.2.2.2.2.1 s.2.2.2.2.2.2.2.2.2.1 s.2.2.2.2.2.2.2.2.2.2.1 s.2.2.2.2.2.2.2.2.2.2.2)
  (body':=λs:Int×List Block×List Vol×List Bf×Int×Int×Int×Int×List Int×List ByteArray×List Shelf×List AH=>Ll es s.1 s.2.1 s.2.2.1 s.2.2.2.1 s.2.2.2.2.1 s.2.2.2.2.2.1 s.2.2.2.2.2.2.1 s.2.2.2.2.2.2.2.1 s.2.2.2.2.2.2.2.2.1 s.2.2.2.2.2.2.2.2.2.1 s.2.2.2.2.2.2.2.2.2.2.1 s.2.2.2.2.2.2.2.2.2.2.2)
  (λ(w:World) i=>(i,w.Device.Flash.Blocks,w.Device.Store.Vols,w.Device.Store.Arena.Knots,w.Device.Store.Next,w.Device.Seq,w.Device.Tx,w.Device.Base,w.Codes,w.Told,w.Model,w.Steps)) (λ(w:World) i=>(i,w.Device.Flash.Blocks,w.Device.Store.Vols,w.Device.Store.Arena.Knots,w.Device.Store.Next,w.Device.Seq,w.Device.Tx,w.Device.Base,w.Codes,w.Told,w.Model,w.Steps)) es.length
  (λi w=>∃r,RX w r i/\((∀e∈es,e.Torn=false)->Steps (Flash.mk<|List.replicate n<|Block.mk false 0 JY) w.Steps w.Device.Flash)) (λb=>∃(w:World) (r:List Al),b=(w.Device.Flash.Blocks,w.Device.Store.Vols,w.Device.Store.Arena.Knots,w.Device.Store.Next,w.Device.Seq,w.Device.Tx,w.Device.Base,w.Codes,w.Told,w.Model,w.Steps)/\RX w r es.length/\((∀e∈es,e.Torn=false)->Steps (Flash.mk<|List.replicate n<|Block.mk false 0 JY) w.Steps w.Device.Flash))
  (λw i hi hs=>by
   obtain⟨r,hw,a⟩:=hs;have hx:=Ab hi;have c:World.mk (Device.mk (Flash.mk w.Device.Flash.Blocks) (Store.mk w.Device.Store.Vols (Arena.mk w.Device.Store.Arena.Knots) w.Device.Store.Next) w.Device.Seq w.Device.Tx w.Device.Base) w.Codes w.Told w.Model w.Steps=w:=rfl;obtain⟨w',r',e1,e2,e3,_,e5⟩:=AGz hw (by omega)<|he _<|Aw hi;simp only[KR,Ll,Ds hi,Aq,hx,Aa];rw[c,e1,e2,ad1]
   grind [HO])
  (λw hs=>by
   obtain⟨r,hw⟩:=hs
   simp_all [CU,KR,Ll];grind) (s:=World.mk d [] [] [] []) ⟨[],ACS d2 d3 d4 d5,λ_=>d5⟩
 have c:World.mk (Device.mk (Flash.mk w.Device.Flash.Blocks) (Store.mk w.Device.Store.Vols (Arena.mk w.Device.Store.Arena.Knots) w.Device.Store.Next) w.Device.Seq w.Device.Tx w.Device.Base) w.Codes w.Told w.Model w.Steps=w:=rfl;have j:Device.mk (Flash.mk w.Device.Flash.Blocks) (Store.mk w.Device.Store.Vols (Arena.mk w.Device.Store.Arena.Knots) w.Device.Store.Next) w.Device.Seq w.Device.Tx w.Device.Base=w.Device:=rfl;have f:=(sF<|Ql (r:=r) hw.good.dev).1;rw[<-hw.model]at f;refine⟨w,r,?_,?_,hw,a⟩
 ·rw[l1];simp only[Aa,Ak,Ae];rw[l3];simp only[Aa];rw[j,Kh hw.good.dev,f];rfl
 simp_all
theorem AC2 {c:Bg} (h:code.length<=1048576) (c2:Kc c):∃n:Nat,∃es cc,MA c code=some ((n:Int),es,cc)/\Kc cc/\5<=n/\n<=8/\es.length<=32/\∀e∈es,FL e=some true:=by
 unfold MA;obtain⟨v,c',a1,a2,a3⟩:=Oi c2 (n:=4) (by omega);rw[show((4:Nat):Int)=4 from rfl]at a1;rw[a1,Aa,Cl,show(5:Int)+(v:Int)=((5+v:Nat):Int) by omega];obtain⟨d0,b1,b2,b3,b4,b5⟩:=Zc (n:=5+v) (by omega);rw[b1];have hq:qu (ln code) 10=((code.length/10:Nat):Int):=by grind [Bb,Pa,qu]
 obtain⟨m,m1,m2⟩:∃m:Nat,(cond (decide<|(ad 8<|qu (ln code) 10)>32) (some 32) (some<|ad 8<|qu (ln code) 10):Option Int)=some (m:Int)/\m<=32:=by
  rw[hq,Cl];by_cases g:(8:Int)+((code.length/10:Nat):Int)>32
  ·exact⟨32,by grind,A4 _⟩
  exact⟨8+code.length/10,by grind,by omega⟩
 rw[m1];simp only[Aa];obtain⟨j,l1,es,cc,rfl,k0,k1,k2⟩:=AC (body:=λs:List DY×Int×List Block×List Vol×List Bf×Int×Int×Int×Int×List Int×List ByteArray×List Shelf×List AH×List Int×Int×Int=>If (m:Int) s.1 s.2.1 s.2.2.1 s.2.2.2.1 s.2.2.2.2.1 s.2.2.2.2.2.1 s.2.2.2.2.2.2.1 s.2.2.2.2.2.2.2.1 s.2.2.2.2.2.2.2.2.1 s.2.2.2.2.2.2.2.2.2.1 s.2.2.2.2.2.2.2.2.2.2.1 s.2.2.2.2.2.2.2.2.2.2.2.1 s.2.2.2.2.2.2.2.2.2.2.2.2.1 s.2.2.2.2.2.2.2.2.2.2.2.2.2.1 s.2.2.2.2.2.2.2.2.2.2.2.2.2.2.1 s.2.2.2.2.2.2.2.2.2.2.2.2.2.2.2)
  (λ(o:List DY×World×Bg) i=>(o.1,i,o.2.1.Device.Flash.Blocks,o.2.1.Device.Store.Vols,o.2.1.Device.Store.Arena.Knots,o.2.1.Device.Store.Next,o.2.1.Device.Seq,o.2.1.Device.Tx,o.2.1.Device.Base,o.2.1.Codes,o.2.1.Told,o.2.1.Model,o.2.1.Steps,o.2.2.b_,o.2.2.i_,o.2.2.h_)) m
  (λi o=>Kc o.2.2/\(∃r,RX o.2.1 r i)/\(∀p∈AF o.2.1.Device.Store,1<=p.1/\p.1<=3)/\o.1.length=i/\∀e∈o.1,FL e=some true)
  (λb=>∃es cc,b=(es,Bg.b_ cc,cc.i_,cc.h_)/\Kc cc/\es.length<=32/\∀e∈es,FL e=some true)
  (λo i hi hs=>by
   obtain⟨es,w,cu⟩:=o;obtain⟨k1,⟨r,k2⟩,k3,k4,k5⟩:=hs;simp only at k1 k2 k3 k4 k5;have a:Device.mk (Flash.mk w.Device.Flash.Blocks) (Store.mk w.Device.Store.Vols (Arena.mk w.Device.Store.Arena.Knots) w.Device.Store.Next) w.Device.Seq w.Device.Tx w.Device.Base=w.Device:=rfl;have d:World.mk w.Device w.Codes w.Told w.Model w.Steps=w:=rfl;simp only[If];rw[Ac (by omega:(i:Int)<(m:Int)),Ao,a,d];obtain⟨q,c3,q1,q2,q3⟩:=AFy (RP k1) w.Device k2.good.dev.st.len λv hv=>k3 (v.Id,DJ w.Device.Store.Arena.Knots v.Root)<|A6.2 ⟨v,hv,rfl⟩;rw[q1];simp only[Aa];obtain⟨o1,c4,o2,o3⟩:=oQ q2 9;rw[o2];simp only[Aa];obtain⟨cut,wh,torn,c5,j1,j2,j3⟩:∃cut wh torn c5,(cond o1 ((EP c4 [0,0,1,1,2,3]).bind λv5=>(GK v5.2 2).bind λv6=>some (true,v5.1,v6.1,v6.2.b_,v6.2.i_,v6.2.h_)) (some (false,0,false,c4.b_,c4.i_,c4.h_)):Option (Bool×Int×Bool×List Int×Int×Int))=some (cut,wh,torn,Bg.b_ c5,c5.i_,c5.h_)/\Kc c5/\0<=wh:=by
    cases o1 with
    |false=>grind
    |true=>
     obtain⟨k,c6,p1,p2,p3⟩:=UD o3 (l:=[0,0,1,1,2,3]) (by simp);obtain⟨tt,c7,t1,t2⟩:=oQ p2 2;rw[p1];simp only[Ao,Aa];rw[t1];exact⟨true,k,tt,c7,rfl,t2,by simp at p3;omega⟩
   rw[j1];simp only[Aa];have f:FL (DY.mk q cut wh torn)=some true:=by grind [AEp,FL]
   obtain⟨w',r',e1,_,e3,e4,_⟩:=AGz k2 (by omega) f;rw[e1,Aa,AZ (by simp;omega),Aa,ad1];refine .inl ⟨(es++ [DY.mk q cut wh torn],w',c5),rfl,j2,⟨r',e3⟩,λp hp=>?_,by simp[k4],λe he=>?_⟩
   ·rcases e4 p hp with⟨p',p1,p2⟩|p1
    ·grind
    rw[p1];exact q3.vol
   grind)
  (λo hs=>by grind [If]) (s:=([],World.mk d0 [] [] [] [],c')) ⟨a2,⟨[],ACS b2 b3 b4 b5⟩,(λp hp=>by grind),rfl,λe he=>by cases he⟩
 rw[l1];exact⟨5+v,es,cc,rfl,k0,by omega,by omega,k1,k2⟩
theorem ADn (h:RX w r n):Hz w=some true/\IP w=some true/\H4 w=some true:=by
 have a:=Ql (r:=r) h.good.dev;have hf:H4 w=some true:=by
  unfold H4;rw[(Z9 h.good).2,h.model,Aa,aB<|OM _ _ a];rfl
 refine⟨?_,?_,hf⟩
 ·unfold Hz;rw[WW h.good.dev,hf,(kA h.good).2];rfl
 unfold IP LQ;rw[QX h.good.dev,(Z9 h.good).1,h.model,Aa,Ao,Aa,aB<|O5 _ _ a,(kA h.good).1];rfl
end Go.TI
