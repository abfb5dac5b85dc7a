/- Cleaning that is cut. No condition; no program is in sight. -/
import Derived.Test.YtpafpcbnmplkfaaGreatCCP3
set_option linter.unusedVariables false
set_option linter.unusedSimpArgs false
namespace Go.TI
open Go
theorem XA (k:IntKind) (n:Nat) (h:n<=12) (hk:k= .u8\/k= .u64):k.wrap (n:Int)=(n:Int):=by
 have:n=0\/n=1\/n=2\/n=3\/n=4\/n=5\/n=6\/n=7\/n=8\/n=9\/n=10\/n=11\/n=12:=by omega
 rcases hk with rfl|rfl<;>rcases this with rfl|rfl|rfl|rfl|rfl|rfl|rfl|rfl|rfl|rfl|rfl|rfl|rfl<;>rfl
set_option maxRecDepth 20000 in
theorem fA (n:Nat) (h:n<=12):∃v,Vn (IntKind.u64.wrap (n:Int))=some v:=by
 rw [XA _ n h (.inr rfl)];unfold Vn Zq;generalize hT:(bs _)=T;have a:13<=(L T).length:=by rw [<-hT,DV];decide
 rw [Af (by omega:¬(n:Int)>=4294967296),Ac];simp only [Aa];rw [Af (by omega:¬(n:Int)>=65536),Ac];simp only [Aa];rw [Af (by omega:¬(n:Int)>=256),Ac];simp only [Aa];rw [XA _ n h (.inl rfl),EX (i:=n) _ (by omega)];exact⟨_,rfl⟩
theorem ACa {γ:Type} (a:γ->Int) (l:List γ) (hl:l.length<=12):∃r,Qn (Nc a) l=some r/\srt a r/\Ch a l r:=by
 obtain⟨v,hv⟩:=fA l.length hl;obtain⟨r,h1,h2,h3⟩:=I4 a [] l [] (by simp;omega);refine⟨r,?_,h2,h3⟩;unfold Qn;rw [Cf,hv];simp only [Aa];unfold EN;rw [A8];simp only [Gf];rw [Cz (by omega) (by omega),Ad (by omega:(l.length:Int)-0<=12),Ae];have h1':BT (Nc a) l 0 (l.length:Int)=some r:=by simpa using h1
 rw [h1'];rfl
def pZ (l:List As):Prop:=l.Pairwise λx y=>x.Page.Tx≠y.Page.Tx
variable {r:List As} {d:AH} {y:As} {f:Flash} {b:Int} {nd:List Bool} {n j:Nat}
theorem ZO {l:List As} {p:As->Bool} (hl:pZ l) (hu:∀x∈l,∀y∈l,p x=true->p y=true->x=y) (hy:y∈l) (hp:p y=true):l.filter p=[y]:=by
 induction l with
 |nil=>cases hy
 |cons x l ih=>
  have h1:=Cs.1 hl
  have hu':∀a∈l,∀c∈l,p a=true->p c=true->a=c:=λa ha c hc=>hu a (DO _ ha) c (DO _ hc)
  cases hx:p x with
  |true=>
   have e:x=y:=hu x (by simp) y hy hx hp;subst e;rw [BK hx,BI.2];intro z hz b;have:=hu x (by simp) z (DO _ hz) hx b;exact h1.1 z hz (by rw [this])
  |false=>
   rw [B9 (by simp [hx])]
   rcases BE.1 hy with rfl|hy
   ·rw [hp]at hx;cases hx
   exact ih h1.2 hu' hy
theorem ADz {a c:List As} (ha:pZ a) (hc:pZ c) (hm:∀y,y∈a↔y∈c) (hu:∀x∈a,∀y∈a,x.Leaf=y.Leaf->x=y):Ch BS a c:=by
 intro k
 have e1:∀x,(BS x==k)=true↔x.Leaf=k:=λx=>by rw [Cj];rfl
 by_cases h:∃y∈a,y.Leaf=k
 ·obtain⟨y,y1,y2⟩:=h
  rw [ZO ha (λx hx z hz p q=>hu x hx z hz (by rw [(e1 x).1 p,(e1 z).1 q])) y1 ((e1 y).2 y2),
   ZO hc (λx hx z hz p q=>hu x ((hm x).2 hx) z ((hm z).2 hz) (by rw [(e1 x).1 p,(e1 z).1 q])) ((hm y).1 y1) ((e1 y).2 y2)]
 rw [BI.2 (λx hx p=>h ⟨x,hx,(e1 x).1 p⟩),BI.2 (λx hx p=>h ⟨x,(hm x).2 hx,(e1 x).1 p⟩)]
def HE (r:List As) (b:Int) (live:List Int):List As:=live.filterMap λc=>match NE c r r.length with
 |some j=>if bk r b j=true then r[j]? else none
 |none=>none
theorem UQ (r:List As) (b:Int) (a:List Int) (c:Int):HE r b (a++ [c])=HE r b a++HE r b [c]:=by unfold HE;rw [Ha]
theorem AFk {s:Store} (h:AC0 f r) {live:List Int} (a:Lw s=some live) (hl:live.length<=16777216) (b:Int):Rz f s b=some (HE r b live):=by
 unfold Rz;rw [a];simp only [Aa];obtain⟨u,h1,h2⟩:=Bk (body:=λq:List As×Int=>Gv f b live q.1 q.2) (λ(u:List As) i=>(u,i)) live.length (λi u=>u=HE r b (live.take i)) (λu=>u=HE r b live)
  (λu i hi hu=>by
   have hg:live[i]?=some live[i]:=Ab hi;obtain⟨o,o1,o2⟩:=iM f r h.i h.len h.srt live[i];have ho:o=NE live[i] r r.length:=iC o2 (NT _ _ _ (A4 _));have d:u.length<=i:=by
    rw [hu];have:=List.length_filterMap_le (λc=>match NE c r r.length with|some j=>if bk r b j=true then r[j]? else none|none=>none) (live.take i);rw [AF]at this;unfold HE;omega
   have et:live.take (i+1)=live.take i++ [live[i]]:=by rw [Ax hi]
   refine .inl ?_;simp only [Gv,AE,Ad hi,Ae,AC,hg,Aa,o1]
   cases ht:NE live[i] r r.length with
   |none=>
    rw [ht]at ho;subst ho;simp only [GP,Ac,Aa];rw [ad1 (by omega)];refine⟨_,rfl,?_⟩;rw [et,UQ,<-hu];simp [HE,ht]
   |some j=>
    rw [ht]at ho;subst ho;obtain⟨hj,_⟩:=Mx (A4 _) ht;have hr:=Ab hj;simp only [RS,Ae,Aa,KH]
    cases hb:bk r b j with
    |true=>
     have hb':((r[j]?.getD NN).Block==b)=true:=hb;rw [hb'];simp only [Ae];rw [C3 (by simp only [Aj];omega),ad1 (by omega)];refine⟨_,rfl,?_⟩;rw [et,UQ,<-hu];simp [HE,ht,hb,hr]
    |false=>
     have hb':((r[j]?.getD NN).Block==b)=false:=hb;rw [hb'];simp only [Ac];rw [ad1 (by omega)];refine⟨_,rfl,?_⟩;rw [et,UQ,<-hu]
     simp [HE,ht,hb])
  (λu hu=>⟨u,by simp only [Gv,AE,Aq,Av,Ac],by rw [hu,AR]⟩) (s:=[]) (by simp [HE])
 have h1':Aw (λs:List As×Int=>Gv f b live s.1 s.2) ([],0)=some u:=h1;rw [h1',h2];rfl
theorem Ri {live:List Int} (hy:y∈HE r b live):∃c∈live,∃j,NE c r r.length=some j/\r[j]?=some y/\y.Block=b/\y.Page.Kind=1/\y.Page.Tx=c:=by
 obtain⟨c,c1,c2⟩:=List.mem_filterMap.1 hy
 cases ht:NE c r r.length with
 |none=>rw [ht]at c2;cases c2
 |some j=>
  rw [ht]at c2;simp only at c2;split at c2
  ·rename_i hb;obtain⟨_,z,z1,z2⟩:=Mx (A4 _) ht;rw [z1]at c2
   injection c2 with c2
   subst c2;simp only [bk,z1,Be,Cj]at hb;simp only [I3,An,Cj]at z2;exact⟨c,c1,j,ht,z1,hb,z2.1,z2.2⟩
  cases c2
theorem f0 (r:List As) (b:Int):∀{live:List Int},live.Nodup->pZ (HE r b live)
 |[],_=>List.Pairwise.nil
 |c::live,h=>by
  obtain⟨h1,h2⟩:=Dy.1 h;have ih:=f0 r b h2;unfold HE;rw [Il];split
  ·exact ih
  rename_i y hy;refine Cs.2 ⟨λz hz e=>?_,ih⟩;obtain⟨c',q1,j,q2,q3,q4,q5,q6⟩:=Ri (r:=r) (b:=b) (live:=live) hz
  obtain⟨c'',p1,j2,p2,p3,p4,p5,p6⟩:=Ri (r:=r) (b:=b) (live:=[c]) (y:=y) (by
   unfold HE;rw [Il];rw [hy]
   simp)
  rw [Az]at p1;subst p1;exact h1 (by rw [<-p6,e,q6];exact q1)
def NV (b:Int) (nd:List Bool) (r:List As):List As:=Kx b 0 nd r++(Kx b 1 nd r++(Kx b 2 nd r++Kx b 3 nd r))
theorem Ts {i:Int}:y∈Kx b i nd r↔(∃j:Nat,r[j]?=some y/\nd[j]?=some true)/\y.Block=b/\y.Leaf=i:=by
 unfold Kx;simp only [AP,AN,An,Cj];constructor
 ·rintro⟨⟨n,z⟩,⟨h1,⟨h2,h3⟩,h4⟩,rfl⟩;obtain⟨j,hj⟩:=List.getElem?_of_mem h1;rw [List.getElem?_zip_eq_some]at hj;simp only at h2 h3 h4;exact⟨⟨j,hj.2,by rw [hj.1,h2]⟩,h3,h4⟩
 rintro⟨⟨j,h1,h2⟩,h3,h4⟩;exact⟨(true,y),⟨A6 (List.getElem?_zip_eq_some.2 ⟨h2,h1⟩),⟨rfl,h3⟩,h4⟩,rfl⟩
theorem rI (hn:∀(j:Nat) y,r[j]?=some y->nd[j]?=some true->NE y.Page.Tx r r.length=some j) (b i:Int):pZ (Kx b i nd r):=by
 unfold Kx pZ;rw [JJ]
 have h0:(nd.zip r).Pairwise λp q=>p.1=true->q.1=true->p.2.Page.Tx≠q.2.Page.Tx:=by
  rw [Ds];intro x y hx hy a p q e;have a1:=(List.getElem?_zip_eq_some (l₁:=nd) (l₂:=r)).1 (Ab hx);have a2:=(List.getElem?_zip_eq_some (l₁:=nd) (l₂:=r)).1 (Ab hy);have b1:=hn x _ a1.2 (by rw [a1.1,p]);have b2:=hn y _ a2.2 (by rw [a2.1,q]);rw [e,b2]at b1
  injection b1 with b1
  omega
 have h1:=h0.filter (λq=>q.1&&(q.2.Block==b)&&(q.2.Leaf==i));refine(List.pairwise_iff_forall_sublist.2 λ{p q} hs=>?_);have hp:=List.pairwise_iff_forall_sublist.1 h1 hs;have mp:p∈(nd.zip r).filter (λq=>q.1&&(q.2.Block==b)&&(q.2.Leaf==i)):=hs.subset (by simp);have mq:q∈(nd.zip r).filter (λq=>q.1&&(q.2.Block==b)&&(q.2.Leaf==i)):=hs.subset (by simp);have tp:=(AN.1 mp).2;have tq:=(AN.1 mq).2;simp only [An]at tp tq;exact hp tp.1.1 tq.1.1
def ACe (b:Int) (nd:List Bool) (r:List As):Nat->Nat->List As
 |0,_=>[]
 |n+1,i=>Kx b (i:Int) nd r++ACe b nd r n (i+1)
theorem ADx (b i:Int) (nd:List Bool) (r:List As):(Kx b i nd r).length<=r.length:=by
 unfold Kx;rw [Bo];have:=BN (λq:Bool×As=>q.1&&(q.2.Block==b)&&(q.2.Leaf==i)) (nd.zip r);rw [List.length_zip]at this;omega
theorem ABp (hr:r.length<=40) (hk:∀y∈r,y.Page.Kind=1->y.Page.Count=1/\y.Page.Part=0) (c:nd.length=r.length) (hn:∀(j:Nat) y,r[j]?=some y->nd[j]?=some true->y.Page.Kind=1) (b:Int):∀(n i:Nat),i+n=4->∀{m:Nat} {o:MvS},MvI m o->m+n*40<=1000->
  Aw (λs:List Bb×Int×Int×List Block=>Eh b r nd s.1 s.2.1 s.2.2.1 s.2.2.2) (o.2.1,o.1,(i:Int),o.2.2)=(mv b (ACe b nd r n i) o).map λq=>match q with
   |some o'=> .inl o'.2.1
   |none=> .inr ([],false)
 |0,i,hi,m,o,ho,hm=>by
  rw [A8];simp only [Eh];rw [Af (by omega:¬(i:Int)<4),Ac];rfl
 |n+1,i,hi,m,o,ho,hm=>by
  rw [A8];simp only [Eh];rw [Ad (by omega:(i:Int)<4),Ae];have a:=ABq hr hk c hn b (i:Int) r.length 0 (by omega) ho (by omega);simp only [List.drop_zero]at a;rw [show((0:Nat):Int)=0 from rfl]at a;rw [a];have d:=ADx b (i:Int) nd r;obtain⟨v,v1,v2⟩:=AD7 (b:=b) (Kx b (i:Int) nd r) ho (by omega);have es:ACe b nd r (n+1) i=Kx b (i:Int) nd r++ACe b nd r n (i+1):=rfl;rw [es,AD8,v1]
  cases v with
  |none=>rfl
  |some o'=>
   simp only [B3,Aa,BM];rw [ad1 (by omega)];exact ABp hr hk c hn b n (i+1) (by omega) (v2 o' rfl) (by omega)
theorem ABP (d:AH) (b:Int) (X:List As) (hX:X.length<=100) (hd:0<=d.Seq/\d.Seq<=1000000001):∀(n i:Nat),i+n=X.length->∀{m:Nat} {o:MvS},MvI m o->m+n<=1000->o.1=d.Seq+i->
  Aw (λs:Int×List Block×List Bb=>Ib d b X s.1 s.2.1 s.2.2) ((i:Int),o.2.2,o.2.1)=(mv b (X.drop i) o).map λq=>match q with
   |some o'=> .inl (o'.2.2,o'.2.1)
   |none=> .inr ([],false)
 |0,i,hi,m,o,ho,hm,hs=>by
  rw [A8];simp only [Ib,AE];rw [Af (by omega),Ac,List.drop_of_length_le (by omega)];rfl
 |n+1,i,hi,m,o,ho,hm,hs=>by
  have a:i<X.length:=by omega
  have hx:=Ab a;rw [A8];simp only [Ib,AE,Ad a,Ae,AC,hx,Aa];rw [CA (by omega) (by omega),<-hs,Bh a];have ep:Page.mk 1 o.1 X[i].Page.Tx 0 1 X[i].Page.Text=dS o.1 X[i]:=rfl;rw [ep]
  rcases AAh (b:=b) (y:=X[i]) ho (by omega)with⟨s,g',a1,a2,a3,a4,a5⟩|⟨a1,⟨w,a2⟩,_⟩
  ·rw [a5,a3];simp only [Aa,Al,Ac];rw [ad1 (by omega)];exact ABP d b X hX hd n (i+1) (by omega) a4 (by omega) (by show o.1+1=_;omega)
  rw [a2,a1];simp only [Aa,AJ,Ae];rfl
theorem gQ {x:As} (h:Ij d r) (hx:x∈r) (hy:y∈r) (hb:x.Block=y.Block) (hl:x.Leaf=y.Leaf):x=y:=by
 obtain⟨b,l,g1,g2,_,g3⟩:=h.scan.page x hx;obtain⟨b',l',k1,k2,_,k3⟩:=h.scan.page y hy;rw [hb,k1]at g1
 injection g1 with g1
 subst g1;rw [hl,k2]at g2
 injection g2 with g2
 subst g2;rw [k3]at g3
 injection g3 with g3
 injection g3 with g3 _
 cases x;cases y;simp only at hb hl g3;rw [hb,hl,g3]
theorem ACC (h:Ij d r) (hy:y∈r):0<=y.Leaf/\y.Leaf<4:=by
 obtain⟨b,l,g1,g2,_,g3⟩:=h.scan.page y hy;obtain⟨_,k1⟩:=C6 g1;obtain⟨q0,k2⟩:=C6 g2;have:=(h.fl.blk b (A6 k1)).four;have:=(Ai.1 k2).1;omega
theorem aU (h:Ij d r) (u:r.length<=40) {live:List Int} (l1:GE d.Store=some live) (l2:asc live) (l3:∀x,x∈live↔ER (BU d.Store) x) (l4:live.length<=16777216) (b:Int):
  ∃v,mv b (NV b (Cw r live 1000000001) r) (d.Seq,[],d.Flash.Blocks)=some v/\GV d b=some (match v with|some o=>(o.2.1,true)|none=>([],false))/\Lu d b=some (match v with|some o=>(o.2.1,true)|none=>([],false))/\
  (NV b (Cw r live 1000000001) r).length=(HE r b live).length/\(NV b (Cw r live 1000000001) r).length<=4/\∀y,y∈NV b (Cw r live 1000000001) r↔y∈HE r b live:=by
 have w:=h.pages;have h3:1<=d.Seq/\d.Seq<=1000000001:=by
  rw [h.seq];have h1:=Sr r;refine⟨h1.2.1,h1.2.2 _ (by omega) (λy hy=>?_)⟩;have:=(w.seq y hy).2;omega
 have hk:∀y∈r,y.Page.Kind=1->y.Page.Count=1/\y.Page.Part=0:=by
  intro y hy k1;obtain⟨_,_,_,c1,c2,_,c3⟩:=AFW h hy;have:y.Page.Count=1:=by omega
  exact⟨this,by omega⟩
 have hn:∀(j:Nat) y,r[j]?=some y->(Cw r live 1000000001)[j]?=some true->y.Page.Kind=1:=λj y hy hj=>(Zl h l3 hy hj).1
 have f:∀(j:Nat) y,r[j]?=some y->(Cw r live 1000000001)[j]?=some true->NE y.Page.Tx r r.length=some j/\y.Page.Tx∈live:=by
  intro j y hy hj;rw [Mp r live _ hy]at hj
  injection hj with hj
  rw [CT]at hj
  rcases hj with hj|hj
  ·simp only [Dx,An,Cj,A9]at hj;have:=(w.tx y (A6 hy)).2;omega
  rw [Df]at hj;obtain⟨c,c1,c2⟩:=hj;have c2':NE c r r.length=some j:=by simpa using c2
  obtain⟨_,z,z1,z2⟩:=Mx (A4 _) c2';rw [hy]at z1
  injection z1 with z1
  subst z1;simp only [I3,An,Cj]at z2;rw [z2.2];exact⟨c2',c1⟩
 have hm:∀y,y∈NV b (Cw r live 1000000001) r↔y∈HE r b live:=by
  intro y;have e1:y∈NV b (Cw r live 1000000001) r↔(∃j:Nat,r[j]?=some y/\(Cw r live 1000000001)[j]?=some true)/\y.Block=b:=by
   unfold NV;simp only [Ak,Ts];constructor
   ·rintro(q|q|q|q)<;>exact⟨q.1,q.2.1⟩
   rintro⟨⟨j,q1,q2⟩,q3⟩;have:=ACC h (A6 q1);have:y.Leaf=0\/y.Leaf=1\/y.Leaf=2\/y.Leaf=3:=by omega
   rcases this with q|q|q|q
   ·exact .inl ⟨⟨j,q1,q2⟩,q3,q⟩
   ·exact .inr (.inl ⟨⟨j,q1,q2⟩,q3,q⟩)
   ·exact .inr (.inr (.inl ⟨⟨j,q1,q2⟩,q3,q⟩))
   exact .inr (.inr (.inr ⟨⟨j,q1,q2⟩,q3,q⟩))
  rw [e1];constructor
  ·rintro⟨⟨j,q1,q2⟩,q3⟩;obtain⟨q4,q5⟩:=f j y q1 q2;refine List.mem_filterMap.2 ⟨y.Page.Tx,q5,?_⟩;rw [q4];simp [bk,q1,q3]
  intro hy;obtain⟨c,c1,j,c2,c3,c4,c5,c6⟩:=Ri hy;refine⟨⟨j,c3,?_⟩,c4⟩;rw [Mp r live _ c3,Ao,CT];exact .inr (Df.2 ⟨c,c1,by simpa using c2⟩)
 have m:∀y∈HE r b live,y∈r/\y.Block=b:=λy hy=>by
  obtain⟨c,c1,j,c2,c3,c4,c5,c6⟩:=Ri hy;exact⟨A6 c3,c4⟩
 have h0:∀x∈HE r b live,∀y∈HE r b live,x.Leaf=y.Leaf->x=y:=λx hx y hy e=>gQ h (m x hx).1 (m y hy).1 (by rw [(m x hx).2,(m y hy).2]) e
 have a:∀i:Int,∀y∈Kx b i (Cw r live 1000000001) r,y∈r/\y.Block=b/\y.Leaf=i:=λi y hy=>by
  obtain⟨⟨j,q1,q2⟩,q3,q4⟩:=Ts.1 hy;exact⟨A6 q1,q3,q4⟩
 have n:∀i:Int,(Kx b i (Cw r live 1000000001) r).length<=1:=by
  intro i;have hd:=rI (λj y hy hj=>(f j y hy hj).1) b i
  rcases hc:Kx b i (Cw r live 1000000001) r with _|⟨x,_|⟨y,l⟩⟩
  ·exact II 1
  ·exact A4 1
  have hx:=a i x (by rw [hc];simp);have hy:=a i y (by rw [hc];simp);rw [hc]at hd;exact absurd (gQ h hx.1 hy.1 (by rw [hx.2.1,hy.2.1]) (by rw [hx.2.2,hy.2.2])) (λe=>(Cs.1 hd).1 y (by simp) (by rw [e]))
 have h4:(NV b (Cw r live 1000000001) r).length<=4:=by
  unfold NV;simp only [Ag];have:=n 0;have:=n 1;have:=n 2;have:=n 3;omega
 have h5:pZ (NV b (Cw r live 1000000001) r):=by
  have hd:∀i:Int,pZ (Kx b i (Cw r live 1000000001) r):=λi=>rI (λj y hy hj=>(f j y hy hj).1) b i
  have cross:∀i k:Int,i≠k->∀x∈Kx b i (Cw r live 1000000001) r,∀y∈Kx b k (Cw r live 1000000001) r,x.Page.Tx≠y.Page.Tx:=by
   intro i k p x hx y hy e;obtain⟨⟨j,q1,q2⟩,q3,q4⟩:=Ts.1 hx;obtain⟨⟨j',p1,p2⟩,p3,p4⟩:=Ts.1 hy;have a1:=(f j x q1 q2).1;have a2:=(f j' y p1 p2).1;rw [e,a2]at a1
   injection a1 with a1
   subst a1;rw [q1]at p1
   injection p1 with p1
   subst p1;exact p (by rw [<-q4,<-p4])
  unfold NV pZ;refine AX.2 ⟨hd 0,AX.2 ⟨hd 1,AX.2 ⟨hd 2,hd 3,cross 2 3 (by decide)⟩,?_⟩,?_⟩
  ·intro x hx y hy
   rcases Ak.1 hy with hy|hy
   ·exact cross 1 2 (by decide) x hx y hy
   exact cross 1 3 (by decide) x hx y hy
  intro x hx y hy
  rcases Ak.1 hy with hy|hy
  ·exact cross 0 1 (by decide) x hx y hy
  rcases Ak.1 hy with hy|hy
  ·exact cross 0 2 (by decide) x hx y hy
  exact cross 0 3 (by decide) x hx y hy
 have g:Ch BS (HE r b live) (NV b (Cw r live 1000000001) r):=ADz (f0 r b (iV l2)) h5 (λy=>(hm y).symm) h0;have h2:=g.len;have t:srt BS (NV b (Cw r live 1000000001) r):=by
  have hc:∀i:Int,srt BS (Kx b i (Cw r live 1000000001) r):=by
   intro i
   refine List.pairwise_of_forall_mem_list λx hx y hy=>?_
   show x.Leaf<=y.Leaf;rw [(a i x hx).2.2,(a i y hy).2.2];exact E7 _
  have cross:∀i k:Int,i<=k->∀x∈Kx b i (Cw r live 1000000001) r,∀y∈Kx b k (Cw r live 1000000001) r,BS x<=BS y:=by
   intro i k p x hx y hy;show x.Leaf<=y.Leaf;rw [(a i x hx).2.2,(a k y hy).2.2];exact p
  unfold NV srt;refine AX.2 ⟨hc 0,AX.2 ⟨hc 1,AX.2 ⟨hc 2,hc 3,cross 2 3 (by decide)⟩,?_⟩,?_⟩
  ·intro x hx y hy
   rcases Ak.1 hy with hy|hy
   ·exact cross 1 2 (by decide) x hx y hy
   exact cross 1 3 (by decide) x hx y hy
  intro x hx y hy
  rcases Ak.1 hy with hy|hy
  ·exact cross 0 1 (by decide) x hx y hy
  rcases Ak.1 hy with hy|hy
  ·exact cross 0 2 (by decide) x hx y hy
  exact cross 0 3 (by decide) x hx y hy
 have I0:MvI 0 (d.Seq,[],d.Flash.Blocks):=⟨h.fl.cap,A4 _,by show 0<=d.Seq;omega,by show d.Seq<=1000000001+((0:Nat):Int);omega⟩;obtain⟨v,v1,v2⟩:=AD7 (b:=b) (NV b (Cw r live 1000000001) r) I0 (by omega);refine⟨v,v1,?_,?_,h2.symm,h4,hm⟩
 ·unfold GV;rw [h.scan.s,l1];simp only [Aa];rw [Ma r live _ h.scan.len l4];simp only [Aa];have h6:live.foldl (dT r) (r.map (Dx 1000000001))=Cw r live 1000000001:=rfl;rw [h6];have ho:=ABp u hk (J5 r live 1000000001) hn b 4 0 (by omega) I0 (by omega);have eF:ACe b (Cw r live 1000000001) r 4 0=NV b (Cw r live 1000000001) r:=by
   simp [ACe,NV]
  rw [eF,v1]at ho;rw [show((0:Nat):Int)=0 from rfl]at ho;simp only at ho;rw [ho]
  cases v with
  |none=>rfl
  |some o=>rfl
 unfold Lu;rw [AFk h.scan (ZG h.st l1) l4 b];simp only [Aa];obtain⟨X,x1,x2,x3⟩:=ACa BS (HE r b live) (by omega);have hX:X=NV b (Cw r live 1000000001) r:=O8 BS x2 t (λk=>by rw [x3 k,<-g k]);rw [x1,hX];simp only [Aa];have ho:=ABP d b (NV b (Cw r live 1000000001) r) (by omega) ⟨by omega,h3.2⟩ (NV b (Cw r live 1000000001) r).length 0 (by omega) I0 (by omega) (by show d.Seq=d.Seq+((0:Nat):Int);omega);rw [List.drop_zero,v1,show((0:Nat):Int)=0 from rfl]at ho;simp only at ho;rw [ho]
 cases v with
 |none=>rfl
 |some o=>rfl
theorem ADb (h:Cg f):Mw f<=10000:=by
 have hl:∀l:List Leaf,(∀x∈l,lfP x)->(l.map NQ).sum<=120*l.length:=by
  intro l
  induction l with
  |nil=>intro _;simp
  |cons x l ih=>
   intro hx;rw [BF,FJ,Ay];have:=ih (λy hy=>hx y (by simp [hy]));have h1:NQ x<=120:=by
    have a:x.Text.size=(L x.Text).length:=by have:=BL x.Text;unfold FL at this;exact Int.ofNat_inj.1 this
    unfold NQ
    rcases hx x (by simp)with⟨_,e⟩|⟨_,_,e⟩|⟨_,e⟩
    ·rw [a,e];simp
    ·omega
    omega
   omega
 have hb:∀l:List Block,(∀b∈l,Kk b)->(l.map JL).sum<=500*l.length:=by
  intro l
  induction l with
  |nil=>intro _;simp
  |cons b l ih=>
   intro hx;rw [BF,FJ,Ay];have:=ih (λy hy=>hx y (by simp [hy]));have h1:=hx b (by simp);have h2:=hl b.Leaves h1.leaf;have h4:=h1.four;have hz:JL b=b.Leaves.length+(b.Leaves.map NQ).sum:=rfl;omega
 have:=hb f.Blocks h.blk;have hn:=h.n;unfold Mw zl;omega
theorem fL (h:Ij d r):Xo d<=1048576:=by
 have h1:=ADb h.fl;have h2:=h.st.len;have h3:=h.st.small;have a:∀l:List Cc,(∀k∈l,k.Kids.length=4)->(l.map qU).sum=4*l.length:=by
  intro l
  induction l with
  |nil=>intro _;rfl
  |cons k l ih=>
   intro hl;rw [BF,FJ,ih (λx hx=>hl x (by simp [hx])),Ay];have:=hl k (by simp);unfold qU;omega
 have h4:=a d.Store.Arena.Knots (λk hk=>by
  obtain⟨i,hi,rfl⟩:=AI hk;have:=(Hj.1 h.st.ar i hi).1;rw [Oj hi]at this
  exact this)
 have e1:UD d.Store=d.Store.Vols.length+(d.Store.Arena.Knots.length+(d.Store.Arena.Knots.map qU).sum):=rfl;have e2:Xo d=Mw d.Flash+UD d.Store:=rfl;omega
theorem xH (s:Store) (hv:s.Vols.length<=1048576) (ha:Us s.Arena):∃l,K7 s=some l/\Pt s=some l/\l.length<=1+17*s.Vols.length:=by
 unfold K7 Pt;obtain⟨l,h1,h2,h3⟩:=MP (body:=λq:List Cu×Int=>DJ s q.1 q.2) (body':=λq:List Cu×Int=>H4 s q.1 q.2) (λ(l:List Cu) i=>(l,i)) s.Vols.length (λi l=>l.length<=1+17*i) (λl=>l.length<=1+17*s.Vols.length)
  (λl i hi hl=>by
   have hg:s.Vols[i]?=some s.Vols[i]:=Ab hi;obtain⟨a,a1,a2,a3⟩:=UB s.Arena ha s.Vols[i].Root;have b:ap 32 l [(Cu.mk 2 s.Vols[i].Id 0 0)]=some (l++ [(Cu.mk 2 s.Vols[i].Id 0 0)]):=C3 (by simp only [Aj];omega);simp only [DJ,H4,AE,Ad hi,Ae,AC,hg,Aa,b,a1,a2];obtain⟨u,u1,u2,u3⟩:=MP (body:=λq:List Cu×Int=>DI s (i:Int) a q.1 q.2) (body':=λq:List Cu×Int=>H3 s.Vols[i] a q.1 q.2) (λ(l:List Cu) k=>(l,k)) a.length (λk o=>o.length<=l.length+1+k) (λo=>o.length<=l.length+17)
    (λo k hk ho=>by
     have c:a[k]?=some a[k]:=Ab hk;simp only [DI,H3,AE,Ad hk,Ae,AC,c,hg,Aa];refine⟨by first|rfl|trivial,?_⟩;rw [ad1 (by omega)]
     cases decide (a[k]>0)with
     |true=>
      simp only [Ae];rw [C3 (by simp only [Aj];omega)];exact .inl ⟨_,rfl,by simp only [Ag,Aj];omega⟩
     |false=>exact .inl ⟨_,rfl,by omega⟩)
    (λo ho=>⟨by simp only [DI,H3,AE,Aq,Av,Ac],o,by simp only [DI,AE,Aq,Av,Ac],by omega⟩) (s:=l++ [(Cu.mk 2 s.Vols[i].Id 0 0)]) (by simp)
   have u1':Aw (λq:List Cu×Int=>DI s (i:Int) a q.1 q.2) (l++ [(Cu.mk 2 s.Vols[i].Id 0 0)],0)=some u:=u1;have u2':Aw (λq:List Cu×Int=>H3 s.Vols[i] a q.1 q.2) (l++ [(Cu.mk 2 s.Vols[i].Id 0 0)],0)=some u:=u2;rw [u1',u2'];simp only [Aa];rw [ad1 (by omega)]
   exact⟨by first|rfl|trivial,.inl ⟨_,rfl,by omega⟩⟩)
  (λl hl=>⟨by simp only [DJ,H4,AE,Aq,Av,Ac],l,by simp only [DJ,AE,Aq,Av,Ac],hl⟩) (s:=[(Cu.mk 1 0 s.Next 0)]) (by simp)
 have h1':Aw (λq:List Cu×Int=>DJ s q.1 q.2) ([(Cu.mk 1 0 s.Next 0)],0)=some l:=h1;have h2':Aw (λq:List Cu×Int=>H4 s q.1 q.2) ([(Cu.mk 1 0 s.Next 0)],0)=some l:=h2;rw [h1',h2'];exact⟨l,rfl,rfl,h3⟩
theorem AAM {p:Nat->Bool} (h:∀j,j<n->p j=false):cn n p=0:=by
 rw [V3 (q:=λ_=>false) h];unfold cn;rw [BI.2 (λx _=>by simp)];rfl
theorem XY (l:List Bb) (h:l.length<=1048576):Ni l l=some true:=by
 unfold Ni;rw [bne_self_eq_false,Ac];obtain⟨a,h1,h2⟩:=Bk (body:=λs:Int=>G5 l l s) (λ(_:Unit) i=>i) l.length (λ_ _=>True) (λa=>a= .inl ())
  (λ_ i hi _=>by
   have hx:=Ab hi;refine .inl ⟨(),?_,trivial⟩;simp only [G5,AE,Ad hi,Ae,AC,hx,Aa,V8,C4,Jc,decide_true,Al,Ac]
   rw [ad1 (by omega)])
  (λ_ _=>⟨.inl (),by simp only [G5,AE,Aq,Av,Ac],rfl⟩) (s:=()) trivial
 have h1':Aw (λs:Int=>G5 l l s) 0=some a:=h1;rw [h1',h2];rfl
theorem xG (h:Ij d r):∃st ok,Lo d=some (st,ok)/\N3 d=some (st,ok)/\(ok=true->1<=st.length)/\st.length<=1048576:=by
 have hf:L0 d.Flash:=h.fl.cap;obtain⟨b,r1,r2,r3⟩:=xH d.Store (by have:=h.st.len;omega) (AAN h.st);have hb:=h.st.vs;obtain⟨b1,b2⟩:=iS hb;have e:=T8 h.st;rw [r1]at e
 injection e with e
 subst e;obtain⟨st,ok,w1,w2,w3⟩:=fD d hf (Kh (BU d.Store) d.Store.Next) (by omega) (bs []);refine⟨st,ok,?_,?_,?_,by omega⟩
 ·unfold Lo;rw [r1];simp only [Aa];rw [w1];rfl
 ·unfold N3;rw [r2];simp only [Aa];rw [w2];rfl
 intro ho;subst ho
 rcases P7 h.fl h.seqs (Kh (BU d.Store) d.Store.Next) (by unfold Kh;simp) b2 b1 (bs [])with w|⟨steps,T,g,c,q1,q2,q3,q4,q5,q6,q7,q8,q9⟩
 ·rw [w1]at w;cases w
 rw [w1]at q2
 injection q2 with q2
 injection q2 with q2 _
 subst q2;have a:=(Fp q7).2;rw [Ag]at a;have f:(CW (LN d (bs [])) d.Tx T).length=T.length:=by unfold CW;rw [IV]
 omega
theorem AFU (l:List Int) (n:Int) (hl:l.length<=1048576):TT l n=some (l.contains n):=by
 unfold TT;obtain⟨b,h1,h2⟩:=Bk (body:=λs:Int=>J8 l n s) (λ(_:Unit) i=>i) l.length (λi _=>n∉l.take i) (λb=>(b= .inr true/\n∈l)\/(b= .inl ()/\n∉l))
  (λ_ i hi hs=>by
   have hx:=Ab hi;simp only [J8,AE,Ad hi,Ae,AC,hx,Aa];rw [ad1 (by omega)]
   cases e:(l[i]==n)with
   |true=>exact .inr ⟨_,rfl,.inl ⟨rfl,by
    have e2:l[i]=n:=by simpa using e
    rw [<-e2]
    exact AD hi⟩⟩
   |false=>
    refine .inl ⟨(),by simp only [Ac],?_⟩;rw [Ax hi,Ak,Az];rintro(h|h)
    ·exact hs h
    rw [h]at e;simp at e)
  (λ_ hs=>⟨.inl (),by simp only [J8,AE,Aq,Av,Ac],.inr ⟨rfl,by rw [AR]at hs;exact hs⟩⟩) (s:=()) (by simp)
 have h1':Aw (λs:Int=>J8 l n s) 0=some b:=h1;rw [h1']
 rcases h2 with⟨rfl,h⟩|⟨rfl,h⟩
 ·simp [h]
 simp [h]
theorem eW (hr:GM r):∃l,Aw (λs:List Int×Int=>JD r s.1 s.2) ([],0)=some l/\l.Nodup/\(∀x,x∈l↔∃y∈r,y.Page.Kind=2/\y.Page.Tx=x)/\l.length<=r.length:=by
 have c:=hr.len;obtain⟨l,h1,h2,h3,h4⟩:=Bk (body:=λs:List Int×Int=>JD r s.1 s.2) (λ(o:List Int) i=>(o,i)) r.length (λi o=>o.Nodup/\(∀x,x∈o↔∃y∈r.take i,y.Page.Kind=2/\y.Page.Tx=x)/\o.length<=i) (λo=>o.Nodup/\(∀x,x∈o↔∃y∈r,y.Page.Kind=2/\y.Page.Tx=x)/\o.length<=r.length)
  (λo i hi ho=>by
   obtain⟨o1,o2,o3⟩:=ho;have hx:=Ab hi;have et:r.take (i+1)=r.take i++ [r[i]]:=by rw [Ax hi]
   refine .inl ?_;simp only [JD,AE,Ad hi,Ae,AC,hx,Aa];rw [ad1 (by omega),AFU o _ (by omega)]
   cases hk:(r[i].Page.Kind==2)with
   |false=>
    simp only [Ac,Aa];refine⟨o,rfl,o1,λx=>?_,by omega⟩;rw [o2,et];constructor
    ·rintro⟨y,y1,y2⟩;exact⟨y,AG _ y1,y2⟩
    rintro⟨y,y1,y2,y3⟩;rw [Ak,Az]at y1
    rcases y1 with y1|rfl
    ·exact⟨y,y1,y2,y3⟩
    rw [y2]at hk;simp at hk
   |true=>
    have hk':r[i].Page.Kind=2:=by simpa using hk
    simp only [Ae,Aa]
    cases hc:o.contains r[i].Page.Tx with
    |true=>
     have hc':r[i].Page.Tx∈o:=by simpa using hc
     simp only [Al,Ac];refine⟨o,rfl,o1,λx=>?_,by omega⟩;rw [o2,et];constructor
     ·rintro⟨y,y1,y2⟩;exact⟨y,AG _ y1,y2⟩
     rintro⟨y,y1,y2,y3⟩;rw [Ak,Az]at y1
     rcases y1 with y1|rfl
     ·exact⟨y,y1,y2,y3⟩
     rw [<-y3];exact(o2 _).1 hc'
    |false=>
     have hc':r[i].Page.Tx∉o:=by
      intro h;rw [List.contains_iff_mem.2 h]at hc;cases hc
     simp only [AJ,Ae];rw [C3 (by simp only [Aj];omega)];refine⟨_,rfl,?_,λx=>?_,by simp;omega⟩
     ·rw [Bs];exact⟨o1,by simp,λa ha b hb e=>by rw [Az]at hb;rw [e,hb]at ha;exact hc' ha⟩
     rw [Ak,Az,o2,et];constructor
     ·rintro(⟨y,y1,y2⟩|rfl)
      ·exact⟨y,AG _ y1,y2⟩
      exact⟨r[i],AL _ (Az.2 rfl),hk',rfl⟩
     rintro⟨y,y1,y2,y3⟩;rw [Ak,Az]at y1
     rcases y1 with y1|rfl
     ·exact .inl ⟨y,y1,y2,y3⟩
     exact .inr y3.symm)
  (λo ho=>⟨o,by simp only [JD,AE,Aq,Av,Ac],by rw [AR]at ho;exact ho⟩) (s:=[]) ⟨CJ,by simp,by simp⟩
 exact⟨l,h1,h2,h3,h4⟩
theorem AB8 {l:List Int} (hr:GM r) (h1:l.Nodup) (h2:∀x,x∈l↔∃y∈r,y.Page.Kind=2/\y.Page.Tx=x):Qk l=Dn r:=by
 obtain⟨n1,n2,n3⟩:=GI r (λy hy=>(hr.tx y hy).1);refine Uw ?_ n1 (λx=>?_)
 ·have hs:(Qk l).Pairwise λx y=>x<=y:=by
   have:=List.pairwise_mergeSort (le:=λx y:Int=>decide (x<=y)) (λa b c h1 h2=>by simp at*;omega) (λa b=>by simp;omega) l;unfold Qk;exact this.imp (λh=>by simpa using h)
  have hd:(Qk l).Nodup:=by
   unfold Qk;exact(List.mergeSort_perm l _).nodup_iff.2 h1
  unfold asc;exact(hs.and hd).imp (λh=>by have:=h.1;have:=h.2;omega)
 rw [n2,<-h2];unfold Qk;rw [List.mem_mergeSort]
theorem gL (t:ByteArray) (ht:(L t).length<=20000):∀(n a:Nat) (c:List Cu),(L t).length-a<=n->a<=(L t).length->c.length<=a->Aw (λs:List Cu×Int=>KY t s.1 s.2) (c,(a:Int))=Aw (λs:List Cu×ByteArray×Int×Bool=>DG t s.1 s.2.1 s.2.2.1 s.2.2.2) (c,t,(a:Int),false)
 |n,a,c,hn,ha,ho=>by
  rw [A8,A8];simp only [DG,KY];rw [BL];by_cases d:a<(L t).length
  ·rw [Ad (by omega:(a:Int)<((L t).length:Int))];simp only [Ae,Aa,AJ];rw [EX t d,ad1 (by omega)];obtain⟨r1,a1,a2,a3⟩:=Ig t ((a+1:Nat):Int) (by omega) ⟨by omega,by omega⟩;have f:oI r1.2.1:=by
    rcases a3 with⟨_,_,e⟩|⟨_,_,b,_,_,e,_,_,e2,_⟩
    ·rw [e];exact⟨by omega,by omega⟩
    rw [e];exact⟨by omega,by omega⟩
   obtain⟨r2,b1,b2,b3⟩:=Ig t r1.2.1 (by omega) f;rw [a2];simp only [Aa];rw [b2];simp only [Aa];have l1:Du (D0.mk t ((a+1:Nat):Int) false)=some (if r1.2.2=true then(r1.1,D0.mk t r1.2.1 false)else(0,D0.mk t ((a+1:Nat):Int) true)):=by
    unfold Du;simp only;rw [a1];cases h:r1.2.2<;>simp [h]
   rw [l1]
   cases h1:r1.2.2 with
   |false=>
    simp only [BH,FM,Aa,AJ,Ae];have l2:Du (D0.mk t ((a+1:Nat):Int) true)=some (0,D0.mk t ((a+1:Nat):Int) true):=by
     unfold Du;simp only;rw [a1];simp
    rw [l2];simp only [Aa,Ae]
   |true=>
    simp only [BX,Aa,Al,Ac];have l2:Du (D0.mk t r1.2.1 false)=some (if r2.2.2=true then(r2.1,D0.mk t r2.2.1 false)else(0,D0.mk t r1.2.1 true)):=by
     unfold Du;simp only;rw [b1];cases h:r2.2.2<;>simp [h]
    rw [l2]
    cases h2:r2.2.2 with
    |false=>
     simp only [BH,FM,Aa,AJ,Ae]
    |true=>
     simp only [BX,Aa,Al,Ac];obtain⟨v,c1,c2,_⟩:=wR (Cu.mk (qu (IntKind.i64.wrap ((L t)[a].toNat:Int)) 16) (Int.tmod (IntKind.i64.wrap ((L t)[a].toNat:Int)) 16) r1.1 r2.1);rw [c1,c2];simp only [Aa]
     cases v with
     |false=>simp only [AJ,Ae]
     |true=>
      simp only [Al,Ac];rw [C3 (by simp;omega)];simp only [Aa]
      rcases b3 with⟨e,_⟩|⟨_,aa,b,m,k1,k2,k3,k4,k5,_⟩
      ·rw [h2]at e;cases e
      rcases a3 with⟨e,_⟩|⟨_,aa',b',m',p1,p2,p3,p4,p5,_⟩
      ·rw [h1]at e;cases e
      rw [k2]
      match n,hn with
      |n+1,hn=>exact gL t ht n b _ (by omega) k5 (by simp;omega)
      |0,hn=>omega
  rw [Af (by omega)];simp only [Ac,Aa]
theorem eH (t:ByteArray) (ht:(L t).length<=20000):Pn t=HU t:=by
 have h:=gL t ht (L t).length 0 [] (by omega) (by omega) (by simp);rw [show((0:Nat):Int)=0 from rfl]at h;unfold Pn HU;rw [h]
def AHI:Page:=Page.mk 0 0 0 0 0 (bs [])
theorem g9 (r:List As) (hl:r.length<=1048576) (t a c:Int) (h:(a=0/\c=0)\/(0<a/\0<c)):QK r t a c=some (match PY r t a c with|some y=>(y.Page,true)|none=>(AHI,false)):=by
 have hp:∀y:As,(bif(y.Page.Kind==2)then(bif(y.Page.Tx==t)then(bif(y.Page.Part==a)then(bif(c==0)then(some true)else(some (y.Page.Count==c)))else(some false))else(some false))else(some false):Option Bool)=some (xU t a c y):=by
  intro y;unfold xU;cases y.Page.Kind==2<;>cases y.Page.Tx==t<;>cases y.Page.Part==a<;>simp only [Ae,Ac,Bool.false_and,C4]
  rcases h with⟨rfl,rfl⟩|⟨h1,h2⟩
  ·simp
  rw [show(c==0)=false by simp;omega];simp [h1]
 unfold QK;obtain⟨b,h1,h2⟩:=Bk (body:=λs:Int=>J7 r t a c s) (λ(_:Unit) i=>i) r.length (λi _=>∀(j:Nat) x,j<i->r[j]?=some x->xU t a c x=false) (λb=>match PY r t a c with|some y=>b= .inr (y.Page,true)|none=>b= .inl ())
  (λ_ i hi hs=>by
   have hx:=Ab hi;simp only [J7,AE,Ad hi,Ae,AC,hx,Aa];rw [hp,ad1 (by omega)];simp only [Aa]
   cases e:xU t a c r[i]with
   |true=>
    refine .inr ⟨_,rfl,?_⟩;unfold PY;rw [pW r _ hs hx e]
   |false=>
    refine .inl ⟨(),by simp only [Ac],λj x hj d=>?_⟩;by_cases q:j=i
    ·subst q;rw [hx]at d;injection d with d;rw [<-d];exact e
    exact hs j x (by omega) d)
  (λ_ hs=>⟨.inl (),by simp only [J7,AE,Aq,Av,Ac],by
   unfold PY
   rw [ABS r _ (λj x hx=>hs j x (Ai.1 hx).1 hx)]⟩) (s:=()) (λj x hj=>by omega)
 have h1':Aw (λs:Int=>J7 r t a c s) 0=some b:=h1;rw [h1']
 cases hf:PY r t a c with
 |none=>rw [hf]at h2;simp only at h2;rw [h2];rfl
 |some y=>rw [hf]at h2;simp only at h2;rw [h2];rfl
theorem AEr (r:List As) (hr:GM r) (t:Int) (v:Page×Bool) (hv:1<=v.1.Count/\v.1.Count<=9):∀(n:Nat) (a:Int) (text:ByteArray) (seq:Int),a+n=11->1<=a->a<=v.1.Count->(L text).length<=90*a.toNat->
  ∃b,Aw (λs:ByteArray×Int×Int=>KV r t v s.1 s.2.1 s.2.2) (text,seq,a)=some b/\(match parts r t n a v.1.Count (L text) seq with
   |none=>b= .inr (Tx.mk 0 0 [],false)
   |some (x,q)=>∃u,b= .inl (u,q)/\L u=x/\(L u).length<=1000)
 |0,a,text,seq,hn,h1,hc,ht=>by omega
 |n+1,a,text,seq,hn,h1,hc,ht=>by
  rw [A8];simp only [KV,parts];by_cases e:a<v.1.Count
  ·rw [Ad e,A3 (.inr e)];simp only [Ae];rw [g9 r hr.len t a v.1.Count (.inr ⟨by omega,by omega⟩)];simp only [Aa]
   cases hf:PY r t a v.1.Count with
   |none=>
      simp only [AJ,Ae];exact⟨_,rfl,rfl⟩
   |some y=>
    simp only [Al,Ac];have hy:=QS hf;have d:=hr.text y hy.1;have c:=ABI hy.2 (by omega);rw [FT text y.Page.Text (by omega)];simp only [Aa];rw [CA (by omega) (by omega),c];have es:MN a seq y=(if y.Page.Seq<seq then y.Page.Seq else seq):=by
     unfold MN;by_cases q:y.Page.Seq<seq
     ·rw [A3 (.inr q),A3 q]
     rw [A5 (by rintro(h|h);omega;exact q h),A5 q]
    rw [es,<-D4];exact AEr r hr t v hv n (a+1) _ _ (by omega) (by omega) (by omega) (by rw [D4,Ag];omega)
  rw [Af e,A5 (by rintro(h|h);omega;exact e h)];simp only [Ac];exact⟨_,rfl,text,rfl,rfl,by omega⟩
theorem n8 (r:List As) (hr:GM r) (t:Int):∃x ok,Pi r t=some (x,ok)/\H6 r t=(if ok=true then some x else none)/\x.Recs.length<=20000:=by
 unfold Pi H6;rw [g9 r hr.len t 0 0 (.inl ⟨rfl,rfl⟩)];simp only [Aa]
 have a:parts r t 11 0 0 [] 0=(match PY r t 0 0 with
  |none=>none
  |some y=>parts r t 10 1 y.Page.Count (L y.Page.Text) y.Page.Seq):=by
  rw [show(11:Nat)=10+1 from rfl];unfold parts;rw [A3 (.inl rfl)]
  cases PY r t 0 0 with
  |none=>rfl
  |some y=>
   simp only [AA];have:MN 0 0 y=y.Page.Seq:=by unfold MN;rw [A3 (.inl rfl)]
   rw [this];rfl
 rw [a]
 cases hf:PY r t 0 0 with
 |none=>exact⟨_,_,rfl,rfl,by simp⟩
 |some y=>
  simp only [Al,Ac];have hy:=QS hf;have c:=hr.text y hy.1;have hc:=hr.cnt y hy.1;obtain⟨b,h1,h2⟩:=AEr r hr t (y.Page,true) hc 10 1 y.Page.Text y.Page.Seq (by omega) (by omega) hc.1 (by omega);rw [h1];simp only [Aa]
  cases hp:parts r t 10 1 y.Page.Count (L y.Page.Text) y.Page.Seq with
  |none=>
   rw [hp]at h2;simp only at h2;rw [h2];exact⟨_,_,rfl,rfl,by simp⟩
  |some w=>
   obtain⟨x,q⟩:=w;rw [hp]at h2;obtain⟨u,rfl,rfl,h4⟩:=h2;simp only [BM];obtain⟨l,ok,r1,r2,r3⟩:=aO u (by omega);rw [eH u (by omega),r1,AIc,r2];simp only [Aa]
   cases ok with
   |true=>exact⟨_,_,rfl,rfl,r3⟩
   |false=>exact⟨_,_,rfl,rfl,r3⟩
theorem vK (r:List As) (hr:GM r):Uc r=some (Bt r):=by
 have c:=hr.len;have a:=GI r (λy hy=>(hr.tx y hy).1);have d:=a.2.2;obtain⟨l,l1,l2,l3,l4⟩:=eW hr;unfold Uc;rw [l1];simp only [Aa];unfold Tq;rw [A3 (by omega),AB8 hr l2 l3];simp only [Aa];obtain⟨b,h1,h2⟩:=Bk (body:=λs:List Tx×Int=>JC r (Dn r) s.1 s.2) (λ(o:List Tx) i=>(o,i)) (Dn r).length (λi o=>o=((Dn r).take i).filterMap (H6 r)) (λb=>b=Bt r)
  (λo i hi ho=>by
   have hx:=Ab hi;have et:(Dn r).take (i+1)=(Dn r).take i++ [(Dn r)[i]]:=Ax hi;have e:o.length<=i:=by
    rw [ho];have:=List.length_filterMap_le (H6 r) ((Dn r).take i);rw [AF]at this;omega
   simp only [JC,AE,Ad hi,Ae,AC,hx,Aa];rw [ad1 (by omega)];obtain⟨z,ok,k1,k2,k3⟩:=n8 r hr (Dn r)[i];rw [k1];simp only [Aa];refine .inl ?_
   cases ok with
   |true=>
    simp only [Ae];rw [C3 (by simp only [Aj];omega)];refine⟨_,rfl,?_⟩;rw [et,Ha,ho];simp only [Il,List.filterMap_nil,k2,BX]
   |false=>
    refine⟨o,rfl,?_⟩;rw [et,Ha,ho]
    simp [k2])
  (λo ho=>⟨o,by simp only [JC,AE,Aq,Av,Ac],by rw [ho,AR];rfl⟩) (s:=[]) rfl
 have h1':Aw (λs:List Tx×Int=>JC r (Dn r) s.1 s.2) ([],0)=some b:=h1;rw [h1',h2];rfl
theorem ACH (x:Tx):TS x=some (iE x):=by
 unfold TS iE
 cases h:x.Recs with
 |nil=>rfl
 |cons q m=>
  rw [Ad (by rw [Cf,Ay];omega:ln (q::m)>0),show gi (q::m) 0=some q from AC (i:=0)];rfl
theorem AAQ (h:Ij d r):N0 d=Ky d:=by
 have hr:=h.pages;obtain⟨g1,_⟩:=SH hr;unfold N0 Ky
 cases(d.Base !=sb d.Tx 1)with
 |true=>rfl
 |false=>
  simp only [Ac];rw [h.scan.s,h.scan.i];simp only [Aa];rw [Qt r hr,vK r hr];simp only [Aa];have hb:(λs:Int=>Kb d (Bt r) s)=(λs:Int=>Fi d (Bt r) s):=by
   funext s;simp only [Kb,Fi]
   cases decide (s<ln (Bt r))with
   |false=>rfl
   |true=>
    simp only [Ae]
    cases hg:gi (Bt r) s with
    |none=>rfl
    |some x=>
     simp only [Aa]
     cases(x.Num==d.Base)with
     |false=>rfl
     |true=>
      simp only [Ae,Aa];rw [ACH];unfold iE
      cases hx:x.Recs with
      |nil=>rfl
      |cons q m=>
       rw [Ad (by rw [Cf,Ay];omega:ln (q::m)>0),show gi (q::m) 0=some q from AC (i:=0)];rfl
  rw [hb]
theorem Si (h:Ij d r):MU d=Jg d:=by
 have hn:=h.fl.n;obtain⟨live,l1,l2,l3,l4⟩:=Ji h.st;unfold Jg MU;rw [h.scan.s,l1];simp only [Aa];rw [Ma r live d.Base h.scan.len l4,Ma r live 1000000000 h.scan.len l4];simp only [Aa]
 have c:∀b,live.foldl (dT r) (r.map (Dx b))=Cw r live b:=λ_=>rfl
 rw [c,c]
 have hi:∀b:Block,JB b=Fk b:=λ_=>rfl
 have step:∀(o:Int×Int) (i:Nat),i<d.Flash.Blocks.length->Gw d o.1 o.2 (i:Int)=De d r (Cw r live d.Base) (Cw r live 1000000000) o.1 o.2 (i:Int)/\∃o':Int×Int,De d r (Cw r live d.Base) (Cw r live 1000000000) o.1 o.2 (i:Int)=some (.inl (o'.1,o'.2,((i+1:Nat):Int))):=by
  intro o i a;have hx:=Ab a;have hP:=h.fl.blk _ (AD a);have e:Kl d.Flash.Blocks[i].Leaves<=4:=by have:=nS d.Flash.Blocks[i].Leaves;rw [hP.four]at this;exact this
  simp only [De,Gw,AE,Ad a,Ae,AC,hx,Aa];rw [Zf r _ (i:Int) h.scan.len (J5 _ _ _),Zf r _ (i:Int) h.scan.len (J5 _ _ _),hi,JX _ hP.four,ad1 (by omega),(aT h l1 l2 l4 1000000000 (i:Int)).2,(aT h l1 l2 l4 d.Base (i:Int)).2];generalize cn r.length (λj=>(Cw r live d.Base)[j]?.getD false&&bk r (i:Int) j)=A;generalize cn r.length (λj=>(Cw r live 1000000000)[j]?.getD false&&bk r (i:Int) j)=C;simp only [Aa]
  cases d.Flash.Blocks[i].Bad with
  |true=>exact⟨rfl,o,rfl⟩
  |false=>
   simp only [AJ,Ae,Ac,Aa];by_cases q:Kl d.Flash.Blocks[i].Leaves=4
   ·rw [Af (by omega:¬((Kl d.Flash.Blocks[i].Leaves:Nat):Int)<4),show(((Kl d.Flash.Blocks[i].Leaves:Nat):Int)==4)=true by simp;omega];simp only [Ae,Ac,Aa];by_cases q2:A=C
    ·subst q2;simp only [V8,Ae];by_cases q3:(A:Int)>=1
     ·rw [Ad q3];simp only [Ae,Aa]
      cases decide ((A:Int)<o.2)with
      |true=>exact⟨by first|rfl|trivial,((i:Int),(A:Int)),rfl⟩
      |false=>exact⟨by first|rfl|trivial,o,rfl⟩
     rw [Af q3];exact⟨by first|rfl|trivial,o,rfl⟩
    rw [show((C:Int)==(A:Int))=false by simp;omega,show((A:Int)==(C:Int))=false by simp;omega];exact⟨rfl,o,rfl⟩
   rw [Ad (by omega:((Kl d.Flash.Blocks[i].Leaves:Nat):Int)<4),show(((Kl d.Flash.Blocks[i].Leaves:Nat):Int)==4)=false by simp;omega];exact⟨rfl,o,rfl⟩
 obtain⟨v,e1,e2,_⟩:=MP (body:=λs:Int×Int×Int=>De d r (Cw r live d.Base) (Cw r live 1000000000) s.1 s.2.1 s.2.2) (body':=λs:Int×Int×Int=>Gw d s.1 s.2.1 s.2.2) (λ(o:Int×Int) i=>(o.1,o.2,i)) d.Flash.Blocks.length (λ_ _=>True) (λ_=>True)
  (λo i a _=>by
   obtain⟨a1,o',a2⟩:=step o i a
   exact⟨a1,.inl ⟨o',a2,trivial⟩⟩)
  (λo _=>⟨by simp only [De,Gw,AE,Aq,Av,Ac],o.1,by simp only [De,AE,Aq,Av,Ac],trivial⟩) (s:=(-1,4)) trivial
 have e1':Aw (λs:Int×Int×Int=>De d r (Cw r live d.Base) (Cw r live 1000000000) s.1 s.2.1 s.2.2) (-1,4,0)=some v:=e1;have e2':Aw (λs:Int×Int×Int=>Gw d s.1 s.2.1 s.2.2) (-1,4,0)=some v:=e2;rw [e1',e2']
theorem fJ (h:LD d r):Ps d=Jj d:=by
 obtain⟨l,d1,d2,_⟩:=Sm d (fL h.dev);obtain⟨st,ok,b1,b2,_⟩:=xG h.dev;obtain⟨live,l1,l2,l3,l4⟩:=Ji h.dev.st
 have hm:∀b,Lu d b=GV d b:=λb=>by
  obtain⟨v,_,v2,v3,_⟩:=aU h.dev h.few l1 l2 l3 l4 b;rw [v2,v3]
 unfold Ps Jj;rw [d1,d2,AAQ h.dev,Si h.dev,b1,b2];simp only [hm]
 try rfl
theorem fQ {c:Nat} {s:Bb} (hc:s.Block=(c:Int)) (B:Int×List Block->Option ((Int×List Block)⊕List Block)) (hB:∀i bl,B (i,bl)=Ir s i bl):∀(n i:Nat) (bl:List Block) (x:Block),bl[c]?=some x->i+n=x.Leaves.length->x.Leaves.length<=4->(∀(k:Nat),k<i->x.Leaves[k]?=some (Leaf.mk 2 (bs [])))->
  Aw B ((i:Int),bl)=some (bl.set c (Block.mk x.Bad x.Wear (List.replicate x.Leaves.length (Leaf.mk 2 (bs [])))))
 |0,i,bl,x,hx,hi,h4,hk=>by
  rw [A8,hB];simp only [Ir,hc,AC,hx,Aa,AE];rw [Af (by omega),Ac];have e:x.Leaves=List.replicate x.Leaves.length (Leaf.mk 2 (bs [])):=by
   apply CE;intro k;rw [List.getElem?_replicate];by_cases q:k<x.Leaves.length
   ·rw [A3 q,hk k (by omega)]
   rw [A5 q,CN (by omega)]
  rw [<-e];simp only [Aa];have:bl.set c x=bl:=by
   apply CE;intro k;rw [Cd];split
   ·rename_i q;subst q;split
    ·rw [hx]
    rename_i q2;rw [CN (by omega)]
   rfl
  cases x;simp only at this⊢;rw [this]
 |n+1,i,bl,x,hx,hi,h4,hk=>by
  have a:i<x.Leaves.length:=by omega
  have hl:=Ab a;have b:=(Ai.1 hx).1;rw [A8,hB];simp only [Ir,hc,AC,hx,Aa,AE,Ad a,Ae,hl,Gs];rw [ad1 (by omega)]
  have:=fQ (s:=s) hc B hB n (i+1) (bl.set c (Block.mk x.Bad x.Wear (x.Leaves.set i (Leaf.mk 2 (bs []))))) (Block.mk x.Bad x.Wear (x.Leaves.set i (Leaf.mk 2 (bs [])))) (by rw [Cd];simp [b]) (by simp;omega) (by simpa using h4) (λk d=>by
   rw [Cd];by_cases q:i=k
   ·subst q;simp [a]
   rw [A5 q];exact hk k (by omega))
  rw [this];simp
theorem AGQ {s:Bb} (h:Cg f) (hs:Qi f s):∃g,Rm f s=some (g,true)/\ADf f s g:=by
 have hd:IN f s=some (JN f s,true):=by
  rcases Sy h s with⟨_,e⟩|⟨e,_⟩
  ·exact e
  exact absurd hs e
 unfold Rm;rw [hd,EF f h.cap];simp only [Aa,Al,Ac]
 rcases hs with⟨k1,hm⟩|⟨k1,hc⟩
 ·rw [show(s.Kind==1)=true by simpa using k1];simp only [Ae];obtain⟨_,_,A,B,e1,_,e2⟩:=Pb h hm;obtain⟨x,x1,x2,x3,x4,x5,x6⟩:=hm;have hP:=h.blk x (A6 (C6 x1).2);rw [x1];simp only [Aa];have hq:qu (FL s.Text) 2=(((L s.Text).length/2:Nat):Int):=by
   rw [BL];unfold qu;rw [show Int.tdiv ((L s.Text).length:Int) 2=(((L s.Text).length/2:Nat):Int)from(Int.ofNat_tdiv _ 2).symm];exact ND (by omega) (by omega)
  rw [hq,show sub s.Text 0 (((L s.Text).length/2:Nat):Int)=sub s.Text ((0:Nat):Int) (((L s.Text).length/2:Nat):Int)from rfl,EY s.Text (II _) (by omega)];simp only [Aa];have hx:gi x.Leaves s.Leaf=some (x.Leaves[Kl x.Leaves]'(by rw [hP.four];exact x4)):=by
   rw [x3,AC];exact Ab _
  rw [hx];simp only [Aa];refine⟨_,rfl,?_,λn hw=>jF hw (hw x (A6 (C6 x1).2)),.inl ⟨k1,?_⟩⟩
  ·obtain⟨b0,b1⟩:=C6 x1;obtain⟨c,a⟩:∃c:Nat,s.Block=(c:Int):=⟨_,(Bl b0).symm⟩;rw [a,x3,Gs,Gs];refine Lx h (S9 hP rfl x4 (.inr (.inr ⟨rfl,?_⟩)) (by simp));show(L (s.Text.extract 0 ((L s.Text).length/2))).length<=120;have:(L (s.Text.extract 0 ((L s.Text).length/2))).length<=(L s.Text).length:=by
    rw [HG];simp;omega
   omega
  have:=e2 (s.Text.extract 0 ((L s.Text).length/2));unfold prog at this;rw [x1]at this;rw [e1];exact this
 rw [show(s.Kind==1)=false by simp;omega];simp only [Ac];obtain⟨x,x1,x2,x3⟩:=hc;obtain⟨b0,b1⟩:=C6 x1;obtain⟨c,a⟩:∃c:Nat,s.Block=(c:Int):=⟨_,(Bl b0).symm⟩;rw [a,B6]at b1;have hP:=h.blk x (A6 b1);have hl:=fQ (s:=s) a (λq:Int×List Block=>Ir s q.1 q.2) (λ_ _=>rfl) x.Leaves.length 0 f.Blocks x b1 (by omega) (by rw [hP.four];omega) (λk hk=>by omega);rw [show((0:Nat):Int)=0 from rfl]at hl;rw [hl];refine⟨_,rfl,?_,λn hw y hy=>?_,.inr ⟨k1,?_⟩⟩
 ·refine Lx h ⟨by simp [hP.four],hP.wear,λy hy=>?_,λk y z hy hz h0=>?_⟩
  ·rw [Cv hy];exact .inr (.inr ⟨rfl,by rw [DV];simp⟩)
  have:=Cv (A6 hy);rw [this]at h0;cases h0
 ·rcases Co hy with hy|rfl
  ·exact hw y hy
  exact hw x (A6 b1)
 rw [a];exact Wc b1 (TE _ _ _ λy hy=>by rw [Cv hy];simp)
theorem AA9 {ss:List Bb} {k:Nat} (hf:Cg f) (hk:k<=ss.length) (hl:ss.length<=1000000) (h:∃m,Steps f ss m) (torn:Bool):∃g,OT f ss (k:Int) torn=some (g,true)/\Cg g/\wA f ss k g:=by
 obtain⟨z,hz⟩:=h;rw [<-Br k ss]at hz;obtain⟨m,h1,h2⟩:=(Mt _ _ _ _).1 hz;have hm:=Uy hf h1;unfold OT;rw [Cf,E6];simp only [Aa];rw [Ad (by omega:0<=(k:Int)/\(k:Int)<=(ss.length:Int))];simp only [Al,Ac];have b:dr ss 0 (k:Int)=some (ss.take k):=by
  unfold dr;rw [A3 (by omega)];simp
 have a:(ss.take k).length=k:=by rw [AF];omega
 rw [b];simp only [Aa];rw [VW hf h1 (by omega),a];simp only [Aa];rw [Af (by omega:¬(k:Int)<(k:Int))];simp only [Ac]
 cases torn with
 |false=>exact⟨m,rfl,hm,m,h1,.inl rfl⟩
 |true=>
  simp only [Al,Ac,Aa];by_cases e:k=ss.length
  ·rw [show((k:Int)==(ss.length:Int))=true by simp;omega];exact⟨m,rfl,hm,m,h1,.inl rfl⟩
  rw [show((k:Int)==(ss.length:Int))=false by simp;omega];simp only [Ac];have hx:=Ab (show k<ss.length by omega);rw [Bh (show k<ss.length by omega)]at h2;rw [AC,hx];simp only [Aa];obtain⟨g,g1,g2⟩:=AGQ hm h2.1;rw [g1];exact⟨g,rfl,g2.1,m,h1,.inr ⟨_,hx,h2.1,g2⟩⟩
theorem ACn {e:AH} {re:List As} (h:LD d r) (k:Kj n d r e re) (vol:Int) (hj:j<16):G7 re e.Store vol (j:Int)=G7 r d.Store vol (j:Int):=by
 rcases Nn h vol hj with⟨a1,a2⟩|⟨a,c,a1,a2,_,a3⟩<;>rcases Nn k.good vol hj with⟨b1,b2⟩|⟨row',c',b1,b2,_,b3⟩
 ·rw [a2,b2]
 ·rw [k.ab,a1]at b1;cases b1
 ·rw [k.ab,a1]at b1;cases b1
 rw [k.ab,a1]at b1
 injection b1 with b1
 subst b1;rw [a2]at b2
 injection b2 with b2
 subst b2
 rcases a3 with⟨a3,a4⟩|⟨a3,a4,u,a5,a6⟩<;>rcases b3 with⟨b3,b4⟩|⟨b3,b4,v,b5,b6⟩
 ·rw [a4,b4]
 ·omega
 ·omega
 rw [k.text c a4,a5]at b5
 injection b5 with b5
 rw [a6,b6,b5]
theorem AFq {v:Vol} (h:LD d r) (hv:v∈d.Store.Vols) (hj:j<16):∃u,G7 r d.Store v.Id (j:Int)=some (u,true):=by
 have hg:=Mq h.dev.st.asc hv
 rcases Nn h v.Id hj with⟨a1,_⟩|⟨b,c,_,_,_,⟨_,a⟩|⟨_,_,u,_,a⟩⟩
 ·rw [hg]at a1;cases a1
 ·exact⟨_,a⟩
 exact⟨u,a⟩
theorem Y8 (h:Ij d r) (vol k:Int):MG d vol k=(G7 r d.Store vol k):=by
 unfold MG;rw [h.scan.s];simp only [Aa];cases G7 r d.Store vol k<;>rfl
theorem ACU (h:Ij d r) (hb:∀y∈r,y.Block=b->(y.Page.Kind=2->y.Page.Tx<d.Base)/\∀c,ER (BU d.Store) c->JH r c≠some y):FC d.Flash d.Store d.Base b=some 0:=by
 obtain⟨live,l1,l2,l3,l4⟩:=Ji h.st;rw [(aT h l1 l2 l4 d.Base b).2,AAM λj hj=>?_]
 ·rfl
 have hy:=Ab hj;rw [Mp r live d.Base hy,Be,C5];by_cases e:r[j].Block=b
 ·left;obtain⟨k1,k2⟩:=hb _ (AD hj) e;rw [Ko];constructor
  ·unfold Dx;rw [C5];by_cases q:r[j].Page.Kind=2
   ·right;have:=k1 q;rw [Af (by omega)]
   left;simpa using q
  rw [JK];intro c hc a;have ht:NE c r r.length=some j:=by simpa using a
  exact k2 c ((l3 c).1 hc) (by rw [ABg ht,hy])
 right;simp only [bk,hy,Be];simpa using e
theorem Ui {code:List Int} (hs:code.length<=1048576):IJ code=some true:=by
 obtain⟨d,r,d1,d2,d3,d4⟩:=qQ hs;obtain⟨pl,p1,p2,p3⟩:=qP hs;obtain⟨steps,ok,c1,c2,c3,c4⟩:=aW d2 (λx hx=>by have:=d4.wear x hx;omega);unfold IJ;have hb:XH code=some false:=by
  unfold XH;rw [Cf,Af (by omega)]
 rw [hb];simp only [Aa,Ac];rw [d1];simp only [Aa];rw [fJ d2,c1];simp only [Aa,V8,Al,Ac];rw [XY steps (by omega)];simp only [Aa,Al,Ac]
 cases ok with
 |false=>rw [c3 rfl];rfl
 |true=>
  simp only [Al,Ac];rw [p1];simp only [Aa]
  have hg:∀i,i<12->gi pl (i:Nat)=some (pl[i]?.getD 0)/\0<=pl[i]?.getD 0:=λi hi=>by
   have:=Ab (show i<pl.length by omega);rw [AC,this];exact⟨rfl,(p3 _ (AD _)).1⟩
  obtain⟨g0,g0'⟩:=hg 0 (by omega);obtain⟨g1,_⟩:=hg 1 (by omega);obtain⟨g2,g2'⟩:=hg 2 (by omega);rw [show((0:Nat):Int)=0 from rfl]at g0;rw [show((1:Nat):Int)=1 from rfl]at g1;rw [show((2:Nat):Int)=2 from rfl]at g2;generalize pl[0]?.getD 0=a0 at*;generalize pl[1]?.getD 0=a1 at*;generalize pl[2]?.getD 0=a2 at*;rw [g0,g1];simp only [Aa];rw [Cf,ad1 (by omega)];obtain⟨k,k1,k2,k3⟩:=AFn (a:=a0) (n:=((steps.length+1:Nat):Int)) g0' (by omega);rw [k1];simp only [Aa];obtain⟨k,rfl⟩:∃n:Nat,k=(n:Int):=⟨_,(Bl k2).symm⟩;obtain⟨hm,hc⟩:=c4 rfl;obtain⟨g,s1,s2,s3⟩:=AA9 d2.dev.fl (k:=k) (by omega) (by omega) hm (Int.tmod a1 2==1);rw [s1];simp only [Aa];obtain⟨m,rm,m1,m2,m3⟩:=hc k g (by omega) s3;have c:Flash.mk g.Blocks=g:=rfl;rw [c,m1];simp only [Aa,Al,Ac];rw [Wr m3.good.dev.st d2.dev.st,Ad ⟨m3.ab,m3.nx⟩];simp only [Aa,Al,Ac];have hj:∃j:Nat,Int.tmod a2 16=(j:Int)/\j<16:=by
   obtain⟨v,_,v2,v3⟩:=AFn (a:=a2) (n:=16) g2' (by omega);have:Int.tmod a2 16=a2 %16:=GT g2';exact⟨(a2 %16).toNat,by rw [this];omega,by omega⟩
  obtain⟨j,j1,j2⟩:=hj;have e:=d2.dev.st.len;obtain⟨b,h1,h2⟩:=Bk (body:=λs:Int=>Fs d pl (m,true) s) (λ(_:Unit) i=>i) d.Store.Vols.length (λ_ _=>True) (λb=>b= .inl ())
   (λ_ i hi _=>by
    have hx:=Ab hi;simp only [Fs,AE,Ad hi,Ae,AC,hx,Aa,g2];obtain⟨u,hu⟩:=AFq d2 (AD hi) j2;rw [j1,Y8 d2.dev,Y8 m3.good.dev,ACn d2 m3 _ j2,hu,ad1 (by omega)];have:seq u u=true:=by rw [Jc];simp
    simp only [Aa,Al,Ac,this]
    exact .inl ⟨(),by first|rfl|trivial,trivial⟩)
   (λ_ _=>⟨_,by simp only [Fs,AE,Aq,Av,Ac],rfl⟩) (s:=()) trivial
  have h1':Aw (λs:Int=>Fs d pl (m,true) s) 0=some b:=h1;rw [h1',h2];simp only [Aa,BM];obtain⟨l,e1,e2,e3⟩:=Sm d (fL d2.dev);obtain⟨l',f1,f2,f3⟩:=Qw d2.dev;rw [e1]at f1
  injection f1 with f1
  subst f1;rw [e2];simp only [Aa];obtain⟨res2,h3,h4⟩:=Bk (body:=λs:Int=>Fq d l s) (λ(_:Unit) i=>i) l.length (λ_ _=>True) (λb=>b= .inl ())
   (λ_ i hi _=>by
    have hx:=Ab hi;obtain⟨_,_,_,z⟩:=f3 _ (AD hi);simp only [Fq,AE,Ad hi,Ae,AC,hx,Aa];rw [ACU d2.dev z,ad1 (by omega)]
    exact .inl ⟨(),rfl,trivial⟩)
   (λ_ _=>⟨_,by simp only [Fq,AE,Aq,Av,Ac],rfl⟩) (s:=()) trivial
  have h3':Aw (λs:Int=>Fq d l s) 0=some res2:=h3;rw [h3',h4];simp only [Aa,BM];obtain⟨v,v1⟩:=RZ d2.dev;rw [Si d2.dev,v1];simp
theorem fnCleanCuts_true (code:List Int) (hc:ol (oK .u8) code):IJ code=some true:=by
 by_cases h:code.length<=1048576
 ·exact Ui h
 unfold IJ;have hb:XH code=some true:=by
  unfold XH;rw [Cf,Ad (by omega)]
 rw [hb];rfl
end Go.TI
