/- The law on moves. No condition; no program is in sight. -/
import Derived.Test.YtpafpcbnmplkfaaGreatMOP3
set_option linter.unusedVariables false
set_option linter.unusedSimpArgs false
namespace Go.TI
open Go
def AAz (b:Int) (nd:List Bool) (r:List Al):Nat->Nat->List Al
 |0,_=>[]
 |n+1,i=>Kl b (i:Int) nd r++AAz b nd r n (i+1)
theorem ABP (b i:Int) (nd:List Bool) (r:List Al):(Kl b i nd r).length<=r.length:=by
 unfold Kl;rw [Bo];have:=BI (λq:Bool×Al=>q.1&&(q.2.Block==b)&&(q.2.Leaf==i)) (nd.zip r);rw [List.length_zip]at this;omega
theorem zF {r:List Al} (hr:r.length<=40) (hk:∀y∈r,y.Page.Kind=1->y.Page.Count=1/\y.Page.Part=0) {nd:List Bool} (c:nd.length=r.length) (hn:∀(j:Nat) y,r[j]?=some y->nd[j]?=some true->y.Page.Kind=1) (b:Int):∀(n i:Nat),i+n=4->∀{m:Nat} {o:MvS},MvI m o->m+n*40<=1000->
  Av (λs:List Bi×Int×Int×List Block=>DZ b r nd s.1 s.2.1 s.2.2.1 s.2.2.2) (o.2.1,o.1,(i:Int),o.2.2)=(mv b (AAz b nd r n i) o).map λq=>match q with
   |some o'=> .inl o'.2.1
   |none=> .inr ([],false)
 |0,i,hi,m,o,ho,hm=>by
  rw [A6];simp only [DZ];rw [Af (by omega:¬(i:Int)<4),Ac];rfl
 |n+1,i,hi,m,o,ho,hm=>by
  rw [A6];simp only [DZ];rw [Ad (by omega:(i:Int)<4),Ae];have a:=zG hr hk c hn b (i:Int) r.length 0 (by omega) ho (by omega);simp only [List.drop_zero]at a;rw [show((0:Nat):Int)=0 from rfl]at a;rw [a];have d:=ABP b (i:Int) nd r;obtain⟨v,v1,v2⟩:=ACq (b:=b) (Kl b (i:Int) nd r) ho (by omega);have es:AAz b nd r (n+1) i=Kl b (i:Int) nd r++AAz b nd r n (i+1):=rfl;rw [es,ACr,v1]
  cases v with
  |none=>rfl
  |some o'=>
   simp only [Bv,Aa,BX];rw [ad1 (by omega)];exact zF hr hk c hn b n (i+1) (by omega) (v2 o' rfl) (by omega)
theorem AAg (d:AE) (b:Int) (X:List Al) (hX:X.length<=100) (hd:0<=d.Seq/\d.Seq<=1000000001):∀(n i:Nat),i+n=X.length->∀{m:Nat} {o:MvS},MvI m o->m+n<=1000->o.1=d.Seq+i->
  Av (λs:Int×List Block×List Bi=>HR d b X s.1 s.2.1 s.2.2) ((i:Int),o.2.2,o.2.1)=(mv b (X.drop i) o).map λq=>match q with
   |some o'=> .inl (o'.2.2,o'.2.1)
   |none=> .inr ([],false)
 |0,i,hi,m,o,ho,hm,hs=>by
  rw [A6];simp only [HR,AH];rw [Af (by omega),Ac,List.drop_of_length_le (by omega)];rfl
 |n+1,i,hi,m,o,ho,hm,hs=>by
  have a:i<X.length:=by omega
  have hx:=Ab a;rw [A6];simp only [HR,AH,Ad a,Ae,AF,hx,Aa];rw [CC (by omega) (by omega),<-hs,Bh a];have ep:Page.mk 1 o.1 X[i].Page.Tx 0 1 X[i].Page.Text=RX o.1 X[i]:=rfl;rw [ep]
  rcases wE (b:=b) (y:=X[i]) ho (by omega)with⟨s,g',a1,a2,a3,a4,a5⟩|⟨a1,⟨w,a2⟩,_⟩
  ·rw [a5,a3];simp only [Aa,Ao,Ac];rw [ad1 (by omega)];exact AAg d b X hX hd n (i+1) (by omega) a4 (by omega) (by show o.1+1=_;omega)
  rw [a2,a1];simp only [Aa,AN,Ae];rfl
theorem dT {d:AE} {r:List Al} (h:Ju d r) {x y:Al} (hx:x∈r) (hy:y∈r) (hb:x.Block=y.Block) (hl:x.Leaf=y.Leaf):x=y:=by
 obtain⟨b,l,g1,g2,_,g3⟩:=h.scan.page x hx;obtain⟨b',l',k1,k2,_,k3⟩:=h.scan.page y hy;rw [hb,k1]at g1
 injection g1 with g1
 subst g1;rw [hl,k2]at g2
 injection g2 with g2
 subst g2;rw [k3]at g3
 injection g3 with g3
 injection g3 with g3 _
 cases x;cases y;simp only at hb hl g3;rw [hb,hl,g3]
theorem AAY {d:AE} {r:List Al} (h:Ju d r) {y:Al} (hy:y∈r):0<=y.Leaf/\y.Leaf<4:=by
 obtain⟨b,l,g1,g2,_,g3⟩:=h.scan.page y hy;obtain⟨_,k1⟩:=Dy g1;obtain⟨q0,k2⟩:=Dy g2;have:=(h.fl.blk b (A8 k1)).four;have:=(Ah.1 k2).1;omega
theorem Zs {d:AE} {r:List Al} (h:Ju d r) (u:r.length<=40) {live:List Int} (l1:G3 d.Store=some live) (l2:asc live) (l3:∀x,x∈live↔FE (Cd d.Store) x) (l4:live.length<=16777216) (b:Int):
  ∃v,mv b (Hy b (Ch r live 1000000001) r) (d.Seq,[],d.Flash.Blocks)=some v/\GI d b=some (match v with|some o=>(o.2.1,true)|none=>([],false))/\Ny d b=some (match v with|some o=>(o.2.1,true)|none=>([],false))/\
  (Hy b (Ch r live 1000000001) r).length=(Gq r b live).length/\(Hy b (Ch r live 1000000001) r).length<=4/\∀y,y∈Hy b (Ch r live 1000000001) r↔y∈Gq r b live:=by
 have w:=h.pages;have h3:1<=d.Seq/\d.Seq<=1000000001:=by
  rw [h.seq];have h1:=RE r;refine⟨h1.2.1,h1.2.2 _ (by omega) (λy hy=>?_)⟩;have:=(w.seq y hy).2;omega
 have hk:∀y∈r,y.Page.Kind=1->y.Page.Count=1/\y.Page.Part=0:=by
  intro y hy k1;obtain⟨_,_,_,c1,c2,_,c3⟩:=AD9 h hy;have:y.Page.Count=1:=by omega
  exact⟨this,by omega⟩
 have hn:∀(j:Nat) y,r[j]?=some y->(Ch r live 1000000001)[j]?=some true->y.Page.Kind=1:=λj y hy hj=>(Yn h l3 hy hj).1
 have f:∀(j:Nat) y,r[j]?=some y->(Ch r live 1000000001)[j]?=some true->Mx y.Page.Tx r r.length=some j/\y.Page.Tx∈live:=by
  intro j y hy hj;rw [Mq r live _ hy]at hj
  injection hj with hj
  rw [CN]at hj
  rcases hj with hj|hj
  ·simp only [Dx,An,Ci,A9]at hj;have:=(w.tx y (A8 hy)).2;omega
  rw [CY]at hj;obtain⟨c,c1,c2⟩:=hj;have c2':Mx c r r.length=some j:=by simpa using c2
  obtain⟨_,z,z1,z2⟩:=KX (A0 _) c2';rw [hy]at z1
  injection z1 with z1
  subst z1;simp only [HN,An,Ci]at z2;rw [z2.2];exact⟨c2',c1⟩
 have hm:∀y,y∈Hy b (Ch r live 1000000001) r↔y∈Gq r b live:=by
  intro y;have e1:y∈Hy b (Ch r live 1000000001) r↔(∃j:Nat,r[j]?=some y/\(Ch r live 1000000001)[j]?=some true)/\y.Block=b:=by
   unfold Hy;simp only [Ak,SA];constructor
   ·rintro(q|q|q|q)<;>exact⟨q.1,q.2.1⟩
   rintro⟨⟨j,q1,q2⟩,q3⟩;have:=AAY h (A8 q1);have:y.Leaf=0\/y.Leaf=1\/y.Leaf=2\/y.Leaf=3:=by omega
   rcases this with q|q|q|q
   ·exact .inl ⟨⟨j,q1,q2⟩,q3,q⟩
   ·exact .inr (.inl ⟨⟨j,q1,q2⟩,q3,q⟩)
   ·exact .inr (.inr (.inl ⟨⟨j,q1,q2⟩,q3,q⟩))
   exact .inr (.inr (.inr ⟨⟨j,q1,q2⟩,q3,q⟩))
  rw [e1];constructor
  ·rintro⟨⟨j,q1,q2⟩,q3⟩;obtain⟨q4,q5⟩:=f j y q1 q2;refine List.mem_filterMap.2 ⟨y.Page.Tx,q5,?_⟩;rw [q4];simp [bk,q1,q3]
  intro hy;obtain⟨c,c1,j,c2,c3,c4,c5,c6⟩:=NQ hy;refine⟨⟨j,c3,?_⟩,c4⟩;rw [Mq r live _ c3,Ap,CN];exact .inr (CY.2 ⟨c,c1,by simpa using c2⟩)
 have m:∀y∈Gq r b live,y∈r/\y.Block=b:=λy hy=>by
  obtain⟨c,c1,j,c2,c3,c4,c5,c6⟩:=NQ hy;exact⟨A8 c3,c4⟩
 have h0:∀x∈Gq r b live,∀y∈Gq r b live,x.Leaf=y.Leaf->x=y:=λx hx y hy e=>dT h (m x hx).1 (m y hy).1 (by rw [(m x hx).2,(m y hy).2]) e
 have a:∀i:Int,∀y∈Kl b i (Ch r live 1000000001) r,y∈r/\y.Block=b/\y.Leaf=i:=λi y hy=>by
  obtain⟨⟨j,q1,q2⟩,q3,q4⟩:=SA.1 hy;exact⟨A8 q1,q3,q4⟩
 have n:∀i:Int,(Kl b i (Ch r live 1000000001) r).length<=1:=by
  intro i;have hd:=oD (λj y hy hj=>(f j y hy hj).1) b i
  rcases hc:Kl b i (Ch r live 1000000001) r with _|⟨x,_|⟨y,l⟩⟩
  ·exact JT 1
  ·exact A0 1
  have hx:=a i x (by rw [hc];simp);have hy:=a i y (by rw [hc];simp);rw [hc]at hd;exact absurd (dT h hx.1 hy.1 (by rw [hx.2.1,hy.2.1]) (by rw [hx.2.2,hy.2.2])) (λe=>(Cs.1 hd).1 y (by simp) (by rw [e]))
 have h4:(Hy b (Ch r live 1000000001) r).length<=4:=by
  unfold Hy;simp only [Ag];have:=n 0;have:=n 1;have:=n 2;have:=n 3;omega
 have h5:mV (Hy b (Ch r live 1000000001) r):=by
  have hd:∀i:Int,mV (Kl b i (Ch r live 1000000001) r):=λi=>oD (λj y hy hj=>(f j y hy hj).1) b i
  have cross:∀i k:Int,i≠k->∀x∈Kl b i (Ch r live 1000000001) r,∀y∈Kl b k (Ch r live 1000000001) r,x.Page.Tx≠y.Page.Tx:=by
   intro i k p x hx y hy e;obtain⟨⟨j,q1,q2⟩,q3,q4⟩:=SA.1 hx;obtain⟨⟨j',p1,p2⟩,p3,p4⟩:=SA.1 hy;have a1:=(f j x q1 q2).1;have a2:=(f j' y p1 p2).1;rw [e,a2]at a1
   injection a1 with a1
   subst a1;rw [q1]at p1
   injection p1 with p1
   subst p1;exact p (by rw [<-q4,<-p4])
  unfold Hy mV;refine AX.2 ⟨hd 0,AX.2 ⟨hd 1,AX.2 ⟨hd 2,hd 3,cross 2 3 (by decide)⟩,?_⟩,?_⟩
  ·intro x hx y hy
   rcases Ak.1 hy with hy|hy
   ·exact cross 1 2 (by decide) x hx y hy
   exact cross 1 3 (by decide) x hx y hy
  intro x hx y hy
  rcases Ak.1 hy with hy|hy
  ·exact cross 0 1 (by decide) x hx y hy
  rcases Ak.1 hy with hy|hy
  ·exact cross 0 2 (by decide) x hx y hy
  exact cross 0 3 (by decide) x hx y hy
 have g:Ce BS (Gq r b live) (Hy b (Ch r live 1000000001) r):=ABR (dB r b (Uq l2)) h5 (λy=>(hm y).symm) h0;have h2:=g.len;have t:srt BS (Hy b (Ch r live 1000000001) r):=by
  have hc:∀i:Int,srt BS (Kl b i (Ch r live 1000000001) r):=by
   intro i
   refine List.pairwise_of_forall_mem_list λx hx y hy=>?_
   show x.Leaf<=y.Leaf;rw [(a i x hx).2.2,(a i y hy).2.2];exact FD _
  have cross:∀i k:Int,i<=k->∀x∈Kl b i (Ch r live 1000000001) r,∀y∈Kl b k (Ch r live 1000000001) r,BS x<=BS y:=by
   intro i k p x hx y hy;show x.Leaf<=y.Leaf;rw [(a i x hx).2.2,(a k y hy).2.2];exact p
  unfold Hy srt;refine AX.2 ⟨hc 0,AX.2 ⟨hc 1,AX.2 ⟨hc 2,hc 3,cross 2 3 (by decide)⟩,?_⟩,?_⟩
  ·intro x hx y hy
   rcases Ak.1 hy with hy|hy
   ·exact cross 1 2 (by decide) x hx y hy
   exact cross 1 3 (by decide) x hx y hy
  intro x hx y hy
  rcases Ak.1 hy with hy|hy
  ·exact cross 0 1 (by decide) x hx y hy
  rcases Ak.1 hy with hy|hy
  ·exact cross 0 2 (by decide) x hx y hy
  exact cross 0 3 (by decide) x hx y hy
 have I0:MvI 0 (d.Seq,[],d.Flash.Blocks):=⟨h.fl.cap,A0 _,by show 0<=d.Seq;omega,by show d.Seq<=1000000001+((0:Nat):Int);omega⟩;obtain⟨v,v1,v2⟩:=ACq (b:=b) (Hy b (Ch r live 1000000001) r) I0 (by omega);refine⟨v,v1,?_,?_,h2.symm,h4,hm⟩
 ·unfold GI;rw [h.scan.s,l1];simp only [Aa];rw [QQ r live _ h.scan.len l4];simp only [Aa];have h6:live.foldl (nR r) (r.map (Dx 1000000001))=Ch r live 1000000001:=rfl;rw [h6];have ho:=zF u hk (Mp r live 1000000001) hn b 4 0 (by omega) I0 (by omega);have eF:AAz b (Ch r live 1000000001) r 4 0=Hy b (Ch r live 1000000001) r:=by
   simp [AAz,Hy]
  rw [eF,v1]at ho;rw [show((0:Nat):Int)=0 from rfl]at ho;simp only at ho;rw [ho]
  cases v with
  |none=>rfl
  |some o=>rfl
 unfold Ny;rw [ADD h.scan (YG h.st l1) l4 b];simp only [Aa];obtain⟨X,x1,x2,x3⟩:=AAw BS (Gq r b live) (by omega);have hX:X=Hy b (Ch r live 1000000001) r:=O6 BS x2 t (λk=>by rw [x3 k,<-g k]);rw [x1,hX];simp only [Aa];have ho:=AAg d b (Hy b (Ch r live 1000000001) r) (by omega) ⟨by omega,h3.2⟩ (Hy b (Ch r live 1000000001) r).length 0 (by omega) I0 (by omega) (by show d.Seq=d.Seq+((0:Nat):Int);omega);rw [List.drop_zero,v1,show((0:Nat):Int)=0 from rfl]at ho;simp only at ho;rw [ho]
 cases v with
 |none=>rfl
 |some o=>rfl
end Go.TI
namespace Go.TI
open Go
theorem tS (s:Store) (hv:s.Vols.length<=1048576) (ha:Wd s.Arena):∃l,Kx s=some l/\Pj s=some l/\l.length<=1+17*s.Vols.length:=by
 unfold Kx Pj;obtain⟨l,h1,h2,h3⟩:=Oc (body:=λq:List C3×Int=>D9 s q.1 q.2) (body':=λq:List C3×Int=>Hp s q.1 q.2) (λ(l:List C3) i=>(l,i)) s.Vols.length (λi l=>l.length<=1+17*i) (λl=>l.length<=1+17*s.Vols.length)
  (λl i hi hl=>by
   have hg:s.Vols[i]?=some s.Vols[i]:=Ab hi;obtain⟨a,a1,a2,a3⟩:=T1 s.Arena ha s.Vols[i].Root;have b:ap 32 l [(C3.mk 2 s.Vols[i].Id 0 0)]=some (l++ [(C3.mk 2 s.Vols[i].Id 0 0)]):=C6 (by simp only [Aj];omega);simp only [D9,Hp,AH,Ad hi,Ae,AF,hg,Aa,b,a1,a2];obtain⟨u,u1,u2,u3⟩:=Oc (body:=λq:List C3×Int=>D8 s (i:Int) a q.1 q.2) (body':=λq:List C3×Int=>Ho s.Vols[i] a q.1 q.2) (λ(l:List C3) k=>(l,k)) a.length (λk o=>o.length<=l.length+1+k) (λo=>o.length<=l.length+17)
    (λo k hk ho=>by
     have c:a[k]?=some a[k]:=Ab hk;simp only [D8,Ho,AH,Ad hk,Ae,AF,c,hg,Aa];refine⟨by first|rfl|trivial,?_⟩;rw [ad1 (by omega)]
     cases decide (a[k]>0)with
     |true=>
      simp only [Ae];rw [C6 (by simp only [Aj];omega)];exact .inl ⟨_,rfl,by simp only [Ag,Aj];omega⟩
     |false=>exact .inl ⟨_,rfl,by omega⟩)
    (λo ho=>⟨by simp only [D8,Ho,AH,As,Aw,Ac],o,by simp only [D8,AH,As,Aw,Ac],by omega⟩) (s:=l++ [(C3.mk 2 s.Vols[i].Id 0 0)]) (by simp)
   have u1':Av (λq:List C3×Int=>D8 s (i:Int) a q.1 q.2) (l++ [(C3.mk 2 s.Vols[i].Id 0 0)],0)=some u:=u1;have u2':Av (λq:List C3×Int=>Ho s.Vols[i] a q.1 q.2) (l++ [(C3.mk 2 s.Vols[i].Id 0 0)],0)=some u:=u2;rw [u1',u2'];simp only [Aa];rw [ad1 (by omega)]
   exact⟨by first|rfl|trivial,.inl ⟨_,rfl,by omega⟩⟩)
  (λl hl=>⟨by simp only [D9,Hp,AH,As,Aw,Ac],l,by simp only [D9,AH,As,Aw,Ac],hl⟩) (s:=[(C3.mk 1 0 s.Next 0)]) (by simp)
 have h1':Av (λq:List C3×Int=>D9 s q.1 q.2) ([(C3.mk 1 0 s.Next 0)],0)=some l:=h1;have h2':Av (λq:List C3×Int=>Hp s q.1 q.2) ([(C3.mk 1 0 s.Next 0)],0)=some l:=h2;rw [h1',h2'];exact⟨l,rfl,rfl,h3⟩
end Go.TI
namespace Go.TI
open Go
def K2:List Al->Int->List Page
 |[],_=>[]
 |y::ys,sq=>RX sq y::K2 ys (sq+1)
theorem qX:∀(ys:List Al) (n:Int),F9 n (K2 ys n)
 |[],_=>trivial
 |y::ys,n=>⟨FD _,qX ys (n+1)⟩
theorem qV:∀(ys:List Al) (n:Int),(K2 ys n).length=ys.length
 |[],_=>rfl
 |y::ys,n=>by simp [K2,qV ys (n+1)]
theorem Yq:∀{ys:List Al} {n:Int} {p:Page},p∈K2 ys n->∃y∈ys,p.Kind=1/\p.Tx=y.Page.Tx/\p.Text=y.Page.Text
 |y::ys,n,p,h=>by
  rcases By.1 h with rfl|h
  ·exact⟨y,by simp,rfl,rfl,rfl⟩
  obtain⟨z,h1,h2⟩:=Yq h;exact⟨z,by simp [h1],h2⟩
theorem qW:∀{ys:List Al} {n:Int} {y:Al},y∈ys->∃p∈K2 ys n,p.Kind=1/\p.Tx=y.Page.Tx
 |x::ys,n,y,h=>by
  rcases By.1 h with rfl|h
  ·exact⟨RX n y,by simp [K2],rfl,rfl⟩
  obtain⟨p,h1,h2⟩:=qW (n:=n+1) h;exact⟨p,by simp [K2,h1],h2⟩
theorem AGb (b:Int) {f:Flash}:∀(X:List Al) (o:MvS) {ps:List Page},Co (Flash.mk o.2.2)->I3 f o.2.1 ps (Flash.mk o.2.2)->o.2.1.length+X.length<=1000->∀o',mv b X o=some (some o')->
  Co (Flash.mk o'.2.2)/\I3 f o'.2.1 (ps++K2 X o.1) (Flash.mk o'.2.2)/\(∃ss,o'.2.1=o.2.1++ss/\ss.length=X.length/\∀s∈ss,(s.Block==b)=false)/\∀p∈K2 X o.1,HL p
 |[],o,ps,hf,hp,hm,o',h=>by
  simp only [mv,Ap]at h;subst h;exact⟨hf,by simpa [K2]using hp,⟨[],by simp,rfl,λs hs=>by cases hs⟩,λp hp=>by cases hp⟩
 |y::X,o,ps,hf,hp,hm,o',h=>by
  rw [Ay]at hm;simp only [mv]at h
  rcases zO hf hp (by omega) (RX o.1 y)with⟨s,g',w1,w2,w3,w4,_⟩|w
  ·rw [w1]at h;simp only [Aa,Cc,FC]at h;split at h
   ·cases h
   rename_i hb;obtain⟨a1,a2,⟨ss,a3,a4,a5⟩,a6⟩:=AGb b X (o.1+1,o.2.1++ [s],g'.Blocks) (ps:=ps++ [RX o.1 y]) w3 w2 (by simp;omega) o' h;refine⟨a1,?_,⟨s::ss,?_,?_,?_⟩,?_⟩
   ·have:ps++K2 (y::X) o.1=ps++ [RX o.1 y]++K2 X (o.1+1):=by simp [K2]
    rw [this];exact a2
   ·rw [a3];simp
   ·simp [a4]
   ·intro t ht
    rcases By.1 ht with rfl|ht
    ·simpa using hb
    exact a5 t ht
   intro p hp
   rcases By.1 hp with rfl|hp
   ·exact w4
   exact a6 p hp
  rw [w]at h;simp at h
theorem dA (r:List Al) (b:Int):∀live:List Int,(Gq r b live).length=(live.filter (λc=>match Mx c r r.length with|some j=>bk r b j|none=>false)).length
 |[]=>rfl
 |c::live=>by
  have ih:=dA r b live;unfold Gq at ih⊢;rw [Ic,List.filter_cons]
  cases ht:Mx c r r.length with
  |none=>simpa using ih
  |some j=>
   obtain⟨hj,_⟩:=KX (A0 _) ht;have hr:=Ab hj
   cases hb:bk r b j with
   |false=>simpa [hb]using ih
   |true=>simpa [hb,hr]using ih
theorem eA {r:List Al} {live:List Int} {base:Int} (hb:∀y∈r,y.Page.Kind=2->y.Page.Tx<base) {j:Nat} {y:Al} (hy:r[j]?=some y):(Ch r live base)[j]?=some (live.any (λc=>Mx c r r.length==some j)):=by
 rw [Mq r live base hy];have:Dx base y=false:=by
  unfold Dx;rw [C1];by_cases e:y.Page.Kind=2
  ·have:=hb y (A8 hy) e;exact .inr (Af (by omega))
  exact .inl (by simpa using e)
 rw [this,Oz]
theorem wC {r:List Al} {live:List Int} {base b:Int} (a:live.Nodup) (hb:∀y∈r,y.Page.Kind=2->y.Page.Tx<base):cn r.length (λj=>(Ch r live base)[j]?.getD false&&bk r b j)=(Gq r b live).length:=by
 refine(Sj (q:=λj=>live.any (λc=>Mx c r r.length==some j)&&bk r b j) λj hj=>?_).trans ((mW r (bk r b) live a).trans (dA r b live).symm);rw [eA hb (Ab hj)];rfl
theorem xK {n:Nat} {p:Nat->Bool} (h:∀j,j<n->p j=false):cn n p=0:=by
 rw [Sj (q:=λ_=>false) h];unfold cn;rw [BN.2 (λx _=>by simp)];rfl
theorem ACl (r m:List Al) (c:Int):HM (r++m) c=(HM m c).or (HM r c):=by
 unfold HM;rw [AQ,List.getLast?_append]
theorem ACm {m:List Al} {c:Int} {y:Al} (hy:y∈m) (hk:y.Page.Kind=1) (ht:y.Page.Tx=c):∃z,HM m c=some z/\z∈m:=by
 have hm:y∈m.filter (HN c):=AK.2 ⟨hy,Qq.2 ⟨hk,ht⟩⟩
 cases e:HM m c with
 |none=>
  unfold HM at e;rw [List.getLast?_eq_none_iff]at e;rw [e]at hm;cases hm
 |some z=>exact⟨z,rfl,(MI e).1⟩
theorem PT (l:List Bi) (h:l.length<=1048576):Nc l l=some true:=by
 unfold Nc;rw [bne_self_eq_false,Ac];obtain⟨res,h1,h2⟩:=Bq (body:=λs:Int=>Gt l l s) (λ(_:Unit) i=>i) l.length (λ_ _=>True) (λres=>res= .inl ())
  (λ_ i hi _=>by
   have hx:=Ab hi;refine .inl ⟨(),?_,trivial⟩;simp only [Gt,AH,Ad hi,Ae,AF,hx,Aa,KD,C8,J9,decide_true,Ao,Ac]
   rw [ad1 (by omega)])
  (λ_ _=>⟨.inl (),by simp only [Gt,AH,As,Aw,Ac],rfl⟩) (s:=()) trivial
 have h1':Av (λs:Int=>Gt l l s) 0=some res:=h1;rw [h1',h2];rfl
theorem tR {d:AE} {r:List Al} (h:Ju d r):∃st ok,Jm d=some (st,ok)/\Nz d=some (st,ok)/\(ok=true->1<=st.length)/\st.length<=1048576:=by
 have hf:L8 d.Flash:=h.fl.cap;obtain⟨recs,r1,r2,r3⟩:=tS d.Store (by have:=h.st.len;omega) (xO h.st);have hb:=h.st.vs;obtain⟨b1,b2⟩:=eZ hb;have e:=SJ h.st;rw [r1]at e
 injection e with e
 subst e;obtain⟨st,ok,w1,w2,w3⟩:=cH d hf (JQ (Cd d.Store) d.Store.Next) (by omega) (bs []);refine⟨st,ok,?_,?_,?_,by omega⟩
 ·unfold Jm;rw [r1];simp only [Aa];rw [w1];rfl
 ·unfold Nz;rw [r2];simp only [Aa];rw [w2];rfl
 intro ho;subst ho
 rcases Py h.fl h.seqs (JQ (Cd d.Store) d.Store.Next) (by unfold JQ;simp) b2 b1 (bs [])with w|⟨steps,T,g,last,q1,q2,q3,q4,q5,q6,q7,q8,q9⟩
 ·rw [w1]at w;cases w
 rw [w1]at q2
 injection q2 with q2
 injection q2 with q2 _
 subst q2;have a:=(Fd q7).2;rw [Ag]at a;have b:(CU (MV d (bs [])) d.Tx T).length=T.length:=by unfold CU;rw [IH]
 omega
theorem Wb {code:List Int} (hs:code.length<=1048576):KV code=some true:=by
 obtain⟨d,r,d1,d2,d3,d4⟩:=nN hs;obtain⟨live,l1,l2,l3,l4⟩:=Kw d2.dev.st;obtain⟨pl,p1,p2,p3⟩:=nM hs
 have h:∀y∈r,y.Page.Kind=2->y.Page.Tx<1000000000:=λy hy hk=>by
  have:=(T4 r).1 y hy hk;have:=d4.tx;omega
 unfold KV;have hb:WD code=some false:=by
  unfold WD;rw [Cf,Af (by omega)]
 rw [hb];simp only [Aa,Ac];rw [d1,p1];simp only [Aa];have hg:pl[0]?=some pl[0]:=Ab (by omega);rw [show gi pl 0=pl[0]? from AF (i:=0),hg];simp only [Aa];have h0:=p3 pl[0] (AJ (by omega));have h3:=d2.dev.fl.n;obtain⟨b,t,h4,h5⟩:=AE8 (a:=pl[0]) (n:=ln d.Flash.Blocks) h0.1 (by rw [Cf];omega);rw [t];simp only [Aa];obtain⟨v,v1,v2,v3,v4,v5,v6⟩:=Zs d2.dev d2.few l1 l2 l3 l4 b;rw [v2,v3];simp only [Aa]
 cases v with
 |none=>
  simp only [KD,Ao,Ac];rw [PT [] (by simp)];rfl
 |some o=>
  obtain⟨a1,a2,⟨ss,a3,a4,a5⟩,a6⟩:=AGb b (Hy b (Ch r live 1000000001) r) (d.Seq,[],d.Flash.Blocks) (ps:=[]) (f:=d.Flash) d2.dev.fl rfl (by simp;omega) o v1;simp only [A7]at a2 a3;have e:o.2.1.length=(Hy b (Ch r live 1000000001) r).length:=by rw [a3,a4]
  simp only [KD,Ao,Ac];rw [PT o.2.1 (by omega)];simp only [Aa,Ao,Ac];have k:∀y∈Hy b (Ch r live 1000000001) r,∃c∈live,HM r c=some y/\y.Page.Kind=1/\y.Page.Tx=c:=by
   intro y hy;obtain⟨c,c1,j,c2,c3,c4,c5,c6⟩:=NQ ((v6 y).1 hy);exact⟨c,c1,by rw [fN c2,c3],c5,c6⟩
  have hm:∀p∈K2 (Hy b (Ch r live 1000000001) r) d.Seq,kJ d r p/\HL p:=by
   intro p hp;refine⟨?_,a6 p hp⟩;obtain⟨y,y1,y2,y3,y4⟩:=Yq hp;obtain⟨c,c1,c2,c3,c4⟩:=k y y1;exact⟨y2,by rw [y3,c4];exact(l3 c).1 c1,y,by rw [y3,c4];exact c2,y4⟩
  obtain⟨m,d',m1,m2,m3,m4,m5,m6,m7,m8⟩:=qY d2 a2 (qX _ _) (by omega) hm o.2.1.length;rw [AW]at m1;have l:(K2 (Hy b (Ch r live 1000000001) r) d.Seq).length=o.2.1.length:=by rw [qV,e]
  have u:(Cm o.2.1 (K2 (Hy b (Ch r live 1000000001) r) d.Seq)).take o.2.1.length=Cm o.2.1 (K2 (Hy b (Ch r live 1000000001) r) d.Seq):=by
   rw [Bb];rw [Pn l.symm,l];exact A0 _
  rw [u]at m5 m8;rw [Il d2.dev m1 (by omega) m3];simp only [Aa];obtain⟨st,ok,b1,b2,b3,b4⟩:=tR d2.dev;rw [b1,b2];simp only [Aa,KD,Ae];rw [Vi m5.dev.st d2.dev.st,Ad ⟨m6.ab,m6.nx⟩];simp only [Aa,Ae];obtain⟨live',k1,k2,k3,k4⟩:=Kw m5.dev.st;rw [(tJ m5.dev k1 k2 k4 1000000000 b).2,(tJ d2.dev l1 l2 l4 1000000000 b).2];simp only [Aa];rw [wC (Uq l2) h,<-v4,<-e];have q:∀y∈Cm o.2.1 (K2 (Hy b (Ch r live 1000000001) r) d.Seq),y.Page.Kind=1/\¬y.Block=b:=by
   intro y hy;unfold Cm at hy;rw [List.mem_iff_getElem?]at hy;obtain⟨i,hi⟩:=hy;rw [List.getElem?_zipWith_eq_some]at hi;obtain⟨s,p,q1,q2,rfl⟩:=hi;obtain⟨z,_,z1,_⟩:=Yq (A8 q2);have:=a5 s (by rw [<-a3];exact A8 q1);exact⟨z1,by simpa using this⟩
  have g:cn (r++Cm o.2.1 (K2 (Hy b (Ch r live 1000000001) r) d.Seq)).length (λj=>(Ch (r++Cm o.2.1 (K2 (Hy b (Ch r live 1000000001) r) d.Seq)) live' 1000000000)[j]?.getD false&&bk (r++Cm o.2.1 (K2 (Hy b (Ch r live 1000000001) r) d.Seq)) b j)=0:=by
   refine xK λj hj=>?_
   have hy:=Ab hj;generalize hY:(r++Cm o.2.1 (K2 (Hy b (Ch r live 1000000001) r) d.Seq))[j]=y at hy
   rw [eA (λy hy hk=>by
    rcases Ak.1 hy with hy|hy
    ·exact h y hy hk
    have:=(q y hy).1;omega) hy]
   rw [Bc,C1];by_cases hB:y.Block=b
   ·left;rw [Jw];intro c hc w;have ht:Mx c (r++Cm o.2.1 (K2 (Hy b (Ch r live 1000000001) r) d.Seq)) (r++Cm o.2.1 (K2 (Hy b (Ch r live 1000000001) r) d.Seq)).length=some j:=by simpa using w
    have hn:=fN ht;rw [hy,ACl]at hn;have x:c∈live:=by
     have:=(k3 c).1 hc;rw [m6.ab]at this;exact(l3 c).2 this
    cases hf:HM (Cm o.2.1 (K2 (Hy b (Ch r live 1000000001) r) d.Seq)) c with
    |some z=>
     rw [hf]at hn;simp only [Option.some_or,Ap]at hn;subst hn;exact(q z (MI hf).1).2 hB
    |none=>
     rw [hf,cJ]at hn;obtain⟨q1,q2,q3⟩:=MI hn;obtain⟨jj,t1,t2⟩:=zV hn;have h1:y∈Gq r b live:=by
      refine List.mem_filterMap.2 ⟨c,x,?_⟩;rw [t1];simp [bk,t2,hB]
     obtain⟨p,p4,p5,p6⟩:=qW (n:=d.Seq) ((v6 y).2 h1);obtain⟨i,hi⟩:=List.getElem?_of_mem p4;have h2:i<o.2.1.length:=by
      have:=(Ah.1 hi).1;omega
     have hx:Al.mk o.2.1[i].Block o.2.1[i].Leaf p∈Cm o.2.1 (K2 (Hy b (Ch r live 1000000001) r) d.Seq):=by
      unfold Cm;refine A8 (i:=i) ?_;rw [List.getElem?_zipWith_eq_some];exact⟨_,_,Ab h2,hi,rfl⟩
     obtain⟨z,z1,_⟩:=ACm (c:=c) hx p5 (by show p.Tx=c;rw [p6,q3]);rw [hf]at z1;cases z1
   right;simp only [bk,hy,Bc];simpa using hB
  rw [g];simp only [Cf,Int.natCast_zero,KD,Ae]
  cases ok with
  |false=>rfl
  |true=>
   simp only [Ao,Ac];have:=b3 rfl;simp only [Ap];exact Ad (show((st.length:Nat):Int)>=1 by omega)
theorem fnMovesOf_true (code:List Int) (hc:ol (oK .u8) code):KV code=some true:=by
 by_cases h:code.length<=1048576
 ·exact Wb h
 unfold KV;have hb:WD code=some true:=by
  unfold WD;rw [Cf,Ad (by omega)]
 rw [hb];rfl
end Go.TI
