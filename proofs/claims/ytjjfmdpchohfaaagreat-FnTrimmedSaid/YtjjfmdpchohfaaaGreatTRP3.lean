/- What is trimmed reads empty, and nothing else does. No condition; no program is in sight. -/
import Derived.Test.YtjjfmdpchohfaaaGreatTRP2
set_option linter.unusedVariables false
set_option linter.unusedSimpArgs false
namespace Go.TI
open Go
def Ho (id:Int):Nat->List Int->List Ct
 |_,[]=>[]
 |k,x::row=>(if x>0 then [Ct.mk 4 id k x]else [])++Ho id (k+1) row
def PT (p:Int×List Int):List Ct:=Ct.mk 2 p.1 0 0::Ho p.1 0 p.2
def KR (l:Vs) (nx:Int):List Ct:=Ct.mk 1 0 nx 0::l.flatMap PT
theorem Qi (id x:Int):∀(k:Nat) (a:List Int),Ho id k (a++ [x])=Ho id k a++(if x>0 then [Ct.mk 4 id (k+a.length:Nat) x]else [])
 |k,[]=>by simp[Ho]
 |k,y::a=>by
  rw[B8,Ho,Qi id x (k+1) a,Ho,AE,A8,show k+1+a.length=k+(a.length+1) by omega]
theorem Xk (id:Int):∀(k:Nat) (a:List Int),(Ho id k a).length<=a.length
 |_,[]=>Ax _
 |k,x::a=>by
  rw[Ho,Ak,A8];have:=Xk id (k+1) a
  grind
theorem iM (K:Ks) (r:Int):(Ff K r).length=16:=by unfold Ff;simp
theorem n8:∀(l:Vs),(∀p∈l,p.2.length=16)->(l.flatMap PT).length<=17*l.length
 |[],_=>Ax _
 |p::l,h=>by
  have:=n8 l (λq hq=>h q<|by simp[hq]);have h2:=Xk p.1 0 p.2;have h3:=h p (by simp);rw[Kj,Ak,A8];unfold PT at*
  grind
variable {r a r' b:List Aq} {d e d':Ay} {n k m:Nat} {y:Aq} {c:BN} {g f:Flash} {s:Store} {nx nx':Int} {P l l':Vs} {T:List ByteArray} {p:Page} {nd:List Bool} {x:Ct} {code:List Int} {K:Ks}
theorem Vp (h:C1 s):Lz s=some (KR (AR s) s.Next):=by
 have hl:=h.len;unfold Lz;obtain⟨b,h1,h2⟩:=AJ (body:=λq:List Ct×Int=>EC s q.1 q.2) (λ(o:List Ct) i=>(o,i)) s.Vols.length (λi o=>o=KR ((AR s).take i) s.Next/\o.length<=1+17*i) (λo=>o=KR (AR s) s.Next)
  (λo i hi ho=>by
   have hx:=Ab hi;have hr:=h.root _<|A9.2 ⟨s.Vols[i],Az hi,rfl⟩;have d:=ho.2;have et:(AR s).take (i+1)=(AR s).take i++ [(s.Vols[i].Id,Ff s.Arena.Knots s.Vols[i].Root)]:=by
    rw[DP];unfold AR
    grind
   simp only[EC,Eh hi,Ar,hx,Aa];rw[BC (by simp;omega),Aa,NQ _ (by have:=h.few;omega) h.ar hr];simp only[Aa];obtain⟨u,u1,u2,u3⟩:=AJ (body:=λq:List Ct×Int=>EB s (i:Int) (Ff s.Arena.Knots s.Vols[i].Root) q.1 q.2) (λ(l:List Ct) k=>(l,k)) (Ff s.Arena.Knots s.Vols[i].Root).length
    (λk u=>u=o++ [Ct.mk 2 s.Vols[i].Id 0 0]++Ho s.Vols[i].Id 0 ((Ff s.Arena.Knots s.Vols[i].Root).take k)/\u.length<=o.length+1+k) (λu=>u=o++ [Ct.mk 2 s.Vols[i].Id 0 0]++Ho s.Vols[i].Id 0 (Ff s.Arena.Knots s.Vols[i].Root)/\u.length<=o.length+17)
    (λu k hk hu=>by
     obtain⟨a,f⟩:=hu;have c:=Ab hk;have g:=iM s.Arena.Knots s.Vols[i].Root;have etk:=An hk;simp only[EB,Eh hk,Ar,c,hx,Aa];rw[ad1];refine .inl ?_;by_cases e:(Ff s.Arena.Knots s.Vols[i].Root)[k]>0
     ·rw[Ad e,Ae,BC (by simp;omega)];refine⟨_,rfl,?_,by simp;omega⟩;rw[etk,Qi,AB e,a,BK,show 0+min k (Ff s.Arena.Knots s.Vols[i].Root).length=k by omega]
      grind
     rw[Ah e,Ac];refine⟨u,rfl,?_,by omega⟩
     rw[etk,Qi,AA e,a,A7])
    (λu hu=>⟨u,by rfl,by grind,by have:=iM s.Arena.Knots s.Vols[i].Root;have:=hu.2;omega⟩) (s:=o++ [Ct.mk 2 s.Vols[i].Id 0 0]) ⟨by simp[Ho],by simp⟩
   rw[u1,Aa,ad1];refine .inl ⟨u,rfl,?_,by omega⟩;rw[et,u2,ho.1];unfold KR;rw[List.flatMap_append]
   simp[PT])
  (λo ho=>⟨o,by simp only[EC,DN],by rw[ho.1,AH (by rw[I7];exact Ax _)]⟩) (s:=[Ct.mk 1 0 s.Next 0]) ⟨rfl,by simp⟩
 rw[h1,h2];rfl
structure VsP (l:Vs) (nx:Int):Prop where
 len:l.length<=3
 nxt:1<=nx/\nx<=1000000000
 ids:∀p∈l,1<=p.1/\p.1<=9
 asc:l.Pairwise λp q=>p.1<q.1
 row:∀p∈l,p.2.length=16
 num:∀p∈l,∀x∈p.2,0<=x/\x<nx
theorem oL {r:Int} (hK:CJ K=true) (hr:Dw K r=true):∀x∈Ff K r,0<=x:=by
 intro x hx;unfold Ff at hx;obtain⟨s,hs,rfl⟩:=A9.1 hx;rw[KZ]at hs;unfold Rr
 rcases BV hr with e|⟨h0,h1,hl⟩
 ·omega
 rw[AA<|by omega]
 rcases Gu hK h0 h1 hl (show s/4<4 by omega)with k1|⟨k1,k2,k3⟩
 ·omega
 rw[AA<|by omega];exact AAc hK k1 (by omega) k3<|by omega
theorem C1.vs (h:C1 s):VsP (AR s) s.Next:=by
 have mem:∀p∈AR s,∃v∈s.Vols,p=(v.Id,Ff s.Arena.Knots v.Root):=λp hp=>by
  obtain⟨v,hv,rfl⟩:=A9.1 hp
  grind
 refine⟨by rw[I7];exact h.len,h.nx,λp hp=>?_,?_,λp hp=>?_,λp hp x hx=>?_⟩
 ·obtain⟨v,hv,rfl⟩:=mem p hp;exact h.ids v hv
 ·have:=h.asc;unfold AR
  grind
 ·obtain⟨v,hv,rfl⟩:=mem p hp;exact iM _ _
 obtain⟨v,hv,rfl⟩:=mem p hp;have hm:v.Root∈Bs s:=A9.2 ⟨v,hv,rfl⟩;exact⟨oL h.ar (h.root _ hm) x hx,h.lt _ hm x hx⟩
theorem TA {id:Int} (h:∀p∈P,p.1<id) (Q:Vs):KN (P++Q) id=KN Q id:=by
 unfold KN
 grind
theorem yW {id k x:Int} (h1:1<=id/\id<=9) (h2:0<=k/\k<16) (h3:1<=x/\x<=1000000000):GC (Ct.mk 4 id k x)=true:=by
 unfold GC;simp;omega
theorem ACU {id a:Int} (h1:1<=id/\id<=9) (h2:0<=a/\a<=9):GC (Ct.mk 2 id a 0)=true:=by
 unfold GC;simp;omega
theorem uY {id:Int} {a:List Int} (h:∀p∈P,p.1<id) (k:Nat) (x:Int):gR (P++ [(id,a)]) id k x=P++ [(id,a.set k x)]:=by
 unfold gR;rw[Ci];congr 1
 ·conv=>rhs;rw[<-UD P]
  apply DO
  grind
 simp
theorem mT {id nx:Int} (hP:∀p∈P,p.1<id) (a:1<=id/\id<=9) (c:nx<=1000000000):∀(todo done:List Int),done.length+todo.length=16->(∀x∈todo,0<=x/\x<nx)->CT (P++ [(id,done++List.replicate todo.length 0)]) nx (Ho id done.length todo)=some (P++ [(id,done++todo)],nx)
 |[],done,hl,hx=>by rfl
 |x::todo,done,hl,hx=>by
  have h1:=hx x (by simp);rw[A8]at hl;have ih:=mT hP a c todo (done++ [x]) (by simp;omega) (λy hy=>hx y<|by simp[hy]);rw[Ak,Bf]at ih;rw[Ho];have b:(done++List.replicate (todo.length+1) 0).set done.length x=done++ [x]++List.replicate todo.length 0:=by grind
  by_cases e:x>0
  ·rw[AB e,Fo,GS];have d:CZ (P++ [(id,done++List.replicate (x::todo).length 0)]) nx (Ct.mk 4 id done.length x)=some (P++ [(id,done++ [x]++List.replicate todo.length 0)],nx):=by
    unfold CZ;rw[yW a (by omega)<|by omega];simp only[J6,FN,show¬((4:Int)=1) by omega,show¬((4:Int)=2) by omega,show¬((4:Int)=3) by omega];have hg:KN (P++ [(id,done++List.replicate (x::todo).length 0)]) id≠none:=by
     rw[TA hP];simp[KN]
    rw[AA<|by grind];rw[uY hP,Bi,A8,b,show max nx (x+1)=nx by omega]
   grind
  grind
theorem vX {id:Int} {a:List Int} (h:∀p∈P,p.1<id):qX P id a=P++ [(id,a)]:=by
 unfold qX;rw[GA.2 (λp hp=>by simpa using h p hp),Bk.2 (λp hp=>by grind),A7]
theorem dQ (b:nx<=1000000000):∀(l P:Vs),(P++l).length<=3->(P++l).Pairwise (λp q=>p.1<q.1)->(∀p∈l,(1<=p.1/\p.1<=9)/\p.2.length=16/\∀x∈p.2,0<=x/\x<nx)->CT P nx (l.flatMap PT)=some (P++l,nx)
 |[],P,_,_,_=>by simp[CT]
 |p::l,P,c,d,hall=>by
  obtain⟨h1,h2,h3⟩:=hall p<|by simp
  have a:∀q∈P,q.1<p.1:=λq hq=>by grind
  rw[Kj,Ma];unfold PT;rw[GS];have f:CZ P nx (Ct.mk 2 p.1 0 0)=some (P++ [(p.1,Ty)],nx):=by
   unfold CZ;rw[ACU h1<|by omega];simp only[J6,FN,BX,show¬((2:Int)=1) by omega];have hg:KN P p.1=none:=by
    have:=TA a [];rw[A7]at this;rw[this];rfl
   rw[AA<|by grind];rw[AA (by omega),vX a]
  rw[f];simp only[Aa];have hz:Ty=[]++List.replicate p.2.length 0:=by rw[h2];rfl
  have e:=mT a h1 b p.2 [] (by simpa using h2) h3;rw[<-hz,Fc,A5]at e;rw[e];simp only[Aa];have hP:P++ [(p.1,p.2)]=P++ [p]:=rfl;have:=dQ b l (P++ [p]) (by rw[AE];exact c) (by rw[AE];exact d) (λq hq=>hall q<|by simp[hq]);rw[hP,show(l.flatMap λp=>Ct.mk 2 p.1 0 0::Ho p.1 0 p.2)=l.flatMap PT from rfl,this,AE];rfl
theorem f8 (h:VsP l nx) (l0:Vs) (n0:Int):CT l0 n0 (KR l nx)=some (l,nx):=by
 unfold KR;rw[GS];have a:CZ l0 n0 (Ct.mk 1 0 nx 0)=some ([],nx):=by
  unfold CZ;have hb:GC (Ct.mk 1 0 nx 0)=true:=by
   have:=h.nxt;unfold GC;simp;omega
  rw[hb];simp only[J6,FN,BX];have:=h.nxt
  grind
 rw[a];simp only[Aa];have:=dQ h.nxt.2 l [] (by simpa using h.len) (by simpa using h.asc) λp hp=>⟨h.ids p hp,h.row p hp,h.num p hp⟩
 grind
theorem f7 (h:VsP l nx):(∀r∈KR l nx,GC r=true)/\(KR l nx).length<=1000:=by
 refine⟨λr hr=>?_,?_⟩
 ·
  cases hb:GC r with
  |true=>rfl
  |false=>
   exfalso;obtain⟨i,hi,rfl⟩:=A6 hr;have h1:=f8 h [] 1;obtain⟨e1,e2⟩:=JG<|Ab hi;rw[e1,Ma]at h1
   cases hq:CT [] 1 ((KR l nx).take i)with
   |none=>grind
   |some q=>
    rw[hq]at h1;simp only[Aa]at h1;rw[GS]at h1;have:CZ q.1 q.2 (KR l nx)[i]=none:=by unfold CZ;rw[AB hb]
    grind
 unfold KR;rw[A8];have:=n8 l h.row;have:=h.len;omega
structure AEN (d d':Ay):Prop where
 ab:AR d'.Store=AR d.Store
 nx:d'.Store.Next=d.Store.Next
theorem Nh (h:H5 d r) {steps:List AS} (hs:Steps d.Flash steps g) (hl:steps.length<=1048576) (hm:C6 g=some (d',true)):Hl d steps=some d':=by
 unfold Hl;rw[mO h.fl hs hl,Aa,hm];rfl
theorem VS:∀{n:Int} {ps:List Page} {p:Page},Hv n ps->(∀q∈ps,q.Seq<p.Seq)->n<=p.Seq->Hv n (ps++ [p])
 |n,[],p,_,_,h=>⟨h,trivial⟩
 |n,q::ps,p,ha,hq,h=>⟨ha.1,VS ha.2 (λx hx=>hq x (by simp[hx])) (by grind)⟩
def qS (d:Ay) (r:List Aq) (p:Page):Prop:=p.Kind=1/\Ea (AR d.Store) p.Tx/\∃y,K4 r p.Tx=some y/\p.Text=y.Page.Text
theorem Zx {j:Nat} (h:H5 d r) {live:List Int} (hl:∀x,x∈live↔Ea (AR d.Store) x) (hy:r[j]?=some y) (hn:(Cy r live 1000000001)[j]?=some true):y.Page.Kind=1/\Ea (AR d.Store) y.Page.Tx/\K4 r y.Page.Tx=some y:=by
 rw[P2 r live _ hy]at hn
 injection hn with hn
 have a:=h.pages;have ht:=a.tx y<|Au hy;have:Dn 1000000001 y=false:=by
  unfold Dn
  grind
 rw[this,Wa,CW]at hn;obtain⟨c,hc,b⟩:=hn;have e:Pq c r r.length=some j:=by simpa using b
 have h1:=AA9 e;rw[hy]at h1;obtain⟨_,k1,k2⟩:=V3 h1
 grind
theorem cC (h:H5 d r) (l:r.length<=40) (b:Int):Hc d b=some ([],false)\/∃steps ps g,Hc d b=some (steps,true)/\IZ d.Flash steps ps g/\B9 g/\Hv d.Seq ps/\steps.length<=160/\(∀p∈ps,qS d r p/\Jo p)/\∀p∈ps,p.Seq<d.Seq+160:=by
 obtain⟨live,l1,l2,l3,l4⟩:=Hm h.st;have m:1<=d.Seq/\d.Seq<=1000000001:=by
  rw[h.seq];have h1:=NJ r;refine⟨h1.2.1,h1.2.2 _ (by omega) λy hy=>?_⟩;have:=(h.pages.seq y hy).2;omega
 unfold Hc;rw[h.scan.s,l1];simp only[Aa];rw[Nm r live _ h.scan.len l4];simp only[Aa];have e:live.foldl (cL r) (r.map<|Dn 1000000001)=Cy r live 1000000001:=rfl;rw[e]
 let I:Nat->(List AS×Int×List Block)->Prop:=λn o=>∃ps,IZ d.Flash o.1 ps (Flash.mk o.2.2)/\B9 (Flash.mk o.2.2)/\Hv d.Seq ps/\(∀p∈ps,p.Seq<o.2.1)/\d.Seq<=o.2.1/\o.2.1<=d.Seq+n/\o.1.length<=n/\∀p∈ps,qS d r p/\Jo p
 have I0:I (40*0) ([],d.Seq,d.Flash.Blocks):=by
  refine⟨[],rfl,h.fl,trivial,?_,?_,?_,?_,?_⟩
  ·intro p hp;cases hp
  ·exact Jd _
  ·grind
  ·exact Ax _
  grind
 obtain⟨a,h1,h2⟩:=AJ (body:=λs:List AS×Int×Int×List Block=>F9 b r (Cy r live 1000000001) s.1 s.2.1 s.2.2.1 s.2.2.2) (λ(o:List AS×Int×List Block) i=>(o.1,o.2.1,i,o.2.2)) 4
  (λi o=>I (40*i) o) (λa=>a= .inr ([],false)\/∃steps sq bl,a= .inl steps/\I 160 (steps,sq,bl))
  (λo i hi ho=>by
   simp only[F9];rw[cT];obtain⟨q,q1,q2⟩:=AJ (body:=λs:List AS×Int×Int×List Block=>EJ b r (Cy r live 1000000001) (i:Int) s.1 s.2.1 s.2.2.1 s.2.2.2) (λ(o:List AS×Int×List Block) j=>(o.1,o.2.1,j,o.2.2)) r.length
    (λj o=>I (40*i+j) o) (λq=>q= .inr (.inr<|.inr ([],false))\/∃o,q= .inl o/\I (40*i+40) o)
    (λo j hj hs=>by
     obtain⟨ss,sq,bl⟩:=o;obtain⟨ps,p1,p2,p3,p4,p5,p6,p7,p8⟩:=hs;simp only at p1 p2 p4 p5 p6 p7;have hx:=Ab hj;have f:j<(Cy r live 1000000001).length:=by rw[JW];exact hj
     have c:=Ab f;simp only[EJ,Eh hj,Ar,hx,c,Aa];rw[ad1];have skip:I (40*i+(j+1)) (ss,sq,bl):=⟨ps,p1,p2,p3,p4,p5,by show sq<=_;omega,by grind,p8⟩
     cases k:(Cy r live 1000000001)[j]with
     |false=>
      simp only[AM,Ae,Aa];exact .inl ⟨(ss,sq,bl),rfl,skip⟩
     |true=>
      simp only[Ag,Ac]
      cases hb:(r[j].Block !=b)with
      |true=>
       simp only[Ae,Aa];exact .inl ⟨(ss,sq,bl),rfl,skip⟩
      |false=>
       simp only[Ac,Aa]
       cases t:(r[j].Leaf !=(i:Int))with
       |true=>
        simp only[Ae,Aa];exact .inl ⟨(ss,sq,bl),rfl,skip⟩
       |false=>
        simp only[Ac,Aa];obtain⟨m1,m2,m3⟩:=Zx h l3 hx<|by rw[c,k]
        rcases zB p2 p1 (by omega) (Page.mk r[j].Page.Kind sq r[j].Page.Tx r[j].Page.Part r[j].Page.Count r[j].Page.Text)with⟨s,g',w1,w2,w3,w4,_⟩|w
        ·rw[w1];simp only[Aa,Ag,Ac];rw[Bq,Ak,Bf,Ch,show((ss.length+1:Nat):Int)-1=(ss.length:Int) by omega,Ft];simp only[Aa]
         cases u:(s.Block==b)with
         |true=>simp
         |false=>
          simp only[Ac];rw[Cs];refine .inl ⟨(ss++ [s],sq+1,g'.Blocks),rfl,_,w2,w3,VS p3 (λq hq=>p4 q hq) p5,λp hp=>?_,by grind,by grind,by simp;omega,λp hp=>?_⟩
          ·grind
          rw[Ap,Br]at hp
          rcases hp with hp|rfl
          ·exact p8 p hp
          exact⟨⟨m1,m2,_,m3,rfl⟩,w4⟩
        rw[w]
        simp)
    (λo hs=>⟨.inl (o.1,o.2.1,o.2.2),by simp only[EJ,DN],.inr ⟨o,rfl,by grind⟩⟩) (s:=o) (by omega)
   rw[q1]
   rcases q2 with rfl|⟨o',rfl,q2⟩
   ·simp
   simp only[Aa,Bv];rw[ad1]
   exact .inl ⟨o',rfl,by omega⟩)
  (λo ho=>⟨.inl o.1,by rfl,.inr ⟨o.1,o.2.1,o.2.2,rfl,ho⟩⟩) (s:=([],d.Seq,d.Flash.Blocks)) I0
 grind
theorem zW {ps:List Page} (h:IC d r) {steps:List AS} (hp:IZ d.Flash steps ps g) (ha:Hv d.Seq ps) (hl:steps.length<=160) (hm:∀p∈ps,qS d r p/\Jo p) (k:Nat):
  ∃m d',Steps d.Flash (steps.take k) m/\B9 m/\C6 m=some (d',true)/\d'.Flash=m/\IC d' (r++(Cg steps ps).take k)/\AEN d d'/\d'.Base=d.Base/\Y7 d.Flash m/\∀c,Ea (AR d.Store) c->Cb (r++(Cg steps ps).take k) c=Cb r c:=by
 have b:=(Fu hp).2;have w:=h.few
 have f:∀y∈r,y.Page.Seq<d.Seq:=λy hy=>by rw[h.dev.seq];exact(NJ r).1 y hy
 obtain⟨m,a⟩:=U5 k hp;have l:=Yz h.dev.fl (Fu a).1;have ascT:∀(ps:List Page) (n:Int) (k:Nat),Hv n ps->Hv n (ps.take k):=by
  intro ps
  induction ps with
  |nil=>grind
  |cons p ps ih=>
   intro n k ha
   cases k with
   |zero=>trivial
   |succ k=>exact⟨ha.1,ih _ k ha.2⟩
 have o:=bE h.dev.fl h.dev.sr a f<|ascT _ _ k ha;rw[Xw]at o;obtain⟨d',u1,u2,u3⟩:=KP l o;have h0:=ZX b;have ascG:∀(ps:List Page) (n:Int) (i:Nat) (p:Page),Hv n ps->ps[i]?=some p->n<=p.Seq/\∀j q,j<i->ps[j]?=some q->q.Seq<p.Seq:=by
  intro ps
  induction ps with
  |nil=>grind
  |cons x ps ih=>
   intro n i p ha hp
   cases i with
   |zero=>
    simp only[IW,Aj]at hp;rw[<-hp];exact⟨ha.1,λj q hj=>by omega⟩
   |succ i=>
    obtain⟨i1,i2⟩:=ih _ i p ha.2 (by simpa using hp);have:=ha.1;refine⟨by omega,λj q hj hq=>?_⟩
    cases j with
    |zero=>grind
    |succ j=>grind
 have main:∀n,n<=(Cg steps ps).length->J5 (r++(Cg steps ps).take n)/\GV (r++(Cg steps ps).take n) (Ea<|AR d.Store)/\Bg (r++(Cg steps ps).take n)=Bg r/\∀c,Ea (AR d.Store) c->Cb (r++(Cg steps ps).take n) c=Cb r c:=by
  intro n
  induction n with
  |zero=>intro _;rw[KY,A7];exact⟨h.core,h.data,rfl,λ_ _=>rfl⟩
  |succ n ih=>
   intro hn;obtain⟨i1,i2,i3,i4⟩:=ih (by omega);have hx:(Cg steps ps)[n]?=some (Cg steps ps)[n]:=Ab (by omega);have s:=LD hx;obtain⟨⟨m1,m2,y,m3,m4⟩,m5⟩:=hm _<|Au s;obtain⟨a1,a2⟩:=ascG ps d.Seq n _ ha s;rw[An (by omega),<-AE];have t:Tn (Cg steps ps)[n].Page.Text=Cb r (Cg steps ps)[n].Page.Tx:=by unfold Cb;rw[m3,m4];rfl
   have u:CP (r++(Cg steps ps).take n)<=(Cg steps ps)[n].Page.Seq:=by
    refine(NJ _).2.2 _ (m5.2.1.1) (λz hz=>?_)
    rcases Ap.1 hz with hz|hz
    ·grind
    obtain⟨j,hj,rfl⟩:=A6 hz;rw[BK]at hj;rw[Ki];exact a2 j _ (by omega)<|LD<|Ab<|by omega
   refine⟨J5.add i1 (by simp;omega) m5 u (λhh=>by omega),pI i2 (by rw[t,i4 _ m2]),by rw[Xv _ (by omega),i3],λc hc=>?_⟩;by_cases e:(Cg steps ps)[n].Page.Kind=1/\(Cg steps ps)[n].Page.Tx=c
   ·have:Cb (r++(Cg steps ps).take n++ [(Cg steps ps)[n]]) c=Tn (Cg steps ps)[n].Page.Text:=by unfold Cb;rw[M0,AB e];rfl
    rw[this,t,e.2]
   rw[<-i4 c hc];unfold Cb;rw[M0,AA e]
 have v:J5 (r++(Cg steps ps).take k)/\GV (r++(Cg steps ps).take k) (Ea<|AR d.Store)/\Bg (r++(Cg steps ps).take k)=Bg r/\∀c,Ea (AR d.Store) c->Cb (r++(Cg steps ps).take k) c=Cb r c:=by
  by_cases e:k<=(Cg steps ps).length
  ·exact main k e
  have:=main _<|Ax _
  grind
 obtain⟨k1,k2,k3,k4⟩:=v;obtain⟨e1,e2,e3⟩:=Hi h.dev u2 (by rw[k3]);exact⟨m,d',(Fu a).1,l,u1,u3,⟨u2,k1,by rw[e1];exact k2⟩,⟨e1,e2⟩,e3,λ_=>Uz a,k4⟩
theorem Rh (h:H5 d r) {live:List Int} (hl:live.length<=16777216) (t:ByteArray):∃v,Ii d.Flash live t=some v/\((v=0/\∀c∈live,Cb r c≠some t)\/(v∈live/\Cb r v=some t)):=by
 have hr:=h.pages;unfold Ii SE;rw[h.scan.s];simp only[Aa];obtain⟨b,h1,h2⟩:=AJ (body:=λs:Int=>Fj r live t s) (λ(_:Unit) i=>i) live.length (λi _=>∀c∈live.take i,Cb r c≠some t) (λb=>(b= .inl ()/\∀c∈live,Cb r c≠some t)\/∃v,b= .inr v/\v∈live/\Cb r v=some t)
  (λ_ i hi hs=>by
   have hx:=Ab hi;simp only[Fj,Eh hi,Ar,hx,Aa];obtain⟨u,ok,k1,k2⟩:=mE hr live[i];rw[k1,Aa,ad1]
   have no:Cb r live[i]≠some t->∀c∈live.take (i+1),Cb r c≠some t:=λe c hc=>by
    rw[An hi,Ap,Br]at hc
    grind
   cases ok with
   |false=>
    simp only[Ac,Aa];exact .inl ⟨(),by first|rfl|trivial,no (by rw[k2];simp)⟩
   |true=>
    simp only[Ae,Aa];rw[AB rfl]at k2
    cases a:seq u t with
    |true=>
     rw[JD,A3]at a
     grind
    |false=>
     rw[JD,Gi]at a;refine .inl ⟨(),rfl,no ?_⟩
     grind)
  (λ_ hs=>⟨_,by simp only[Fj,DN],.inl ⟨rfl,by grind⟩⟩) (s:=()) (by simp)
 grind
structure ADw (q:PQ):Prop where
 kind:1<=q.Kind/\q.Kind<=6
 vol:1<=q.Vol/\q.Vol<=9
 text:(L q.Text).length<=64
 sec:0<=q.Sector/\q.Sector<=15
 of_:0<=q.Of/\q.Of<=9
 cl:q.Kind=4->1<=q.Of
 no:q.Kind≠4->q.Of=0
 tx:q.Kind≠1->L q.Text=[]
theorem Wq (q:PQ):∃v,Ky q=some v/\(v=true->ADw q):=by
 unfold Ky;simp only[Ew,Aa];by_cases h1:1<=q.Kind/\q.Kind<=6
 ·rw[Ad h1];by_cases h2:1<=q.Vol/\q.Vol<=9
  ·rw[Ad h2];by_cases h3:FQ q.Text>64
   ·rw[Ad h3];simp
   rw[Ah h3];rw[Bz]at h3;simp only[Ag,Ac];have ht:(cond (q.Kind !=1) (some<|!(seq q.Text<|bs [])) (some false):Option Bool)=some (decide<|q.Kind≠1/\L q.Text≠ []):=by
    by_cases e:q.Kind=1
    ·grind
    rw[show(q.Kind !=1)=true by simpa using e,Rm,EO];by_cases e2:L q.Text=[]
    ·grind
    grind
   rw[ht];simp only[Aa];by_cases h4:q.Kind≠1/\L q.Text≠ []
   ·grind
   rw[Ah h4];simp only[Ac]
   have a:q.Kind≠1->L q.Text=[]:=λhk=>Classical.byContradiction λhh=>h4 ⟨hk,hh⟩
   by_cases h5:q.Kind=4
   ·rw[show(q.Kind==4)=true by simpa using h5];simp only[Ae];by_cases h6:q.Sector=0
    ·rw[show(q.Sector==0)=true by simpa using h6];refine⟨_,rfl,λhh=>?_⟩;rw[A3]at hh;exact⟨h1,h2,by omega,by omega,by omega,λ_=>hh.1,λhk=>absurd h5 hk,a⟩
    grind
   rw[show(q.Kind==4)=false by simpa using h5];simp only[Ac];by_cases h6:q.Of=0
   ·rw[show(q.Of !=0)=false by simp[h6]];simp only[Ac];by_cases h7:q.Kind=3\/q.Kind=5
    ·have:(cond (q.Kind==3) (some true) (some<|q.Kind==5):Option Bool)=some true:=by grind
     rw[this];refine⟨_,rfl,λhh=>?_⟩;rw[C3]at hh;exact⟨h1,h2,by omega,by omega,by omega,λhk=>absurd hk h5,λ_=>h6,a⟩
    have:(cond (q.Kind==3) (some true) (some<|q.Kind==5):Option Bool)=some false:=by grind
    rw[this];refine⟨_,rfl,λhh=>?_⟩;rw[A3]at hh;exact⟨h1,h2,by omega,hh,by omega,λhk=>absurd hk h5,λ_=>h6,a⟩
   grind
  rw[Ah h2];simp
 rw[Ah h1];simp
def mW (d:Ay) (r:List Aq) (q:PQ) (x:Ct) (a:ByteArray):Prop:=GC x=true/\x.Kind≠1/\x.Vol=q.Vol/\((L a=[]/\(x.Kind=4->Ea (AR d.Store) x.Chunk/\Cb r x.Chunk=some q.Text))\/(x.Kind=4/\x.Chunk=d.Store.Next/\L a≠ []/\Tn a=some q.Text/\∀c,Ea (AR d.Store) c->Cb r c≠some q.Text))
theorem VU (h:H5 d r) (q:PQ):∃a text no,Ep d q=some (a,text,no)/\((a=[]/\text=bs [])\/(no=0/\∃x,a=[x]/\mW d r q x text))/\(no≠0->a=[]):=by
 have j:=h.st.len;have b:=h.st.nx;obtain⟨v,a1,a2⟩:=Wq q;unfold Ep;rw[a1];simp only[Aa]
 cases v with
 |false=>exact⟨_,_,_,rfl,.inl ⟨rfl,rfl⟩,λ_=>rfl⟩
 |true=>
  have hq:=a2 rfl;simp only[Ag,Ac];have g:=hq.kind;obtain⟨w,hw⟩:∃w,Dh d.Store q.Vol=some w:=by
   rcases DF d.Store (by omega) q.Vol with⟨e,_⟩|⟨k,_,e,_⟩<;>exact⟨_,e⟩
  rw[hw];simp only[Aa];by_cases h34:q.Kind=3\/q.Kind=4
  ·have:(cond (q.Kind==3) (some true) (some<|q.Kind==4):Option Bool)=some true:=by grind
   rw[this];simp only[Aa,Ae]
   cases decide (w>=0)with
   |true=>grind
   |false=>
    simp only[Ac];obtain⟨j2,i⟩:∃j2,(cond (q.Kind==4) ((Dh d.Store q.Of).bind λv3=>some<|decide<|v3<0) (some false):Option Bool)=some j2:=by
     cases q.Kind==4 with
     |false=>exact⟨_,rfl⟩
     |true=>
      rcases DF d.Store (by omega) q.Of with⟨e,_⟩|⟨k,_,e,_⟩<;>rw[e]<;>exact⟨_,rfl⟩
    rw[i];simp only[Aa]
    cases j2 with
    |true=>grind
    |false=>
     simp only[Ac]
     cases decide (ln d.Store.Vols>=3)with
     |true=>grind
     |false=>
      refine⟨_,_,_,rfl,.inr ⟨rfl,_,rfl,ACU hq.vol hq.of_,by simp,rfl,.inl ⟨EO _,λhh=>by simp at hh⟩⟩,λhh=>absurd rfl hh⟩
  have:(cond (q.Kind==3) (some true) (some<|q.Kind==4):Option Bool)=some false:=by grind
  rw[this];simp only[Aa,Ac]
  cases decide (w>=0)with
  |false=>exact⟨_,_,_,rfl,.inl ⟨rfl,rfl⟩,λ_=>rfl⟩
  |true=>
   simp only[Ag,Ac]
   cases k1:(q.Kind==1)with
   |true=>
    simp only[Ae];obtain⟨live,l1,l2,l3,l4⟩:=Hm h.st;obtain⟨c,f1,f2⟩:=Rh h l4 q.Text;rw[l1,Aa,f1];simp only[Aa]
    rcases f2 with⟨rfl,f2⟩|⟨f2,f3⟩
    ·obtain⟨z,z1,z2,z3⟩:=oX q.Text hq.text;rw[show((0:Int)==0)=true from rfl,z1];refine⟨_,_,_,rfl,.inr ⟨rfl,_,rfl,yW hq.vol (by have:=hq.sec;omega) ⟨b.1,b.2⟩,by simp,rfl,.inr ⟨rfl,rfl,?_,?_,λc hc=>f2 c<|(l3 c).2 hc⟩⟩,λhh=>absurd rfl hh⟩
     ·grind
     show Tn z=some q.Text;unfold Tn;rw[z2]
    have f:=(l3 c).1 f2;have l:=Yj h.st f;rw[show(c==0)=false by grind];refine⟨_,_,_,rfl,.inr ⟨rfl,_,rfl,yW hq.vol (by have:=hq.sec;omega) (by omega),by simp,rfl,.inl ⟨EO _,λ_=>⟨f,f3⟩⟩⟩,λhh=>absurd rfl hh⟩
   |false=>
    simp only[Ac]
    cases k2:(q.Kind==2)with
    |true=>
     refine⟨_,_,_,rfl,.inr ⟨rfl,_,rfl,?_,by simp,rfl,.inl ⟨EO _,λhh=>by simp at hh⟩⟩,λhh=>absurd rfl hh⟩;have:=hq.vol;have:=hq.sec;unfold GC
     grind
    |false=>
     simp only[Ac]
     cases k5:(q.Kind==5)with
     |true=>
      refine⟨_,_,_,rfl,.inr ⟨rfl,_,rfl,?_,by simp,rfl,.inl ⟨EO _,λhh=>by simp at hh⟩⟩,λhh=>absurd rfl hh⟩;have:=hq.vol;unfold GC
      grind
     |false=>grind
theorem oC (h:CZ l nx x=some (l',nx')) (hk:x.Kind≠1):(∀c,Ea l' c->Ea l c\/c=x.Chunk)/\nx<=nx'/\nx'<=max nx (x.Chunk+1):=by
 unfold CZ at h;split at h
 ·cases h
 first
  |rw[AA hk]at h
  |skip
 split at h
 ·split at h
  ·cases h
  injection h with h
  injection h with h1 h2
  subst h1 h2;refine⟨λc hc=>?_,by omega,by omega⟩;obtain⟨h0,p,hp,hx⟩:=hc;unfold qX at hp;simp only[Ap,Bc,Br]at hp
  rcases hp with(hp|rfl)|hp
  ·exact .inl ⟨h0,p,hp.1,hx⟩
  ·simp only at hx
   have zz:c∉Ty:=λhz=>by have:=Ee hz;omega
   split at hx
   ·cases hg:KN l x.Arg with
    |none=>grind
    |some row=>
     rw[hg]at hx;unfold KN at hg;obtain⟨w,a,b⟩:=AT.1 hg;have d:=List.mem_of_find?_eq_some a;exact .inl ⟨h0,w,d,by rw[b];exact hx⟩
   exact absurd hx zz
  exact .inl ⟨h0,p,hp.1,hx⟩
 split at h
 ·cases h
 split at h
 ·injection h with h
  injection h with h1 h2
  subst h1 h2;refine⟨λc hc=>?_,by omega,by omega⟩;obtain⟨h0,p,hp,hx⟩:=hc;exact .inl ⟨h0,p,(Bc.1 hp).1,hx⟩
 injection h with h
 injection h with h1 h2
 subst h1 h2;refine⟨λc hc=>?_,by omega,by omega⟩;obtain⟨h0,p,hp,hx⟩:=hc;unfold gR at hp;obtain⟨w,hw,rfl⟩:=A9.1 hp;split at hx
 ·rcases Dg hx with hx|hx
  ·exact .inl ⟨h0,w,hw,hx⟩
  exact .inr hx
 exact .inl ⟨h0,w,hw,hx⟩
theorem aF (h:CZ l nx x=some (l',nx')) (hk:x.Kind≠1):∀p∈l',(∃p'∈l,p'.1=p.1)\/p.1=x.Vol:=by
 unfold CZ at h;split at h
 ·cases h
 first
  |rw[AA hk]at h
  |skip
 split at h
 ·split at h
  ·cases h
  injection h with h
  injection h with h1 h2
  subst h1 h2;intro p hp;unfold qX at hp
  grind
 split at h
 ·cases h
 split at h
 ·injection h with h
  injection h with h1 h2
  subst h1 h2
  exact λp hp=> .inl ⟨p,(Bc.1 hp).1,rfl⟩
 injection h with h
 injection h with h1 h2
 subst h1 h2;intro p hp;unfold gR at hp
 grind
theorem bQ (h:H5 d r):∃v,Ll d=some v:=by
 have hr:=h.pages;have ht:1<=d.Tx/\d.Tx<=1000000001:=by
  rw[h.tx];have h1:=YC r;refine⟨h1.2.1,h1.2.2 _ (by omega) λy hy _=>?_⟩;have:=(hr.tx y hy).2;omega
 unfold Ll
 cases(d.Base !=sb d.Tx 1)with
 |true=>exact⟨_,rfl⟩
 |false=>
  simp only[Ac];rw[h.scan.s,Aa,O9 r hr];simp only[Aa];obtain⟨g1,_⟩:=QP hr;obtain⟨b,h1,_⟩:=AJ (body:=λs:Int=>G4 d (Bg r) s) (λ(_:Unit) i=>i) (Bg r).length (λ_ _=>True) (λ_=>True)
   (λ_ i hi _=>by
    have hx:=Ab hi;simp only[G4,Eh hi,Ar,hx,Aa];rw[ad1]
    cases((Bg r)[i].Num==d.Base)with
    |false=>simp
    |true=>
     simp only[Ae]
     cases a:(Bg r)[i].Recs with
     |nil=>exact .inr ⟨_,rfl,trivial⟩
     |cons q m=>
      have hg:gi (q::m) 0=some q:=Ar (i:=0)
      grind)
   (λ_ _=>⟨.inl (),by simp only[G4,DN],trivial⟩) (s:=()) trivial
  rw[h1]
  cases b with
  |inl u=>exact⟨_,rfl⟩
  |inr v=>exact⟨v,rfl⟩
theorem bV (h:H5 d r):∃v,Lq d=some v:=by
 have hn:=h.fl.n;obtain⟨live,l1,_,_,l4⟩:=Hm h.st;unfold Lq;rw[h.scan.s,l1];simp only[Aa];rw[Nm r live d.Base h.scan.len l4,Nm r live 1000000000 h.scan.len l4];simp only[Aa]
 have a:∀b,live.foldl (cL r) (r.map<|Dn b)=Cy r live b:=λ_=>rfl
 rw[a,a];obtain⟨b,h1,_⟩:=AJ (body:=λs:Int×Int×Int=>D6 d r (Cy r live d.Base) (Cy r live 1000000000) s.1 s.2.1 s.2.2) (λ(o:Int×Int) i=>(o.1,o.2,i)) d.Flash.Blocks.length (λ_ _=>True) (λ_=>True)
  (λo i hi _=>by
   have hx:=Ab hi;have hP:=h.fl.blk _<|Az hi;simp only[D6,Eh hi,Ar,hx,Aa];rw[Zs r _ (i:Int) h.scan.len<|JW _ _ _,Zs r _ (i:Int) h.scan.len<|JW _ _ _,Kx _ hP.four,ad1];simp only[Aa,Jy]
   cases(bif !d.Flash.Blocks[i].Bad then _ else false)with
   |true=>simp
   |false=>grind)
  (λo _=>⟨o.1,by simp only[D6,DN],trivial⟩) (s:=(-1,4)) trivial
 grind
theorem H5.seqs (h:H5 d r):0<=d.Seq/\d.Seq<=1000000001:=by
 rw[h.seq];have h1:=NJ r;refine⟨by omega,h1.2.2 _ (by omega) λy hy=>?_⟩;have:=(h.pages.seq y hy).2;omega
theorem gK (h:∀y∈r',y.Page.Kind=2->y.Page.Tx<DH r+n):DH r'<=DH r+n:=(YC r').2.2 _ (by have:=(YC r).2.1;omega) h
theorem XY (n:Nat) (hy:y∈r) (hk:y.Page.Kind=2):y.Page.Tx<DH r+n:=by have:=(YC r).1 y hy hk;omega
theorem eY {seq tx:Int} (h:p∈Cm seq tx T):p.Tx=tx:=by
 unfold Cm at h
 grind
theorem gU (h:∀y∈r',y.Page.Seq<CP r+n):CP r'<=CP r+n:=(NJ r').2.2 _ (by have:=(NJ r).2.1;omega) h
theorem Ya (n:Nat) (hy:y∈r):y.Page.Seq<CP r+n:=by have:=(NJ r).1 y hy;omega
theorem qN {seq tx:Int} (h:p∈Cm seq tx T):p.Seq<seq+T.length:=by
 unfold Cm at h
 grind
theorem dO {c:Int} {a:ByteArray} (h:p∈Da d c a++Cm (Jb d a) d.Tx T):p.Seq<d.Seq+1+T.length:=by
 rcases Ap.1 h with h|h
 ·unfold Da at h
  grind
 have h1:=qN h;have h2:Jb d a<=d.Seq+1:=by unfold Jb;split<;>omega
 omega
theorem OF {seq tx:Int} (h:p∈Cm seq tx T):p.Kind=2:=by
 unfold Cm at h
 grind
def ACK (m:Flash) (s:AS) (g:Flash):Prop:=B9 g/\Y7 m g/\((s.Kind=1/\K2 0 g.Blocks=K2 0 m.Blocks)\/(s.Kind=2/\K2 0 g.Blocks=(K2 0 m.Blocks).filter λy=>y.Block !=s.Block))
def aH (f:Flash) (ss:List AS) (k:Nat) (g:Flash):Prop:=∃m,Steps f (ss.take k) m/\(g=m\/∃s,ss[k]?=some s/\TP m s/\ACK m s g)
theorem PM:∀{f:Flash} {a:List AS} {g m:Flash},Steps f a g->Steps f a m->g=m
 |f,[],g,m,h,k=>by rw[show g=f from h,show m=f from k]
 |f,s::a,g,m,h,k=>PM h.2 k.2
theorem fV {m:Flash} {a b:List AS} (h:aH f (a++b) k g) (hs:Steps f a m):(k<a.length/\aH f a k g)\/(a.length<=k/\aH m b (k-a.length) g):=by
 obtain⟨x,h1,h2⟩:=h;by_cases e:k<a.length
 ·left;rw[List.take_append_of_le_length<|by omega]at h1;rw[BZ e]at h2;exact⟨e,x,h1,h2⟩
 right;rw[List.take_append,AH<|by omega]at h1;rw[B5<|by omega]at h2;obtain⟨y,y1,y2⟩:=(N9 _ _ _ _).1 h1;rw[PM y1 hs]at y2;exact⟨by omega,x,y2,h2⟩
structure HM (n:Nat) (d:Ay) (r:List Aq) (d':Ay) (r':List Aq):Prop where
 good:IC d' r'
 ab:AR d'.Store=AR d.Store
 nx:d'.Store.Next=d.Store.Next
 pg:∀y∈r',y.Page.Kind=1->∃z∈r,z.Page.Kind=1/\z.Page.Tx=y.Page.Tx/\z.Page.Text=y.Page.Text
 tx:DH r'<=DH r+n
 wear:∀w:Int,Fd d.Flash w->Fd d'.Flash (w+n)
 text:∀c,Ea (AR d.Store) c->Cb r' c=Cb r c
 sq:CP r'<=CP r+200*n
structure As (d:Ay) (r:List Aq) (d':Ay) (r':List Aq):Prop where
 good:IC d' r'
 ab:AR d'.Store=AR d.Store
 nx:d'.Store.Next=d.Store.Next
 tx:DH r'<=DH r+1
 wear:∀w:Int,Fd d.Flash w->Fd d'.Flash (w+1)
 text:∀c,Ea (AR d.Store) c->Cb r' c=Cb r c
theorem As.torn (h:As d a e b) (hg:B9 g) (hp:K2 0 g.Blocks=K2 0 e.Flash.Blocks) (hw:Y7 e.Flash g):∃x,C6 g=some (x,true)/\x.Flash=g/\As d a x b:=by
 obtain⟨x,u1,u2,u3⟩:=KP hg (r:=b) (by rw[hp];exact h.good.dev.sr);obtain⟨e1,e2,_⟩:=Hi h.good.dev u2 rfl;exact⟨x,u1,u3,⟨⟨u2,h.good.core,by rw[e1];exact h.good.data⟩,by rw[e1,h.ab],by rw[e2,h.nx],h.tx,λw hh=>by rw[u3];exact hw _<|h.wear w hh,h.text⟩⟩
theorem XV (h:Y7 f g) (w:Int) (hw:Fd f w):Fd g (w+n):=λb hb=>by have:=h w hw b hb;omega
theorem HM.refl (h:IC d r):HM n d r d r:=⟨h,rfl,rfl,λy hy hk=>⟨y,hy,hk,rfl,rfl⟩,by omega,XV λ_ h=>h,λ_ _=>rfl,by omega⟩
theorem HM.trans {g:Ay} {c:List Aq} (h:HM n d a e b) (k:HM m e b g c):HM (n+m) d a g c:=⟨k.good,by rw[k.ab,h.ab],by rw[k.nx,h.nx],λy hy hk=>by
 obtain⟨z,z1,z2,z3,z4⟩:=k.pg y hy hk;obtain⟨w,w1,w2,w3,w4⟩:=h.pg z z1 z2
 grind,by have:=h.tx;have:=k.tx;omega,λw hw=>by
 have:=k.wear _<|h.wear w hw
 grind,λc hc=>by rw[k.text c (by rw[h.ab];exact hc),h.text c hc],by have:=h.sq;have:=k.sq;omega⟩
theorem HM.mono (h:HM n d a e b) (hm:n<=m):HM m d a e b:={h with
 tx:=by have:=h.tx;omega
 wear:=λw hw x hx=>by have:=h.wear w hw x hx;omega
 sq:=by have:=h.sq;omega}
theorem HM.torn (h:HM n d a e b) (hg:B9 g) (hp:K2 0 g.Blocks=K2 0 e.Flash.Blocks) (hw:Y7 e.Flash g):∃x,C6 g=some (x,true)/\x.Flash=g/\HM n d a x b:=by
 obtain⟨x,u1,u2,u3⟩:=KP hg (r:=b) (by rw[hp];exact h.good.dev.sr);obtain⟨e1,e2,_⟩:=Hi h.good.dev u2 rfl;exact⟨x,u1,u3,⟨⟨u2,h.good.core,by rw[e1];exact h.good.data⟩,by rw[e1,h.ab],by rw[e2,h.nx],h.pg,h.tx,λw hh=>by rw[u3];exact hw _<|h.wear w hh,h.text,h.sq⟩⟩
def Ld (n:Nat) (d:Ay) (r:List Aq) (steps:List AS):Prop:=(∃m,Steps d.Flash steps m)/\∀k g,k<=steps.length->aH d.Flash steps k g->∃x rx,C6 g=some (x,true)/\x.Flash=g/\HM n d r x rx
theorem eT {steps:List AS} (h1:∀s∈steps,s.Kind=1) (hc:∀k,k<=steps.length->∃x rx,Steps d.Flash (steps.take k) x.Flash/\C6 x.Flash=some (x,true)/\HM n d r x rx):Ld n d r steps:=by
 refine⟨?_,λk g hk hg=>?_⟩
 ·obtain⟨x,rx,c1,_⟩:=hc steps.length (Ax _)
  grind
 obtain⟨x,rx,c1,c2,c3⟩:=hc k hk;obtain⟨m,m1,m2⟩:=hg;have:=PM m1 c1;subst this
 rcases m2 with rfl|⟨s,s1,_,s2,s3,⟨_,s4⟩|⟨s4,_⟩⟩
 ·grind
 ·obtain⟨y,y1,y2,y3⟩:=c3.torn s2 s4 s3
  grind
 grind
theorem Ld.full {steps:List AS} (h:IC d r) (hc:Ld n d r steps) (hl:steps.length<=1000000):∃x rx,Hl d steps=some x/\Steps d.Flash steps x.Flash/\HM n d r x rx:=by
 obtain⟨⟨m,hm⟩,hk⟩:=hc;obtain⟨x,rx,x1,x2,x3⟩:=hk steps.length m (Ax _) ⟨m,by grind,.inl rfl⟩;exact⟨x,rx,Nh h.dev hm (by omega) x1,by rw[x2];exact hm,x3⟩
theorem wS {re:List Aq} {a b:List AS} (hk:HM n d r e re) (hs:Steps d.Flash a e.Flash) (ha:Ld n d r a) (hb:Ld m e re b):Ld (n+m) d r (a++b):=by
 refine⟨?_,λk g c hg=>?_⟩
 ·obtain⟨x,hx⟩:=hb.1;exact⟨x,(N9 _ _ _ _).2 ⟨_,hs,hx⟩⟩
 rw[Ak]at c
 rcases fV hg hs with⟨e1,e2⟩|⟨e1,e2⟩
 ·obtain⟨x,rx,x1,x2,x3⟩:=ha.2 k g (by omega) e2;exact⟨x,rx,x1,x2,x3.mono<|by omega⟩
 obtain⟨x,rx,x1,x2,x3⟩:=hb.2 _ g (by omega) e2;exact⟨x,rx,x1,x2,hk.trans x3⟩
theorem Zw (r m:List Aq) (c:Int) (h:∀y∈m,¬(y.Page.Kind=1/\y.Page.Tx=c)):K4 (r++m) c=K4 r c:=by
 unfold K4;rw[AI,Bk.2 λy hy hh=>h y hy<|Sc.1 hh,A7]
theorem bJ (h:IC d r) (hw:Fd d.Flash 999999999):∃steps ok,Lw d=some (steps,ok)/\steps.length<=200/\(ok=false->steps=[])/\(ok=true->Ld 1 d r steps):=by
 have hv:=h.dev.st.vs;obtain⟨dead,d1,d2,d3⟩:=Zi h.dev;unfold Lw;rw[d1];simp only[Aa]
 cases hd:dead with
 |cons b m=>
  rw[Ad (by rw[Bq,A8];omega:ln (b::m)>0),show gi (b::m) 0=some b from Ar (i:=0)];simp only[Ae,Aa];refine⟨_,_,rfl,by simp,(λhh=>by cases hh),λ_=>?_⟩;obtain⟨x,x1,x2,x3⟩:=d3 b (by rw[hd];simp);have hc:AAC d.Flash b:=⟨x,x1,x2,λe=>by have:=hw x<|Au (CM x1).2;omega⟩;have hs:TP d.Flash (AS.mk 2 b 0<|bs []):= .inr ⟨rfl,hc⟩;obtain⟨w1,w2⟩:=WW h.dev.fl hc;have he:Me d.Flash (AS.mk 2 b 0<|bs [])=UJ d.Flash b:=by rfl
  have wp:∀g,B9 g->K2 0 g.Blocks=((K2 0 d.Flash.Blocks).filter λy=>y.Block !=b)->(∀w:Int,Fd d.Flash w->Fd g (w+1))->∃x rx,C6 g=some (x,true)/\x.Flash=g/\HM 1 d r x rx:=by
   intro g g1 g2 g3;obtain⟨d',u1,u2,u3,u4,u5,_,u6⟩:=AA4 h x3 g1 g2;exact⟨d',_,u1,u2,u3,u4,u5,λy hy hk=>⟨y,(Bc.1 hy).1,hk,rfl,rfl⟩,gK λy hy hk=>XY _ (Bc.1 hy).1 hk,by rw[u2];exact g3,u6,gU (n:=200*1) λy hy=>Ya _ (Bc.1 hy).1⟩
  refine⟨⟨_,hs,rfl⟩,λk g hk hg=>?_⟩;obtain⟨q,q1,q2⟩:=hg
  cases k with
  |zero=>
   rw[show q=d.Flash from q1]at q2
   rcases q2 with rfl|⟨s,s1,_,s2,s3,⟨s4,_⟩|⟨_,s4⟩⟩
   ·obtain⟨x,u1,u2,u3⟩:=(HM.refl (n:=1) h).torn h.dev.fl rfl λ_ hh=>hh
    grind
   ·grind
   simp only[IW,Aj]at s1;rw[<-s1]at s4
   exact wp g s2 s4 λw hh y hy=>by have:=s3 w hh y hy;omega
  |succ k=>
   have q1':Steps d.Flash [AS.mk 2 b 0<|bs []] q:=by simpa using q1
   have e:q=UJ d.Flash b:=by rw[show q=Me d.Flash (AS.mk 2 b 0<|bs [])from q1'.2,he]
   rcases q2 with rfl|⟨s,s1,_⟩
   ·rw[e]
    exact wp _ w1 w2 λw hh=>by rw[<-he];exact dZ hh (by omega)<|.inr<|Jd _
   simp at s1
 |nil=>
  rw[show decide (ln ([]:List Int)>0)=false from rfl];simp only[Ac];obtain⟨v,v1⟩:=bQ h.dev;rw[v1];simp only[Aa]
  cases v with
  |false=>
   simp only[AM,Ae];unfold Mv;rw[Vp h.dev.st];simp only[Aa];obtain⟨b1,b2⟩:=f7 hv
   rcases Rd h.dev.fl h.dev.seqs (KR (AR d.Store) d.Store.Next) (by unfold KR;simp) b2 b1 (bs [])with w|⟨steps,T,g,f,w1,w2,w3,w4,w5,w6,w7,w8,w9⟩
   ·grind
   rw[w2];simp only[Aa];have j:=(Fu w7).2;have o:(Cm (Jb d<|bs []) d.Tx T).length=T.length:=by unfold Cm;grind
   have l:Da d f.Chunk (bs [])=[]:=by rfl
   rw[l,A5,o]at j;refine⟨_,_,rfl,by omega,(λhh=>by cases hh),λ_=>eT (Rf w7) λk hk=>?_⟩;obtain⟨m,d',r',c1,c2,c3,c4,c5,rfl,cw,c6,c7,c8,c9⟩:=Wd h b1 w3 w4 w5 w6 w7 w9 (λhh=>absurd (EO _) hh) k hk;have a:AR d'.Store=AR d.Store/\d'.Store.Next=d.Store.Next:=by
    by_cases e:k<steps.length
    ·obtain⟨e1,e2,_⟩:=Hi h.dev c4 (by rw[c8 e]);exact⟨e1,e2⟩
    obtain⟨q,hq⟩:=(c9<|by omega).1;have hB:cN (Tx.mk d.Tx q<|KR (AR d.Store) d.Store.Next)=true:=rfl;have a:=c4.ab;rw[hq,SA,AB hB]at a;have:L5 [Tx.mk d.Tx q<|KR (AR d.Store) d.Store.Next]=(AR d.Store,d.Store.Next):=by
     show(CT [] 1<|KR (AR d.Store) d.Store.Next).getD ([],1)=_;rw[f8 hv];rfl
    grind
   have hX:∀y∈(Cg steps<|Da d f.Chunk (bs [])++Cm (Jb d<|bs []) d.Tx T).take k,y.Page.Kind=2/\y.Page.Tx=d.Tx:=λy hy=>by
    have cP:=My _ _ _ y hy;rw[l,A5]at cP;exact⟨OF cP,eY cP⟩
   refine⟨d',_,by rw[c5];exact c1,by rw[c5];exact c3,⟨c4,c6,by rw[a.1];exact c7⟩,a.1,a.2,λy hy hk=>?_,gK λy hy hk=>?_,by rw[c5];exact XV (n:=1) cw,λc hc=>?_,gU (n:=200*1) λy hy=>?_⟩
   ·grind
   ·rcases Ap.1 hy with hh|hh
    ·exact XY _ hh hk
    rw[(hX y hh).2,h.dev.tx];omega
   ·unfold Cb;rw[Zw _ _ _ λy hy hh=>by grind]
   rcases Ap.1 hy with hh|hh
   ·exact Ya _ hh
   have:=dO<|My _ _ _ y hh;rw[h.dev.seq]at this;omega
  |true=>
   simp only[Ag,Ac];obtain⟨vi,vi1⟩:=bV h.dev;rw[vi1];simp only[Aa]
   cases decide (vi<0)with
   |true=>grind
   |false=>
    simp only[Ac]
    rcases cC h.dev h.few vi with w|⟨steps,ps,g,w1,w2,w3,w4,w5,w6,w7⟩
    ·grind
    rw[w1];refine⟨steps,true,rfl,by omega,(λhh=>by cases hh),λ_=>eT (Rf w2) λk hk=>?_⟩;obtain⟨m,d',c1,c2,c3,c4,c5,c6,_,cw,c7⟩:=zW h w2 w4 w5 w6 k;refine⟨d',_,by rw[c4];exact c1,by rw[c4];exact c3,c5,c6.ab,c6.nx,λy hy hk=>?_,gK λy hy hk=>?_,by rw[c4];exact XV (n:=1) cw,c7,gU (n:=200*1) λy hy=>?_⟩
    ·rcases Ap.1 hy with hh|hh
     ·grind
     obtain⟨⟨_,_,z,z1,z2⟩,_⟩:=w6 _<|My _ _ _ _ hh;obtain⟨a1,a2,a3⟩:=V3 z1
     grind
    ·rcases Ap.1 hy with hh|hh
     ·exact XY _ hh hk
     have:=(w6 _<|My _ _ _ _ hh).1.1;omega
    rcases Ap.1 hy with hh|hh
    ·exact Ya _ hh
    have:=w7 _<|My _ _ _ _ hh;rw[h.dev.seq]at this;omega
theorem LL (h:B9 f):∃v:Int,Mn f=some v:=by
 obtain⟨v,v1,_⟩:=WQ f h.cap (by have:=h.few;omega);exact⟨v,v1⟩
theorem U8 (h:IC d r) (hw:Fd d.Flash 999999000) (most:Int):∃d' all r',Hn d most=some (d',all)/\HM 20 d r d' r'/\all.length<=4000/\Steps d.Flash all d'.Flash/\Ld 20 d r all:=by
 unfold Hn;rw[Mg h.dev];simp only[Aa]
 have l:∀{n:Nat} {a:List AS},n<=20->Ld n d r a->Ld 20 d r a:=λhn hc=>⟨hc.1,λk g hk hg=>by
  obtain⟨x,rx,x1,x2,x3⟩:=hc.2 k g hk hg
  exact⟨x,rx,x1,x2,x3.mono hn⟩⟩
 obtain⟨b,h1,d',all,r',h2,h3,h4,h5,h6⟩:=AJ (body:=λs:List AS×Int×List Block×List Vol×List By×Int×Int×Int×Int=>EA most s.1 s.2.1 s.2.2.1 s.2.2.2.1 s.2.2.2.2.1 s.2.2.2.2.2.1 s.2.2.2.2.2.2.1 s.2.2.2.2.2.2.2.1 s.2.2.2.2.2.2.2.2)
  (λ(o:List AS×Ay) i=>(o.1,i,o.2.Flash.Blocks,o.2.Store.Vols,o.2.Store.Arena.Knots,o.2.Store.Next,o.2.Seq,o.2.Tx,o.2.Base)) 20
  (λi o=>o.1.length<=200*i/\∃r',HM i d r o.2 r'/\Steps d.Flash o.1 o.2.Flash/\Ld i d r o.1)
  (λb=>∃d' all r',(b= .inr (d',all)\/b= .inl (all,d'.Flash.Blocks,d'.Store.Vols,d'.Store.Arena.Knots,d'.Store.Next,d'.Seq,d'.Tx,d'.Base))/\HM 20 d r d' r'/\all.length<=4000/\Steps d.Flash all d'.Flash/\Ld 20 d r all)
  (λo i hi hs=>by
   obtain⟨all,e⟩:=o;obtain⟨j,r',hg,c,f⟩:=hs;simp only at j hg c f;have m:Ay.mk (Flash.mk e.Flash.Blocks) (Store.mk e.Store.Vols (Arena.mk e.Store.Arena.Knots) e.Store.Next) e.Seq e.Tx e.Base=e:=rfl;have p:Flash.mk e.Flash.Blocks=e.Flash:=rfl;simp only[EA];rw[m,p];obtain⟨v,v1⟩:=LL hg.good.dev.fl;rw[v1,Ad (by omega:(i:Int)<20)];simp only[Ae,Aa,Jy]
   cases(bif decide ((i:Int)<most)then decide (v<12)else false)with
   |false=>
    simp only[Ac];exact .inr ⟨_,rfl,e,all,r',.inr rfl,hg.mono (by omega),by omega,c,l (by omega) f⟩
   |true=>
    simp only[Ae];obtain⟨steps,ok,c1,c2,_,c3⟩:=bJ hg.good (λx hx=>by have:=hg.wear _ hw x hx;omega);rw[c1];simp only[Aa]
    cases ok with
    |false=>
     simp only[AM,Ae];exact .inr ⟨_,rfl,e,all,r',.inl rfl,hg.mono (by omega),by omega,c,l (by omega) f⟩
    |true=>
     obtain⟨d',r2,k1,k2,k3⟩:=(c3 rfl).full hg.good (by omega);simp only[Ag,Ac];rw[k1,Aa,BC (by omega),ad1]
     exact .inl ⟨(all++steps,d'),rfl,by simp;omega,r2,hg.trans k3,(N9 _ _ _ _).2 ⟨_,c,k2⟩,wS hg c f<|c3 rfl⟩)
  (λo hs=>by
   obtain⟨all,e⟩:=o;obtain⟨j,r',hg,c,f⟩:=hs;refine⟨.inl (all,e.Flash.Blocks,e.Store.Vols,e.Store.Arena.Knots,e.Store.Next,e.Seq,e.Tx,e.Base),?_,e,all,r',.inr rfl,hg,by simpa using j,c,f⟩;simp only[EA]
   grind) (s:=([],d)) ⟨by simp,r,HM.refl h,rfl,⟨⟨_,rfl⟩,λk g hk hg=>by
   obtain⟨q,q1,q2⟩:=hg;rw[List.take_nil]at q1;rw[show q=d.Flash from q1]at q2
   rcases q2 with rfl|⟨s,s1,_⟩
   ·obtain⟨x,u1,u2,u3⟩:=(HM.refl (n:=0) h).torn h.dev.fl rfl λ_ hh=>hh
    grind
   simp at s1⟩⟩
 rw[h1]
 rcases h2 with rfl|rfl
 ·grind
 exact⟨d',all,r',rfl,h3,h4,h5,h6⟩
theorem yQ {r:Int} (h:k<16):(Ff K r)[k]?=some (Rr K r k):=by unfold Ff;exact Gc h
theorem mQ (h:C1 s) (vol:Int) (hk:k<16):∃c,Lx s vol (k:Int)=some c/\((KN (AR s) vol=none/\c=0)\/∃a,KN (AR s) vol=some a/\a[k]?=some c/\0<=c/\(c≠0->Ea (AR s) c)):=by
 have hl:=h.len;unfold Lx
 rcases DF s (by omega) vol with⟨e,e2⟩|⟨i,v,e,e2,e3,_⟩
 ·rw[e];exact⟨0,rfl,.inl ⟨LC.1 e2,rfl⟩⟩
 rw[e];simp only[Aa];have hm:=Au e2;have hr:=h.root _<|A9.2 ⟨v,hm,rfl⟩;rw[cF,Ar,e2,Aa,Zc _ (by have:=h.few;omega) h.ar hr hk];have hg:=LB h.asc hm;rw[e3]at hg;have h0:=oL h.ar hr _<|aO hk;exact⟨_,rfl,.inr ⟨_,hg,yQ hk,h0,λb=>⟨by omega,_,A9.2 ⟨v,hm,rfl⟩,aO hk⟩⟩⟩
theorem RB (h:IC d r) (vol:Int) (hk:k<16):(KN (AR d.Store) vol=none/\Fy r d.Store vol (k:Int)=some (bs [],false))\/
  ∃a c,KN (AR d.Store) vol=some a/\a[k]?=some c/\Lx d.Store vol (k:Int)=some c/\((c=0/\Fy r d.Store vol (k:Int)=some (bs [],true))\/(0<c/\Ea (AR d.Store) c/\∃u,Cb r c=some u/\Fy r d.Store vol (k:Int)=some (u,true))):=by
 have hl:=h.dev.st.len;obtain⟨c,c1,c2⟩:=mQ h.dev.st vol hk;unfold Fy;rw[c1]
 rcases DF d.Store (by omega) vol with⟨e,e2⟩|⟨i,v,e,e2,e3,_⟩
 ·rw[e];exact .inl ⟨LC.1 e2,rfl⟩
 have hg:=LB h.dev.st.asc<|Au e2;rw[e3]at hg
 rcases c2 with⟨c2,_⟩|⟨a,c2,c3,c4,c5⟩
 ·grind
 rw[e];simp only[Aa];rw[cF];right;refine⟨a,c,c2,c3,rfl,?_⟩;by_cases e0:c=0
 ·grind
 rw[show(c==0)=false by simpa using e0];simp only[Ac];have b:=c5 e0;obtain⟨u,hu⟩:=h.data.data c b;obtain⟨w,ok,t1,t2⟩:=mE h.dev.pages c
 grind
theorem U6 (h:H5 d r) {q:PQ} {a:List Ct} {b:ByteArray} (hp:Ep d q=some (a,b,0)):ADw q:=by
 obtain⟨v,a1,a2⟩:=Wq q
 cases v with
 |true=>exact a2 rfl
 |false=>
  unfold Ep at hp
  grind
def pC (r r':List Aq) (c:Int) (a:ByteArray):Prop:=(∀y∈r',y.Page.Kind=1->(∃z∈r,z.Page.Kind=1/\z.Page.Tx=y.Page.Tx/\z.Page.Text=y.Page.Text)\/(L a≠ []/\y.Page.Tx=c/\y.Page.Text=a))/\DH r'<=DH r+1/\CP r'<=CP r+10
theorem sS (h:IC d r) {q:PQ} {a:ByteArray} (hx:mW d r q x a):DB d [x] a=some ([],false)\/∃steps d' r',DB d [x] a=some (steps,true)/\steps.length<=10/\Hl d steps=some d'/\IC d' r'/\
  (AR d'.Store,d'.Store.Next)=(CZ (AR d.Store) d.Store.Next x).getD (AR d.Store,d.Store.Next)/\d.Store.Next<=d'.Store.Next/\d'.Store.Next<=d.Store.Next+1/\pC r r' x.Chunk a/\Y7 d.Flash d'.Flash/\Steps d.Flash steps d'.Flash/\((∀c,Ea (AR d.Store) c->Cb r' c=Cb r c)/\(L a≠ []->Cb r' x.Chunk=Tn a))/\1<=steps.length/\∀k g,k<steps.length->aH d.Flash steps k g->∃y ry,C6 g=some (y,true)/\y.Flash=g/\As d r y ry/\pC r ry x.Chunk a:=by
 obtain⟨x1,x2,xv,x3⟩:=hx;have h7:=h.dev.st.nx
 have i:∀z∈ [x],GC z=true:=λz hz=>by grind
 rcases Rd h.dev.fl h.dev.seqs [x] (by simp) (by simp) i a with w|⟨steps,T,g,b,w1,w2,w3,w4,w5,w6,w7,w8,w9⟩
 ·exact .inl w
 right;have j:b=x:=by simpa using w1.symm
 subst j;have o:=(Fu w7).2;have h2:(Cm (Jb d a) d.Tx T).length=T.length:=by unfold Cm;grind
 have h8:(Da d b.Chunk a).length<=1:=by unfold Da;split<;>simp
 rw[Ak,h2]at o
 have t:L a≠ []->¬Ea (AR d.Store) b.Chunk:=λht h3=>by
  rcases x3 with⟨x3,_⟩|⟨_,x4,_⟩
  ·exact ht x3
  have:=Yj h.dev.st h3;omega
 have tk:∀k c,Ea (AR d.Store) c->Cb (r++(Cg steps<|Da d b.Chunk a++Cm (Jb d a) d.Tx T).take k) c=Cb r c:=λk c hc=>by
  unfold Cb;rw[Zw _ _ _ λz hz hh=>?_];have h4:=My _ _ _ z hz
  rcases Ap.1 h4 with hh2|hh2
  ·unfold Da at hh2
   grind
  have:=OF hh2;omega
 have tn:L a≠ []->Cb (r++(Cg steps<|Da d b.Chunk a++Cm (Jb d a) d.Tx T).take steps.length) b.Chunk=Tn a:=λe=>by
  rw[AH (by unfold Cg;grind),show Da d b.Chunk a=[Page.mk 1 d.Seq b.Chunk 0 1 a] by unfold Da;rw[AA e]]
  cases steps with
  |nil=>grind
  |cons s ss=>
   show Cb (r++Aq.mk s.Block s.Leaf (Page.mk 1 d.Seq b.Chunk 0 1 a)::Cg ss (Cm (Jb d a) d.Tx T)) b.Chunk=_;unfold Cb;rw[List.append_cons,fC _ _ (λy hy=>by have:=OF (My ss _ _ y (by rw[DK];exact hy));omega),M0,AB ⟨rfl,rfl⟩];rfl
 have fw:∀k,pC r (r++(Cg steps<|Da d b.Chunk a++Cm (Jb d a) d.Tx T).take k) b.Chunk a:=λk=>by
  have cP:∀y∈r++(Cg steps<|Da d b.Chunk a++Cm (Jb d a) d.Tx T).take k,y∈r\/y.Page∈Da d b.Chunk a++Cm (Jb d a) d.Tx T:=λy hy=>(Ap.1 hy).imp id<|My _ _ _ y
  refine⟨λy hy hk=>?_,gK (n:=1) λy hy hk=>?_,gU (n:=10) λy hy=>?_⟩
  ·rcases cP y hy with hh|hh
   ·grind
   rcases Ap.1 hh with hh|hh
   ·unfold Da at hh;by_cases e:L a=[]
    ·grind
    grind
   have:=OF hh;omega
  ·rcases cP y hy with hh|hh
   ·exact XY _ hh hk
   rcases Ap.1 hh with hh|hh
   ·unfold Da at hh
    grind
   rw[eY hh,h.dev.tx];omega
  rcases cP y hy with hh|hh
  ·exact Ya _ hh
  have:=dO hh;rw[h.dev.seq]at this;omega
 have cut:∀k g,k<steps.length->aH d.Flash steps k g->∃y ry,C6 g=some (y,true)/\y.Flash=g/\As d r y ry/\pC r ry b.Chunk a:=λk g hk hg=>by
  obtain⟨m,y,ry,c1,c2,c3,c4,c5,hr',cw,c6,c7,c8,_⟩:=Wd h i w3 w4 w5 w6 w7 w9 t k (by omega);obtain⟨e1,e2,_⟩:=Hi h.dev c4 (by rw[c8 hk]);subst hr';have h5:As d r y (r++(Cg steps<|Da d b.Chunk a++Cm (Jb d a) d.Tx T).take k):=⟨⟨c4,c6,by rw[e1];exact c7⟩,e1,e2,(fw k).2.1,by rw[c5];exact XV (n:=1) cw,tk k⟩;obtain⟨q,q1,q2⟩:=hg;have:=PM q1 c1;subst this
  rcases q2 with rfl|⟨s,s1,_,s2,s3,⟨_,s4⟩|⟨s4,_⟩⟩
  ·grind
  ·obtain⟨z,z1,z2,z3⟩:=h5.torn s2 (by rw[c5];exact s4) (by rw[c5];exact s3)
   grind
  have:=Rf w7 s<|Au s1;omega
 obtain⟨m,d',r',c1,c2,c3,c4,c5,hr',cw,c6,c7,_,c9⟩:=Wd h i w3 w4 w5 w6 w7 w9 t steps.length<|Ax _;rw[<-c5]at cw;rw[DK]at c1;have u:Steps d.Flash steps d'.Flash:=by rw[c5];exact c1
 have v:pC r r' b.Chunk a:=by rw[hr'];exact fw _
 have tt:(∀c,Ea (AR d.Store) c->Cb r' c=Cb r c)/\(L a≠ []->Cb r' b.Chunk=Tn a):=by grind
 obtain⟨⟨qn,hq⟩,c10⟩:=c9 rfl;have hB:¬cN (Tx.mk d.Tx qn [b])=true:=by
  unfold cN;simpa using x2
 have f:=c4.ab;rw[hq,SA,AA hB,Z0,<-h.dev.ab]at f;have h6:CT (AR d.Store) d.Store.Next [b]=CZ (AR d.Store) d.Store.Next b:=by rfl
 simp only[h6]at f;have h0:=Nh h.dev c1 (by omega) c3
 cases l:CZ (AR d.Store) d.Store.Next b with
 |none=>
  rw[l]at f;have e1:AR d'.Store=AR d.Store:=BQ Prod.fst f;have e2:d'.Store.Next=d.Store.Next:=BQ Prod.snd f;exact⟨steps,d',r',w2,by omega,h0,⟨c4,c6,by rw[e1];exact c7⟩,by rw[e1,e2];rfl,by omega,by omega,v,cw,u,tt,by omega,cut⟩
 |some p=>
  obtain⟨l',nx'⟩:=p;rw[l]at f;have e1:AR d'.Store=l':=BQ Prod.fst f;have e2:d'.Store.Next=nx':=BQ Prod.snd f;obtain⟨v1,v2,v3⟩:=oC l x2
  have hz:∀c,Ea l' c->c=b.Chunk->b.Kind≠4->False:=λc hc h9 hk=>by
   have:b.Chunk=0:=by
    have hb:=x1;unfold GC at hb
    grind
   have:=hc.1;omega
  have h1:b.Chunk<=d.Store.Next:=by
   by_cases hk:b.Kind=4
   ·rcases x3 with⟨_,x4⟩|⟨_,x4,_⟩
    ·have:=Yj h.dev.st (x4 hk).1;omega
    omega
   have hb:=x1;unfold GC at hb
   grind
  refine⟨steps,d',r',w2,by omega,h0,⟨c4,c6,?_⟩,by rw[e1,e2];rfl,by omega,by omega,v,cw,u,tt,by omega,cut⟩;rw[e1]
  rcases x3 with⟨x3,x4⟩|⟨x3,x4,x5,x6,x7⟩
  ·refine c7.mono λc hc=>?_
   grind
  exact(c10 _ x6 x5 x7).mono v1
def AAU (r r':List Aq) (nx:Int) (a:ByteArray):Prop:=(∀y∈r',y.Page.Kind=1->(∃z∈r,z.Page.Kind=1/\z.Page.Tx=y.Page.Tx/\z.Page.Text=y.Page.Text)\/(y.Page.Tx=nx/\Tn y.Page.Text=some a))/\DH r'<=DH r+21/\CP r'<=CP r+4010
def ACd (d d':Ay) (v:Int):Prop:=∀p∈AR d'.Store,(∃p'∈AR d.Store,p'.1=p.1)\/p.1=v
theorem HM.q (h:HM n d r e r') (hn:n<=20) (nx:Int) (t:ByteArray):AAU r r' nx t:=⟨λy hy hk=> .inl (h.pg y hy hk),by have:=h.tx;omega,by have:=h.sq;omega⟩
theorem K5 (h:AR d'.Store=AR d.Store) (v:Int):ACd d d' v:=λp hp=> .inl ⟨p,by rw[<-h];exact hp,rfl⟩
theorem AB7 (h:IC d r) (hw:Fd d.Flash 999999000) (q:PQ):∃d' steps t no r',O6 d q=some (d',steps,t,no)/\IC d' r'/\d.Store.Next<=d'.Store.Next/\d'.Store.Next<=d.Store.Next+1/\AAU r r' d.Store.Next q.Text/\ACd d d' q.Vol/\∀w:Int,Fd d.Flash w->Fd d'.Flash (w+20):=by
 have a:HM 20 d r d r:=HM.refl h;unfold O6;rw[Mg h.dev,Qf h.dev];simp only[Aa,Ag,Ac];obtain⟨o,v,no,p1,p2,p3⟩:=VU h.dev q;rw[p1];simp only[Aa]
 cases f:(no !=0)with
 |true=>exact⟨_,_,_,_,r,rfl,h,by omega,by omega,a.q (by omega) _ _,K5 rfl _,a.wear⟩
 |false=>
  have g:no=0:=by simpa using f
  subst g;have hq:=U6 h.dev p1;simp only[Ac]
  cases h0:(q.Kind==6)with
  |true=>
   simp only[Ae];obtain⟨k,hk⟩:∃k:Nat,q.Sector=(k:Int):=⟨_,(AX hq.sec.1).symm⟩;unfold Mo;rw[h.dev.scan.s,hk];simp only[Aa]
   rcases RB h q.Vol (k:=k) (by have:=hq.sec;omega)with⟨_,e⟩|⟨h1,c,_,_,_,⟨_,e⟩|⟨_,_,u,_,e⟩⟩
   ·rw[e];exact⟨_,_,_,_,r,rfl,h,by omega,by omega,a.q (by omega) _ _,K5 rfl _,a.wear⟩
   ·rw[e];exact⟨_,_,_,_,r,rfl,h,by omega,by omega,a.q (by omega) _ _,K5 rfl _,a.wear⟩
   rw[e];exact⟨_,_,_,_,r,rfl,h,by omega,by omega,a.q (by omega) _ _,K5 rfl _,a.wear⟩
  |false=>
   simp only[Ac];obtain⟨v5,i⟩:=LL h.dev.fl;rw[i];simp only[Aa];have clean:∃e all re,(cond (decide<|v5<12) ((Hn d 20).bind λv6=>some (v6.2,v6.1.Flash.Blocks,v6.1.Store.Vols,v6.1.Store.Arena.Knots,v6.1.Store.Next,v6.1.Seq,v6.1.Tx,v6.1.Base)) (some ([],d.Flash.Blocks,d.Store.Vols,d.Store.Arena.Knots,d.Store.Next,d.Seq,d.Tx,d.Base)):Option (List AS×List Block×List Vol×List By×Int×Int×Int×Int))=some (all,Flash.Blocks<|Ay.Flash e,e.Store.Vols,e.Store.Arena.Knots,e.Store.Next,e.Seq,e.Tx,e.Base)/\HM 20 d r e re/\all.length<=4000:=by
    cases decide (v5<12)with
    |false=>grind
    |true=>
     obtain⟨e,all,re,k1,k2,k3,_⟩:=U8 h hw 20
     grind
   obtain⟨e,all,re,k1,k5,k4⟩:=clean;have k2:=k5.good;rw[k1];simp only[Aa];have j:Ay.mk (Flash.mk e.Flash.Blocks) (Store.mk e.Store.Vols (Arena.mk e.Store.Arena.Knots) e.Store.Next) e.Seq e.Tx e.Base=e:=rfl;have l:Flash.mk e.Flash.Blocks=e.Flash:=rfl;rw[j,l];obtain⟨recs2,text2,no2,s1,s2,_⟩:=VU k2.dev q;rw[s1];simp only[Aa];obtain⟨v9,m⟩:=LL k2.dev.fl;rw[m];have h2:=k5.nx
   rcases s2 with⟨rfl,rfl⟩|⟨_,x,rfl,s2⟩
   ·have hw:DB e [] (bs [])=some ([],true):=rfl;rw[hw];simp only[Aa,Ag,Ac]
    cases decide (v9<8)with
    |true=>exact⟨_,_,_,_,re,rfl,k2,by omega,by omega,k5.q (by omega) _ _,K5 k5.ab _,k5.wear⟩
    |false=>
     simp only[Ac];obtain⟨d',u1,u2,u3⟩:=KP k2.dev.fl k2.dev.sr;obtain⟨e1,e2,_⟩:=Hi k2.dev u2 rfl;rw[Nh k2.dev (steps:=[]) rfl (by simp) u1,Aa,BC (by simp;omega)];exact⟨_,_,_,_,re,rfl,⟨u2,k2.core,by rw[e1];exact k2.data⟩,by omega,by omega,k5.q (by omega) _ _,K5 (by rw[e1,k5.ab]) _,by rw[u3];exact k5.wear⟩
   rcases sS k2 s2 with w|⟨steps,d',r',w1,w2,w3,w4,w7,w5,w6,w8,w9,_⟩
   ·rw[w];exact⟨_,_,_,_,re,rfl,k2,by omega,by omega,k5.q (by omega) _ _,K5 k5.ab _,k5.wear⟩
   rw[w1];simp only[Aa,Ag,Ac]
   cases decide (v9<8)with
   |true=>exact⟨_,_,_,_,re,rfl,k2,by omega,by omega,k5.q (by omega) _ _,K5 k5.ab _,k5.wear⟩
   |false=>
    simp only[Ac];rw[w3,Aa,BC<|by omega];refine⟨_,_,_,_,r',rfl,w4,by omega,by omega,⟨λy hy hk=>?_,by have:=w8.2.1;have:=k5.tx;omega,by have:=w8.2.2;have:=k5.sq;omega⟩,λp hp=>?_,λw hh=>w9 _<|k5.wear w hh⟩
    ·rcases w8.1 y hy hk with⟨z,z1,z2,z3,z4⟩|⟨t1,t2,t3⟩
     ·obtain⟨w,a1,a2,a3,a4⟩:=k5.pg z z1 z2
      grind
     obtain⟨_,_,_,s3⟩:=s2
     grind
    have e1:=BQ Prod.fst w7;simp only at e1;rw[e1]at hp
    cases b:CZ (AR e.Store) e.Store.Next x with
    |none=>
     rw[b]at hp;exact .inl ⟨p,by rw[<-k5.ab];exact hp,rfl⟩
    |some lp=>
     rw[b]at hp;obtain⟨l',nx'⟩:=lp;have n:p∈l':=hp
     rcases aF b s2.2.1 p n with⟨p',q1,q2⟩|hh
     ·exact .inl ⟨p',by rw[<-k5.ab];exact q1,q2⟩
     exact .inr<|by rw[hh,s2.2.2.1]
structure LO (c:BN):Prop where
 i0:0<=c.i_
 i1:c.i_<=(c.b_.length:Int)
 len:c.b_.length<=1048576
theorem AAH (a:Int):0<=ban .i64 a 255/\ban .i64 a 255<=255:=by
 unfold ban;have h:(BitVec.ofInt IntKind.i64.bits a&&&BitVec.ofInt IntKind.i64.bits 255).toNat<=255:=by
  rw[BitVec.toNat_and];refine Jz Nat.and_le_right ?_;exact Nat.le_of_eq rfl
 rw[Pm (by omega)<|by omega];omega
theorem WV (h:LO c):∃v c',IF c=some (v,c')/\LO c'/\0<=v/\v<=255:=by
 have:=h.i0;have:=h.i1;have:=h.len;unfold IF;by_cases e:c.i_<ln c.b_
 ·rw[Ad e,Ae,KM h.i0 (by rw[Bq]at e;exact e)];rw[Bq]at e;rw[Aa,Cs (a:=c.i_) (by omega)<|by omega];exact⟨_,_,rfl,⟨by grind,by grind,h.len⟩,AAH _⟩
 rw[Ah e,Ac];exact⟨_,_,rfl,⟨h.i0,h.i1,h.len⟩,AAH _⟩
theorem ACS {a n:Int} (h0:0<=a) (hn:0<n):∃v,rm .i64 a n=some v/\0<=v/\v<n:=by
 unfold rm;rw[AA (by omega),Int.tmod_eq_emod_of_nonneg h0];exact⟨_,rfl,Int.emod_nonneg _ (by omega),Int.emod_lt_of_pos _ hn⟩
theorem Ri (h:LO c) (n:Int):∃v c',Du c n=some (v,c')/\LO c'/\0<=v/\(0<n->v<n):=by
 unfold Du;by_cases h0:n<=0
 ·rw[Ad h0]
  grind
 rw[Ah h0,Ac];by_cases h1:n<=256
 ·rw[Ad h1,Ae];obtain⟨v,c',k1,k2,k3,k4⟩:=WV h;rw[k1];obtain⟨w,w1,w2,w3⟩:=ACS (n:=n) k3 (by omega)
  grind
 rw[Ah h1,Ac];obtain⟨v1,c1,a1,a2,a3,a4⟩:=WV h;obtain⟨v2,c2,b1,b2,b3,b4⟩:=WV a2;obtain⟨v3,c3,d1,d2,d3,d4⟩:=WV b2;obtain⟨v4,c4,e1,e2,e3,e4⟩:=WV d2;rw[a1,Aa,b1,Aa,d1,Aa,e1,Aa,P4 (by omega) (by omega),P4 (by omega) (by omega),P4 (by omega) (by omega),Cs (a:=v1*16777216) (b:=v2*65536) (by omega) (by omega),Cs (a:=v1*16777216+v2*65536) (b:=v3*256) (by omega) (by omega),Cs (a:=v1*16777216+v2*65536+v3*256) (b:=v4) (by omega)<|by omega];obtain⟨w,w1,w2,w3⟩:=ACS (a:=v1*16777216+v2*65536+v3*256+v4) (n:=n) (by omega)<|by omega
 grind
theorem NA (h:LO c) (hn:0<n):∃(v:Nat) (c':BN),Du c (n:Int)=some ((v:Int),c')/\LO c'/\v<n:=by
 obtain⟨v,c',k1,k2,k3,k4⟩:=Ri h (n:Int);have:=k4 (by omega);exact⟨v.toNat,c',by grind,k2,by omega⟩
theorem wP {l:List Int} (h:LO c) (hl:0<l.length):∃v c',Nf c l=some (v,c')/\LO c'/\v∈l:=by
 unfold Nf;obtain⟨v,c',k1,k2,k3⟩:=NA h hl;rw[Bq,k1,Aa,Ar,Ab k3]
 grind
theorem ADm {l:List ByteArray} (h:LO c) (hl:0<l.length):∃v c',Pv c l=some (v,c')/\LO c'/\v∈l:=by
 unfold Pv;obtain⟨v,c',k1,k2,k3⟩:=NA h hl;rw[Bq,k1,Aa,Ar,Ab k3];exact⟨_,_,rfl,k2,Az k3⟩
theorem AAR (h:LO c) (n:Int):∃v c',JQ c n=some (v,c')/\LO c':=by
 unfold JQ;obtain⟨v,c',k1,k2,_⟩:=Ri h n;rw[k1];exact⟨_,_,rfl,k2⟩
theorem Nx (h:LO c):LO (BN.mk c.b_ c.i_ c.h_):=h
theorem ACH (h:code.length<=1048576):∃c,RD code=some c/\LO c:=by
 unfold RD;obtain⟨b,h1,_⟩:=AJ (body:=λs:Int×Int=>Mk code s.1 s.2) (λ(o:Int) i=>(o,i)) code.length (λ_ _=>True) (λ_=>True)
  (λo i hi _=>by
   have hx:=Ab hi;simp only[Mk,IX,Ad hi,Ae,Aa,Ar,hx];rw[ad1 (i:=i)<|by omega]
   cases decide ((i:Int)<4000)with
   |true=>grind
   |false=>grind)
  (λo _=>⟨o,by simp only[Mk,IX,EP,HI,Ac,Aa],trivial⟩) (s:=ad 36501<|ln code) trivial
 rw[h1];exact⟨_,rfl,⟨Jd _,by grind,h⟩⟩
def ten:List ByteArray:=[bs [],bs [97],bs [98,98],bs [97,98,99,100,97,98,99,100,97,98,99,100],bs [104,101,108,108,111],bs [104,101,108,108,111,32,104,101,108,108,111,32,104,101,108,108,111],bs [122,122,122,122,122,122,122,122,122,122,122,122],bs [113,49],bs [113,50],bs [113,51]]
theorem ADh (h:LO c):∃v c',SC c=some (v,c')/\LO c'/\v∈ten:=by
 unfold SC;obtain⟨v,c',k1,k2,k3⟩:=ADm h (l:=ten) (by simp[ten]);have e:Pv c ten=some (v,c'):=k1;unfold ten at e
 grind
structure ACf (q:PQ):Prop where
 kind:1<=q.Kind/\q.Kind<=6
 vol:1<=q.Vol/\q.Vol<=3
 rest:(q.Kind=1/\q.Text∈ten/\(0<=q.Sector/\q.Sector<=15)/\q.Of=0)\/(q.Kind≠1/\L q.Text=[]/\(((q.Kind=2\/q.Kind=6)/\(0<=q.Sector/\q.Sector<=15)/\q.Of=0)\/(q.Sector=0/\((q.Kind=4/\1<=q.Of/\q.Of<=9)\/((q.Kind=3\/q.Kind=5)/\q.Of=0)))))
theorem ADo (h:LO c) (d:Ay) (hv:d.Store.Vols.length<=3) (j:∀v∈d.Store.Vols,1<=v.Id/\v.Id<=3):∃q c',SD c d=some (q,c')/\LO c'/\ACf q:=by
  unfold SD;obtain⟨k,c1,a1,a2,a3⟩:=wP h (l:=[1,1,1,1,1,1,2,3,4,5,6]) (by simp);rw[a1];simp only[Aa];obtain⟨v2,c2,b1,b2,b3,b4⟩:=Ri a2 3;have m:1<=k/\k<=6:=by simp at a3;omega
  have s:ad 1 v2=1+v2:=Cs (by omega) (by omega);have u:=b4 (by omega);rw[b1];simp only[Aa]
  have J1:∃x y c3,(cond ((ln d.Store.Vols)==0) (some (3,ad 1 v2,c2.b_,c2.i_,c2.h_)) ((cond (k !=3) (cond (k !=4) ((JQ c2 8).bind λv3=>
 some (!v3.1,v3.2.b_,v3.2.i_,v3.2.h_))<|some (false,c2.b_,c2.i_,c2.h_)) (some (false,c2.b_,c2.i_,c2.h_)):Option (Bool×List Int×Int×Int)).bind λj2=>
 cond j2.1 ((Du (BN.mk j2.2.1 j2.2.2.1 j2.2.2.2)<|ln d.Store.Vols).bind λv4=>
 (gi d.Store.Vols v4.1).bind λx1=>
 some (k,x1.Id,v4.2.b_,v4.2.i_,v4.2.h_)) (some (k,ad 1 v2,j2.2.1,j2.2.2.1,j2.2.2.2))):Option (Int×Int×List Int×Int×Int))=some (x,y,BN.b_ c3,c3.i_,c3.h_)/\LO c3/\(1<=x/\x<=6)/\1<=y/\y<=3:=by
   cases hz:(ln d.Store.Vols==0)with
   |true=>exact⟨_,_,c2,rfl,b2,by omega,by omega,by omega⟩
   |false=>
    simp only[Ac];have n:0<d.Store.Vols.length:=by
     rw[R0,Bq]at hz;omega
    have J2:∃b c3,(cond (k !=3) (cond (k !=4) ((JQ c2 8).bind λv3=>some (!v3.1,v3.2.b_,v3.2.i_,v3.2.h_))<|some (false,c2.b_,c2.i_,c2.h_)) (some (false,c2.b_,c2.i_,c2.h_)):Option (Bool×List Int×Int×Int))=some (b,BN.b_ c3,c3.i_,c3.h_)/\LO c3:=by
     cases(k !=3)with
     |false=>grind
     |true=>
      cases(k !=4)with
      |false=>grind
      |true=>
       obtain⟨v3,c3,d1,d2⟩:=AAR b2 8;simp only[Ae];rw[d1];exact⟨_,c3,rfl,d2⟩
    obtain⟨b,c3,e1,e2⟩:=J2;rw[e1];simp only[Aa]
    cases b with
    |false=>exact⟨_,_,c3,rfl,e2,m,by omega,by omega⟩
    |true=>
     simp only[Ae];obtain⟨v4,c4,f1,f2,f3⟩:=NA (Nx e2) n;rw[Bq,f1,Aa,Ar,Ab f3];exact⟨_,_,c4,rfl,f2,m,j _<|Az f3⟩
  obtain⟨x,y,c3,j1,j1c,jx,jy⟩:=J1;rw[j1];simp only[Aa];have J3:∃b c4,(cond (x==5) ((JQ (BN.mk c3.b_ c3.i_ c3.h_) 3).bind λv8=>some (!v8.1,v8.2.b_,v8.2.i_,v8.2.h_)) (some (false,c3.b_,c3.i_,c3.h_)):Option (Bool×List Int×Int×Int))=some (b,BN.b_ c4,c4.i_,c4.h_)/\LO c4:=by
   cases(x==5)with
   |false=>grind
   |true=>
    obtain⟨v8,c4,d1,d2⟩:=AAR (Nx j1c) 3;simp only[Ae];rw[d1];exact⟨_,c4,rfl,d2⟩
  obtain⟨b,c4,j3,j3c⟩:=J3;rw[j3];simp only[Aa,Jy];have a:1<=(bif b then(1:Int)else x)/\(bif b then(1:Int)else x)<=6:=by grind
  generalize (bif b then(1:Int)else x)=j4 at a
  cases o:(j4==1)with
  |true=>
   simp only[Ae];obtain⟨t,c5,t1,t2,t3⟩:=ADh<|Nx j3c;rw[t1];simp only[Aa];obtain⟨v10,c6,u1,u2,u3,u4⟩:=Ri t2 16;rw[u1];have:=u4 (by omega);have hj:=C3.1 o;exact⟨_,_,rfl,u2,⟨a,jy,.inl ⟨hj,t3,by grind,rfl⟩⟩⟩
  |false=>
   simp only[Ac];have e:j4≠1:=by simpa using o
   have p:(cond (j4==2) (j4==2)<|j4==6)=decide (j4=2\/j4=6):=by grind
   rw[p];by_cases g:j4=2\/j4=6
   ·rw[Ad g];simp only[Ae];obtain⟨v11,c6,u1,u2,u3,u4⟩:=Ri (Nx j3c) 16;rw[u1];have:=u4 (by omega);exact⟨_,_,rfl,u2,⟨a,jy,.inr ⟨e,EO _,.inl ⟨g,by grind,rfl⟩⟩⟩⟩
   rw[Ah g];simp only[Ac]
   cases f:(j4==4)with
   |true=>
    simp only[Ae];obtain⟨v12,c6,u1,u2,u3,u4⟩:=Ri (Nx j3c) 3;have h44:=C3.1 f;have:=u4 (by omega);rw[u1];simp only[Aa]
    cases r:d.Store.Vols with
    |nil=>
     rw[show decide (ln ([]:List Vol)>0)=false from rfl];exact⟨_,_,rfl,u2,⟨a,jy,.inr ⟨e,EO _,.inr ⟨rfl,.inl ⟨h44,by show 1<=ad 1 v12/\ad 1 v12<=9;rw[Cs];omega⟩⟩⟩⟩⟩
    |cons v vs=>
     rw[Ad (by rw[Bq,A8];omega:ln (v::vs)>0),show gi (v::vs) 0=some v from Ar (i:=0)];have:=j v (by rw[r];simp);exact⟨_,_,rfl,u2,⟨a,jy,.inr ⟨e,EO _,.inr ⟨rfl,.inl ⟨h44,by grind⟩⟩⟩⟩⟩
   |false=>
    have h44:j4≠4:=by simpa using f
    exact⟨_,_,rfl,Nx j3c,⟨a,jy,.inr ⟨e,EO _,.inr ⟨rfl,.inr ⟨by grind,rfl⟩⟩⟩⟩⟩
theorem AAE (h:3<=n/\n<=10):B9 (Flash.mk (List.replicate n (Block.mk false 0 Ok))):=by
 refine⟨by simpa using h,λb hb=>?_⟩;rw[Ee hb];exact oS ⟨by omega,by omega⟩
theorem iE (h:3<=n/\n<=10):Qe (n:Int)=some (Flash.mk (List.replicate n (Block.mk false 0 Ok)),true):=by
 unfold Qe;rw[Ew,Ad<|by omega];simp only[Aa,Ag,Ac];have q:=qV (body:=λs:Int×List Block=>Jk (n:Int) s.1 s.2) n (λ_=>Block.mk false 0 Ok)
  (λi a hi ho=>by
   simp only[Jk]
   rw[cT,Wz,Aa,BC (by simp;omega),Aa,ad1])
  (λa=>by simp only[Jk];rw[cF])
 rw[q,Aa,MV,DQ]
theorem eW:∀(n:Nat) (i:Int),K2 i (List.replicate n (Block.mk false 0 Ok))=[]
 |0,i=>rfl
 |n+1,i=>by
  rw[MG,K2,eW n (i+1),Zp i 0 _ (λy hy=>by rw[Ee hy];simp)];rfl
theorem pG (h:3<=n/\n<=10):∃d,OB (n:Int)=some (d,true)/\IC d []/\AR d.Store=[]/\d.Store.Next=1/\d.Flash=Flash.mk (List.replicate n (Block.mk false 0 Ok)):=by
 have hP:=AAE h;have b:SR (K2 0 (Flash.mk<|List.replicate n<|Block.mk false 0 Ok).Blocks) []:=by
  rw[eW];exact⟨List.Pairwise.nil,λ_=>rfl⟩
 obtain⟨d,u1,u2,u3⟩:=KP hP b;have a:=u2.ab;have:L5 (CO<|Bg [])=([],1):=rfl;rw[this]at a
 injection a with e1 e2
 refine⟨d,?_,⟨u2,⟨⟨by simp,by simp,by simp,by simp,by simp,by simp⟩,List.Pairwise.nil,⟨λy hy=>by cases hy⟩⟩,?_⟩,e1,e2,u3⟩
 ·unfold OB;rw[iE h]
  grind
 rw[e1];refine⟨λc hc=>?_,λc c' hc=>?_⟩
 ·obtain⟨_,p,hp,_⟩:=hc;cases hp
 obtain⟨_,p,hp,_⟩:=hc;cases hp
theorem kX (h:code.length<=1048576):∃p,Nj code=some p/\p.length=12/\∀x∈p,0<=x/\x<10000:=by
 unfold Nj;obtain⟨c,c1,c2⟩:=ACH h;rw[c1];simp only[Aa];obtain⟨v,c',b1,b2,_⟩:=WV c2;rw[b1];simp only[Aa];obtain⟨a,h1,h2,h3⟩:=AJ (body:=λs:List Int×Int×List Int×Int×Int=>J8 s.1 s.2.1 s.2.2.1 s.2.2.2.1 s.2.2.2.2) (λ(o:List Int×BN) i=>(o.1,i,o.2.b_,o.2.i_,o.2.h_)) 12
  (λi o=>LO o.2/\o.1.length=i/\∀x∈o.1,0<=x/\x<10000) (λa=>a.length=12/\∀x∈a,0<=x/\x<10000)
  (λo i hi hs=>by
   obtain⟨p,cu⟩:=o;obtain⟨k1,k2,k3⟩:=hs;simp only at k1 k2 k3;simp only[J8];rw[cT];obtain⟨w,c3,w1,w2,w3,w4⟩:=Ri (Nx k1) 10000;rw[w1,Aa,BC (by simp;omega),Aa,ad1];refine .inl ⟨(p++ [w],c3),rfl,w2,by simp;omega,λx hx=>?_⟩
   grind)
  (λo hs=>⟨o.1,by rfl,hs.2⟩) (s:=([],c')) ⟨b2,rfl,λx hx=>by cases hx⟩
 grind
structure AAV (d:Ay) (r:List Aq):Prop where
 ids:∀p∈AR d.Store,1<=p.1/\p.1<=3
 pg:∀y∈r,y.Page.Kind=1->y.Page.Tx<=13/\∃s∈ten,Tn y.Page.Text=some s
structure Ext (d:Ay) (r:List Aq):Prop extends AAV d r where
 tx:DH r<=1000
 sq:CP r<=100000
 wear:Fd d.Flash 1000
theorem ACf.text {q:PQ} (h:ACf q):q.Text∈ten:=by
 rcases h.rest with⟨_,h2,_⟩|⟨_,h2,_⟩
 ·exact h2
 rw[show q.Text=bs []from KU (by rw[h2,EO])];simp[ten]
theorem AAV.step {q:PQ} (h:AAV d r) (hq:ACf q) (hn:d.Store.Next<=13) (hf:AAU r r' d.Store.Next q.Text) (hi:ACd d d' q.Vol):AAV d' r':=by
 refine⟨λp hp=>?_,λy hy hk=>?_⟩
 ·rcases hi p hp with⟨p',h1,h2⟩|h1
  ·rw[<-h2];exact h.ids p' h1
  rw[h1];exact hq.vol
 rcases hf.1 y hy hk with⟨z,z1,z2,z3,z4⟩|⟨h1,h2⟩
 ·have:=h.pg z z1 z2
  grind
 exact⟨by omega,_,hq.text,h2⟩
theorem nG (h:LO c):∃d c' r,O1 c=some (d,c')/\LO c'/\IC d r/\d.Store.Next<=13/\Ext d r:=by
 unfold O1;obtain⟨v,c1,a1,a2,a3⟩:=NA h (n:=4) (by omega);rw[show((4:Nat):Int)=4 from rfl]at a1;rw[a1,Aa,Cs,show(5:Int)+(v:Int)=((5+v:Nat):Int) by omega];obtain⟨d0,b1,b2,b3,b4,b5⟩:=pG (n:=5+v) (by omega);rw[b1];simp only[Aa];obtain⟨a,h1,d,cc,r,h2,h3,h4,h5,h6⟩:=AJ (body:=λs:Int×List Block×List Vol×List By×Int×Int×Int×Int×List Int×Int×Int=>Ia s.1 s.2.1 s.2.2.1 s.2.2.2.1 s.2.2.2.2.1 s.2.2.2.2.2.1 s.2.2.2.2.2.2.1 s.2.2.2.2.2.2.2.1 s.2.2.2.2.2.2.2.2.1 s.2.2.2.2.2.2.2.2.2.1 s.2.2.2.2.2.2.2.2.2.2)
  (λ(o:Ay×BN) i=>(i,o.1.Flash.Blocks,o.1.Store.Vols,o.1.Store.Arena.Knots,o.1.Store.Next,o.1.Seq,o.1.Tx,o.1.Base,o.2.b_,o.2.i_,o.2.h_)) 12
  (λi o=>LO o.2/\(∃r,IC o.1 r/\AAV o.1 r/\DH r<=1+21*i/\CP r<=1+4010*i/\Fd o.1.Flash (20*i))/\o.1.Store.Next<=1+i)
  (λa=>∃d cc r,a=(d.Flash.Blocks,d.Store.Vols,d.Store.Arena.Knots,d.Store.Next,d.Seq,d.Tx,d.Base,BN.b_ cc,cc.i_,cc.h_)/\LO cc/\IC d r/\d.Store.Next<=13/\Ext d r)
  (λo i hi hs=>by
   obtain⟨e,cu⟩:=o;obtain⟨k1,⟨r,k2,kx,kt,kq,kw⟩,k3⟩:=hs;simp only at k1 k2 k3 kx kw;have f:Ay.mk (Flash.mk e.Flash.Blocks) (Store.mk e.Store.Vols (Arena.mk e.Store.Arena.Knots) e.Store.Next) e.Seq e.Tx e.Base=e:=rfl;simp only[Ia];rw[f];obtain⟨w,c3,w1,w2,w3⟩:=NA (Nx k1) (n:=12) (by omega);rw[show((12:Nat):Int)=12 from rfl]at w1;rw[w1];simp only[Aa];by_cases b:(i:Int)<(w:Int)
   ·rw[Ad b,Ae];obtain⟨q,c4,q1,q2,q3⟩:=ADo w2 e k2.dev.st.len λv hv=>kx.ids (v.Id,Ff e.Store.Arena.Knots v.Root)<|A9.2 ⟨v,hv,rfl⟩;rw[q1];simp only[Aa];obtain⟨d',steps,t,no,r',s1,s2,s3,s4,s5,s6,s7⟩:=AB7 k2 (λx hx=>by have:=kw x hx;omega) q;rw[s1,Aa,ad1];exact .inl ⟨(d',c4),rfl,q2,⟨r',s2,kx.step q3 (by omega) s5 s6,by have:=s5.2.1;omega,by have:=s5.2.2;omega,λx hx=>by have:=s7 _ kw x hx;omega⟩,by grind⟩
   rw[Ah b,Ac]
   exact .inr ⟨_,rfl,e,c3,r,rfl,w2,k2,by omega,⟨kx,by omega,by omega,λx hx=>by have:=kw x hx;omega⟩⟩)
  (λo hs=>by
   obtain⟨e,cu⟩:=o;obtain⟨k1,⟨r,k2,kx,kt,kq,kw⟩,k3⟩:=hs;simp only at k1 k2 k3 kx kw;simp only[Ia];obtain⟨w,c3,w1,w2,w3⟩:=NA (Nx k1) (n:=12) (by omega);rw[show((12:Nat):Int)=12 from rfl]at w1;rw[show((12:Nat):Int)=12 from rfl,w1,Aa,cF]
   exact⟨_,rfl,e,c3,r,rfl,w2,k2,by omega,⟨kx,by omega,by omega,λx hx=>by have:=kw x hx;omega⟩⟩) (s:=(d0,c1)) ⟨a2,⟨[],b2,⟨λp hp=>(by grind),λy hy=>by cases hy⟩,by simp[DH],by simp[CP],λx hx=>by grind⟩,by grind⟩
 rw[h1,h2];exact⟨d,cc,r,rfl,h3,h4,h5,h6⟩
theorem kY (h:code.length<=1048576):∃d r,Nk code=some d/\IC d r/\d.Store.Next<=13/\Ext d r:=by
 unfold Nk;obtain⟨c,c1,c2⟩:=ACH h;obtain⟨d,c',r,d1,d2,d3,d4⟩:=nG c2
 grind
theorem gD (d:Ay) (h:dH d.Flash r) (hs:JC d.Store<=1048576) (id:Int) (k:Nat) (hk:k<16):∃u ok,Fy r d.Store id (k:Int)=some (u,ok)/\PA d id (k:Int)=some (u,ok):=by
 unfold JC Y1 at hs;have hl:=R1 (z:=UI) (l:=d.Store.Arena.Knots);have ha:QZ d.Store.Arena:=by unfold QZ;omega
 unfold Fy PA;obtain⟨v,h1,h2,h3⟩:=UL d.Store id (by omega);rw[h1,h2];simp only[Aa]
 cases decide (v<0)with
 |true=>grind
 |false=>
  simp only[Ac];obtain⟨c,c1,c2⟩:=sN d.Store (by omega) ha id k hk;rw[c1,c2];simp only[Aa]
  cases c==0 with
  |true=>grind
  |false=>
   simp only[Ac];obtain⟨u,ok,t1,t2⟩:=VZ h c
   grind
theorem WR (d:Ay) (hz:Ow d<=1048576):∃m,Hy d=some m/\EZ d=some m:=by
 unfold Ow at hz;obtain⟨r,hr⟩:=kP d.Flash (by omega);have hs:JC d.Store<=1048576:=by omega
 have hv:d.Store.Vols.length<=1048576:=by unfold JC at hs;omega
 unfold Hy EZ;rw[hr.s];simp only[Aa];obtain⟨m,h1,h2,_⟩:=NW (body:=λs:List Shelf×Int=>DG d r s.1 s.2) (body':=λs:List Shelf×Int=>FG d s.1 s.2) (λ(o:List Shelf) i=>(o,i)) (λ(o:List Shelf) i=>(o,i)) d.Store.Vols.length (λi o=>o.length=i) (λ_=>True)
  (λo i hi ho=>by
   have hg:d.Store.Vols[i]?=some d.Store.Vols[i]:=Ab hi;simp only[DG,FG,IX,Ad hi,Ae,Ar,hg,Aa];obtain⟨l,q1,q2,q3⟩:=NW (body:=λs:Int×List ByteArray=>FB d r d.Store.Vols[i] s.1 s.2) (body':=λs:Int×List ByteArray=>Hu d d.Store.Vols[i] s.1 s.2) (λ(o:List ByteArray) k=>(k,o)) (λ(o:List ByteArray) k=>(k,o)) 16 (λk o=>o.length=k) (λ_=>True)
    (λu k hk hu=>by
     obtain⟨t,ok,g1,g2⟩:=gD d hr hs d.Store.Vols[i].Id k hk;simp only[FB,Hu];rw[Ad (by omega:(k:Int)<16),Ae,Ae,g1,g2,Aa,BC (by grind),ad1]
     exact .inl ⟨_,rfl,rfl,by grind⟩)
    (λu hu=>⟨u,by rfl,by rfl,trivial⟩) (s:=[]) rfl
   rw[q1,q2,Aa,BC (by grind),ad1]
   grind)
  (λo ho=>⟨o,by simp only[DG,IX,EP,HI,Ac],by simp only[FG,IX,EP,HI,Ac],trivial⟩) (s:=[]) rfl
 grind
theorem wX (h:C1 s):JC s<=1048576:=by
 have h1:=h.len;have h2:=h.small;have a:∀l:List By,(∀k∈l,k.Kids.length=4)->(l.map UI).sum=4*l.length:=by
  intro l
  induction l with
  |nil=>intro _;rfl
  |cons k l ih=>
   intro hl;rw[Cx,MQ,ih (λx hx=>hl x<|by simp[hx]),A8];have:=hl k (by simp);unfold UI;omega
 have:=a s.Arena.Knots (λk hk=>by
  obtain⟨i,hi,rfl⟩:=A6 hk;have:=(G8.1 h.ar i hi).1;rw[NY hi]at this
  exact this)
 unfold JC Y1 zl;omega
theorem rA (h:IC d r) (vol:Int) (hk:k<16):PA d vol (k:Int)=Fy r d.Store vol (k:Int):=by
 obtain⟨u,ok,h1,h2⟩:=gD d h.dev.scan (wX h.dev.st) vol k hk;rw[h1,h2]
theorem ZO (h:C1 s) {live:List Int} (hl:FC s=some live):KJ s=some live:=by
 obtain⟨l,e1,e2,_,_⟩:=WS s (by have:=h.len;omega)<|kF h
 grind
theorem o9 (h:H5 d r) {live:List Int} (hl:FC d.Store=some live) (l2:asc live) (l4:live.length<=16777216) (a b:Int):Za d.Flash d.Store a b=some ((cn r.length (λj=>(Cy r live a)[j]?.getD false&&bk r b j):Nat):Int)/\Ht d.Flash d.Store a b=some ((cn r.length (λj=>(Cy r live a)[j]?.getD false&&bk r b j):Nat):Int):=by
 obtain⟨n,n1,n2⟩:=XF h.scan d.Store (ZO h.st hl) l2 l4 a b;have c:=Zs r (Cy r live a) b h.scan.len<|JW _ _ _;have e:Cy r live a=live.foldl (cL r) (r.map<|Dn a):=rfl;rw[e]at c;rw[n1]at c
 injection c with c
 refine⟨?_,by rw[n2,c];rfl⟩;unfold Za;rw[h.scan.s,hl];simp only[Aa];rw[Nm r live _ h.scan.len l4]
 grind
theorem ABR (h:H5 d r) (hy:y∈r):Jo y.Page:=by
 obtain⟨b,x,g1,g2,_,g3⟩:=h.scan.page y hy;obtain⟨_,k1⟩:=CM g1;obtain⟨_,k2⟩:=CM g2;have hx:=h.fl.text b (Au k1) x<|Au k2;obtain⟨p,ok,m1,_,_,m2⟩:=I9 x.Text (by omega);rw[g3]at m1
 injection m1 with m1
 injection m1 with m1 m3
 obtain⟨v,q1,q2⟩:=TU p
 grind
theorem AEp (hc:JI g) (ss:List AS) (hs:ss.length<=1000) (p:Page) (b:Int):
  (∃s g',DJ g ss p=some (g',ss++ [s],true)/\JI g'/\CQ (Gj.mk g ss) p b=some (if(s.Block==b)=true then(false,Gj.mk g ss)else(true,Gj.mk g' (ss++ [s]))))\/
  (∃g' st,DJ g ss p=some (g',st,false)/\∃w,CQ (Gj.mk g ss) p b=some (false,w)):=by
 obtain⟨t,ok,t1,t2⟩:=XC p;obtain⟨bb,l,room,p1,p2,p3⟩:=bF g hc;unfold DJ CQ;rw[t1,t2,p1,p2];simp only[Aa]
 cases ok with
 |false=>simp
 |true=>
  cases room with
  |false=>simp
  |true=>
   obtain⟨g2,v,g1,g3,g4⟩:=WU g (AS.mk 1 bb l t) hc;have a:JI g2:=by
    rcases g4 with⟨_,rfl⟩|⟨_,g4⟩
    ·exact hc
    exact g4.cap
   simp only[Ag,Ac,Aa,g1,g3];rw[BC<|by grind]
   cases v with
   |true=>
    refine .inl ⟨AS.mk 1 bb l t,g2,rfl,a,?_⟩
    cases hb:(bb==b)with
    |true=>rfl
    |false=>rfl
   |false=>
    refine .inr ⟨g2,_,rfl,?_⟩
    cases hb:(bb==b)with
    |true=>grind
    |false=>simp
abbrev MvS:=Int×List AS×List Block
def cK (sq:Int) (y:Aq):Page:=Page.mk 1 sq y.Page.Tx 0 1 y.Page.Text
noncomputable def mv (b:Int):List Aq->MvS->Option (Option MvS)
 |[],o=>some (some o)
 |y::ys,o=>(DJ (Flash.mk o.2.2) o.2.1 (cK o.1 y)).bind λv=>if v.2.2=true then(match v.2.1.getLast? with
  |some s=>if(s.Block==b)=true then some none else mv b ys (o.1+1,v.2.1,v.1.Blocks)
  |none=>some none)else some none
theorem zU (b:Int):∀(xs ys:List Aq) (o:MvS),mv b (xs++ys) o=(mv b xs o).bind λq=>match q with
  |some o'=>mv b ys o'
  |none=>some none
 |[],ys,o=>rfl
 |x::xs,ys,o=>by
  simp only[B8,mv]
  cases DJ (Flash.mk o.2.2) o.2.1 (cK o.1 x)with
  |none=>rfl
  |some v=>
   simp only[Aa];split
   ·split
    ·split
     ·rfl
     exact zU b xs ys _
    rfl
   rfl
def MvI (m:Nat) (o:MvS):Prop:=JI (Flash.mk o.2.2)/\o.2.1.length<=m/\0<=o.1/\o.1<=1000000001+m
theorem qR {b:Int} {o:MvS} (h:MvI m o) (hm:m<=1000):
  (∃s g',DJ (Flash.mk o.2.2) o.2.1 (cK o.1 y)=some (g',o.2.1++ [s],true)/\(s.Block==b)=false/\(∀ys,mv b (y::ys) o=mv b ys (o.1+1,o.2.1++ [s],g'.Blocks))/\MvI (m+1) (o.1+1,o.2.1++ [s],g'.Blocks)/\CQ (Gj.mk (Flash.mk o.2.2) o.2.1) (cK o.1 y) b=some (true,Gj.mk g' (o.2.1++ [s])))\/
  ((∀ys,mv b (y::ys) o=some none)/\(∃w,CQ (Gj.mk (Flash.mk o.2.2) o.2.1) (cK o.1 y) b=some (false,w))/\((∃s g',DJ (Flash.mk o.2.2) o.2.1 (cK o.1 y)=some (g',o.2.1++ [s],true)/\(s.Block==b)=true)\/∃g' st,DJ (Flash.mk o.2.2) o.2.1 (cK o.1 y)=some (g',st,false))):=by
 obtain⟨h1,h2,h3,h4⟩:=h
 rcases AEp h1 o.2.1 (by omega) (cK o.1 y) b with⟨s,g',a1,a2,a3⟩|⟨g',st,a1,w,a2⟩
 ·cases hb:(s.Block==b)with
  |true=>
   rw[hb]at a3;exact .inr ⟨λys=>by simp only[mv,a1,Aa,BX,List.getLast?_concat,hb],⟨_,a3⟩,.inl ⟨s,g',a1,hb⟩⟩
  |false=>
   rw[hb]at a3;refine .inl ⟨s,g',a1,hb,λys=>by simp only[mv,a1,Aa,BX,List.getLast?_concat,hb,CL,FN],⟨a2,?_,?_,?_⟩,by rw[a3];rfl⟩
   ·grind
   ·omega
   omega
 exact .inr ⟨λys=>by simp[mv,a1],⟨w,a2⟩,.inr ⟨g',st,a1⟩⟩
theorem zT {b:Int}:∀(xs:List Aq) {m:Nat} {o:MvS},MvI m o->m+xs.length<=1000->∃v,mv b xs o=some v/\∀o',v=some o'->MvI (m+xs.length) o'
 |[],m,o,h,_=>⟨some o,rfl,λo' e=>by grind⟩
 |x::xs,m,o,h,hm=>by
  rw[A8]at hm
  rcases qR (b:=b) (y:=x) h (by omega)with⟨s,g',a1,a2,a3,a4,a5⟩|⟨a1,_⟩
  ·obtain⟨v,v1,v2⟩:=zT xs a4 (by omega);exact⟨v,by rw[a3,v1],λo' e=>by grind⟩
  exact⟨none,a1 xs,λo' e=>by cases e⟩
def Lk (b i:Int) (nd:List Bool) (r:List Aq):List Aq:=((nd.zip r).filter λq=>q.1&&(q.2.Block==b)&&(q.2.Leaf==i)).map Prod.snd
theorem tF (hr:r.length<=40) (hk:∀y∈r,y.Page.Kind=1->y.Page.Count=1/\y.Page.Part=0) (d:nd.length=r.length) (hn:∀(j:Nat) y,r[j]?=some y->nd[j]?=some true->y.Page.Kind=1) (b i:Int):∀(n j:Nat),j+n=r.length->∀{m:Nat} {o:MvS},MvI m o->m+n<=1000->
  Ao (λs:List AS×Int×Int×List Block=>EJ b r nd i s.1 s.2.1 s.2.2.1 s.2.2.2) (o.2.1,o.1,(j:Int),o.2.2)=(mv b (Lk b i (nd.drop j) (r.drop j)) o).map λq=>match q with
   |some o'=> .inl (o'.2.1,o'.1,o'.2.2)
   |none=> .inr (.inr (.inr ([],false)))
 |0,j,hj,m,o,ho,hm=>by
  rw[Aw];simp only[EJ,IX];rw[cF,List.drop_of_length_le (by omega),List.drop_of_length_le (by omega)];rfl
 |n+1,j,hj,m,o,ho,hm=>by
  have a:j<r.length:=by omega
  have hx:=Ab a;have c:=Ab (show j<nd.length by omega);have hd:nd.drop j=nd[j]::nd.drop (j+1):=AL (by omega);have e:r.drop j=r[j]::r.drop (j+1):=AL a
  have go:∀{m':Nat} {o':MvS},MvI m' o'->m'+n<=1000->_:=λ{m' o'} h1 h2=>tF hr hk d hn b i n (j+1) (by omega) (m:=m') (o:=o') h1 h2
  rw[Aw];simp only[EJ,Eh a,Ar,hx,c,Aa];rw[ad1,hd,e];have es:Lk b i (nd[j]::nd.drop (j+1)) (r[j]::r.drop (j+1))=if(nd[j]&&(r[j].Block==b)&&(r[j].Leaf==i))=true then r[j]::Lk b i (nd.drop<|j+1) (r.drop<|j+1)else Lk b i (nd.drop<|j+1) (r.drop<|j+1):=by
   simp only[Lk,List.zip_cons_cons,List.filter_cons];split<;>simp
  rw[es]
  cases f:nd[j]with
  |false=>
   simp only[AM,Ae,Aa,Bool.false_and,CL,FN];exact go ho<|by omega
  |true=>
   simp only[Ag,Ac,Ke]
   cases hb:(r[j].Block==b)with
   |false=>
    simp only[bne,hb,AM,Ae,Aa,Bool.false_and,CL,FN];exact go ho<|by omega
   |true=>
    simp only[bne,hb,Ag,Ac,Aa,Ke]
    cases g:(r[j].Leaf==i)with
    |false=>
     simp only[AM,Ae,CL,FN];exact go ho<|by omega
    |true=>
     simp only[Ag,Ac,BX];have h1:=hn j r[j] hx (by rw[c,f]);obtain⟨h2,h3⟩:=hk r[j] (Az a) h1;have ep:Page.mk r[j].Page.Kind o.1 r[j].Page.Tx r[j].Page.Part r[j].Page.Count r[j].Page.Text=cK o.1 r[j]:=by rw[h1,h2,h3];rfl
     rw[ep];obtain⟨c1,c2,c3,c4⟩:=ho
     rcases qR (b:=b) (y:=r[j]) ⟨c1,c2,c3,c4⟩ (by omega)with⟨s,g',a1,a2,a3,a4,_⟩|⟨a1,_,⟨s,g',a2,a3⟩|⟨g',st,a2⟩⟩
     ·rw[a1,a3];simp only[Aa,Ag,Ac];rw[Bq,Ak,Bf,Ch,show((o.2.1.length+1:Nat):Int)-1=(o.2.1.length:Int) by omega,Ft];simp only[Aa,a2,Ac];rw[Cs];exact go a4<|by omega
     ·rw[a2,a1];simp only[Aa,Ag,Ac];rw[Bq,Ak,Bf,Ch,show((o.2.1.length+1:Nat):Int)-1=(o.2.1.length:Int) by omega,Ft]
      grind
     grind
theorem Y3 (k:IntKind) (n:Nat) (h:n<=12) (hk:k= .u8\/k= .u64):k.wrap (n:Int)=(n:Int):=by
 have:n=0\/n=1\/n=2\/n=3\/n=4\/n=5\/n=6\/n=7\/n=8\/n=9\/n=10\/n=11\/n=12:=by omega
 rcases hk with rfl|rfl<;>rcases this with rfl|rfl|rfl|rfl|rfl|rfl|rfl|rfl|rfl|rfl|rfl|rfl|rfl<;>rfl
set_option maxRecDepth 20000 in
theorem dE (n:Nat) (h:n<=12):∃v,W0 (IntKind.u64.wrap (n:Int))=some v:=by
 rw[Y3 _ n h<|.inr rfl];unfold W0 Z4;generalize hT:(bs _)=T;have a:13<=(L T).length:=by rw[<-hT,EO];decide
 rw[cF,Aa,cF,Aa,cF,Aa,Y3 _ n h<|.inl rfl,Fg (i:=n) _<|by omega];exact⟨_,rfl⟩
theorem eB {γ:Type} (a:γ->Int) (l:List γ) (hl:l.length<=12):∃r,Li (N6 a) l=some r/\srt a r/\BS a l r:=by
 obtain⟨v,hv⟩:=dE l.length hl;obtain⟨r,h1,h2,h3⟩:=IN a [] l [] (by simp;omega);refine⟨r,?_,h2,h3⟩;unfold Li;rw[Bq,hv];simp only[Aa];unfold ET;rw[Aw];simp only[Gl];rw[Ch,cT]
 grind
def kE (l:List Aq):Prop:=l.Pairwise λx y=>x.Page.Tx≠y.Page.Tx
theorem aA {l:List Aq} {p:Aq->Bool} (hl:kE l) (hu:∀x∈l,∀y∈l,p x=true->p y=true->x=y) (hy:y∈l) (hp:p y=true):l.filter p=[y]:=by
 induction l with
 |nil=>cases hy
 |cons x l ih=>
  have h1:=Cr.1 hl
  have hu':∀a∈l,∀c∈l,p a=true->p c=true->a=c:=λa ha c hc=>hu a (La _ ha) c<|La _ hc
  cases hx:p x with
  |true=>
   have e:x=y:=hu x (by simp) y hy hx hp;subst e;rw[D3 hx,Bk.2]
   grind
  |false=>
   rw[Ex<|by simp[hx]]
   rcases DE.1 hy with rfl|hy
   ·grind
   exact ih h1.2 hu' hy
theorem yK {c:List Aq} (ha:kE a) (hc:kE c) (hm:∀y,y∈a↔y∈c) (hu:∀x∈a,∀y∈a,x.Leaf=y.Leaf->x=y):BS BA a c:=by
 intro k
 have e1:∀x,(BA x==k)=true↔x.Leaf=k:=λx=>by rw[C3];rfl
 by_cases h:∃y∈a,y.Leaf=k
 ·obtain⟨y,y1,y2⟩:=h
  rw[aA ha (λx hx z hz p q=>hu x hx z hz<|by grind) y1<|(e1 y).2 y2,
   aA hc (λx hx z hz p q=>hu x ((hm x).2 hx) z ((hm z).2 hz)<|by grind) ((hm y).1 y1) ((e1 y).2 y2)]
 rw[Bk.2 λx hx p=>h ⟨x,hx,(e1 x).1 p⟩,Bk.2 λx hx p=>h ⟨x,(hm x).2 hx,(e1 x).1 p⟩]
def HN (r:List Aq) (b:Int) (live:List Int):List Aq:=live.filterMap λc=>match Pq c r r.length with
 |some j=>if bk r b j=true then r[j]? else none
 |none=>none
theorem Wk (r:List Aq) (b:Int) (a:List Int) (c:Int):HN r b (a++ [c])=HN r b a++HN r b [c]:=by unfold HN;grind
theorem ABe (h:dH f r) {live:List Int} (a:KJ s=some live) (hl:live.length<=16777216) (b:Int):SO f s b=some (HN r b live):=by
 unfold SO;rw[a];simp only[Aa];obtain⟨u,h1,h2⟩:=AJ (body:=λq:List Aq×Int=>Hq f b live q.1 q.2) (λ(u:List Aq) i=>(u,i)) live.length (λi u=>u=HN r b (live.take i)) (λu=>u=HN r b live)
  (λu i hi hu=>by
   have hg:live[i]?=some live[i]:=Ab hi;obtain⟨o,o1,o2⟩:=WG f r h.i h.len h.srt live[i];have ho:o=Pq live[i] r r.length:=W4 o2<|Pp _ _ _<|Ax _;have d:u.length<=i:=by
    rw[hu];have:=List.length_filterMap_le (λc=>match Pq c r r.length with|some j=>if bk r b j=true then r[j]? else none|none=>none)<|live.take i;rw[BK]at this;unfold HN;omega
   have et:live.take (i+1)=live.take i++ [live[i]]:=by simp
   refine .inl ?_;simp only[Hq,Eh hi,Ar,hg,Aa,o1]
   cases ht:Pq live[i] r r.length with
   |none=>
    rw[ht]at ho;subst ho;simp only[F7,Ac,Aa];rw[ad1];refine⟨_,rfl,?_⟩;rw[et,Wk,<-hu];simp[HN,ht]
   |some j=>
    rw[ht]at ho;subst ho;obtain⟨hj,_⟩:=ND (Ax _) ht;have hr:=Ab hj;simp only[Tu,Ae,Aa,KO]
    cases hb:bk r b j with
    |true=>
     have hb':((r[j]?.getD Pf).Block==b)=true:=hb;rw[hb'];simp only[Ae];rw[BC (by grind),ad1];refine⟨_,rfl,?_⟩;rw[et,Wk,<-hu];simp[HN,ht,hb,hr]
    |false=>
     have hb':((r[j]?.getD Pf).Block==b)=false:=hb;rw[hb'];simp only[Ac];rw[ad1];refine⟨_,rfl,?_⟩;rw[et,Wk,<-hu]
     simp[HN,ht,hb])
  (λu hu=>⟨u,by simp only[Hq,DN],by grind⟩) (s:=[]) (by simp[HN])
 rw[h1,h2];rfl
theorem S8 {b:Int} {live:List Int} (hy:y∈HN r b live):∃c∈live,∃j,Pq c r r.length=some j/\r[j]?=some y/\y.Block=b/\y.Page.Kind=1/\y.Page.Tx=c:=by
 obtain⟨c,c1,c2⟩:=List.mem_filterMap.1 hy
 cases ht:Pq c r r.length with
 |none=>grind
 |some j=>
  rw[ht]at c2;simp only at c2;split at c2
  ·rename_i hb;obtain⟨_,z,z1,z2⟩:=ND (Ax _) ht;rw[z1]at c2
   injection c2 with c2
   subst c2;simp only[bk,z1,AY,C3]at hb;simp only[IM,Ai,C3]at z2
   grind
  cases c2
theorem d9 (r:List Aq) (b:Int):∀{live:List Int},live.Nodup->kE (HN r b live)
 |[],_=>List.Pairwise.nil
 |c::live,h=>by
  obtain⟨h1,h2⟩:=CS.1 h;have ih:=d9 r b h2;unfold HN;rw[List.filterMap_cons];split
  ·exact ih
  rename_i y hy;refine Cr.2 ⟨λz hz e=>?_,ih⟩;obtain⟨c',q1,j,q2,q3,q4,q5,q6⟩:=S8 (r:=r) (b:=b) (live:=live) hz
  obtain⟨c'',p1,j2,p2,p3,p4,p5,p6⟩:=S8 (r:=r) (b:=b) (live:=[c]) (y:=y) (by
   unfold HN
   grind)
  grind
def Pt (b:Int) (nd:List Bool) (r:List Aq):List Aq:=Lk b 0 nd r++(Lk b 1 nd r++(Lk b 2 nd r++Lk b 3 nd r))
theorem Ve {b i:Int}:y∈Lk b i nd r↔(∃j:Nat,r[j]?=some y/\nd[j]?=some true)/\y.Block=b/\y.Leaf=i:=by
 unfold Lk;simp only[A9,Bc,Ai,C3];constructor
 ·rintro⟨⟨n,z⟩,⟨h1,⟨h2,h3⟩,h4⟩,rfl⟩;obtain⟨j,hj⟩:=List.getElem?_of_mem h1;rw[List.getElem?_zip_eq_some]at hj
  grind
 rintro⟨⟨j,h1,h2⟩,h3,h4⟩;exact⟨(true,y),⟨Au<|List.getElem?_zip_eq_some.2 ⟨h2,h1⟩,⟨rfl,h3⟩,h4⟩,rfl⟩
theorem lQ (hn:∀(j:Nat) y,r[j]?=some y->nd[j]?=some true->Pq y.Page.Tx r r.length=some j) (b i:Int):kE (Lk b i nd r):=by
 unfold Lk kE;rw[Ou]
 have h0:(nd.zip r).Pairwise λp q=>p.1=true->q.1=true->p.2.Page.Tx≠q.2.Page.Tx:=by
  rw[Df];intro x y hx hy a p q e;have a1:=(List.getElem?_zip_eq_some (l₁:=nd) (l₂:=r)).1<|Ab hx;have a2:=(List.getElem?_zip_eq_some (l₁:=nd) (l₂:=r)).1<|Ab hy
  grind
 have h1:=h0.filter λq=>q.1&&(q.2.Block==b)&&(q.2.Leaf==i);refine(List.pairwise_iff_forall_sublist.2 λ{p q} hs=>?_)
 grind
def uZ (b:Int) (nd:List Bool) (r:List Aq):Nat->Nat->List Aq
 |0,_=>[]
 |n+1,i=>Lk b (i:Int) nd r++uZ b nd r n (i+1)
theorem yI (b i:Int) (nd:List Bool) (r:List Aq):(Lk b i nd r).length<=r.length:=by
 unfold Lk
 grind
theorem tE (hr:r.length<=40) (hk:∀y∈r,y.Page.Kind=1->y.Page.Count=1/\y.Page.Part=0) (c:nd.length=r.length) (hn:∀(j:Nat) y,r[j]?=some y->nd[j]?=some true->y.Page.Kind=1) (b:Int):∀(n i:Nat),i+n=4->∀{m:Nat} {o:MvS},MvI m o->m+n*40<=1000->
  Ao (λs:List AS×Int×Int×List Block=>F9 b r nd s.1 s.2.1 s.2.2.1 s.2.2.2) (o.2.1,o.1,(i:Int),o.2.2)=(mv b (uZ b nd r n i) o).map λq=>match q with
   |some o'=> .inl o'.2.1
   |none=> .inr ([],false)
 |0,i,hi,m,o,ho,hm=>by
  rw[Aw];simp only[F9];rw[cF];rfl
 |n+1,i,hi,m,o,ho,hm=>by
  rw[Aw];simp only[F9];rw[cT];have a:=tF hr hk c hn b (i:Int) r.length 0 (by omega) ho (by omega);simp only[List.drop_zero]at a;rw[show((0:Nat):Int)=0 from rfl]at a;rw[a];have d:=yI b (i:Int) nd r;obtain⟨v,v1,v2⟩:=zT (b:=b) (Lk b (i:Int) nd r) ho (by omega);have es:uZ b nd r (n+1) i=Lk b (i:Int) nd r++uZ b nd r n (i+1):=rfl;rw[es,zU,v1]
  cases v with
  |none=>rfl
  |some o'=>
   simp only[Bw,Aa,Bv];rw[ad1];exact tE hr hk c hn b n (i+1) (by omega) (v2 o' rfl)<|by omega
theorem uI (d:Ay) (b:Int) (X:List Aq) (hX:X.length<=100) (hd:0<=d.Seq/\d.Seq<=1000000001):∀(n i:Nat),i+n=X.length->∀{m:Nat} {o:MvS},MvI m o->m+n<=1000->o.1=d.Seq+i->
  Ao (λs:Int×List Block×List AS=>I4 d b X s.1 s.2.1 s.2.2) ((i:Int),o.2.2,o.2.1)=(mv b (X.drop i) o).map λq=>match q with
   |some o'=> .inl (o'.2.2,o'.2.1)
   |none=> .inr ([],false)
 |0,i,hi,m,o,ho,hm,hs=>by
  rw[Aw];simp only[I4,IX];rw[cF,List.drop_of_length_le (by omega)];rfl
 |n+1,i,hi,m,o,ho,hm,hs=>by
  have a:i<X.length:=by omega
  have hx:=Ab a;rw[Aw];simp only[I4,Eh a,Ar,hx,Aa];rw[Cs,<-hs,AL a];have ep:Page.mk 1 o.1 X[i].Page.Tx 0 1 X[i].Page.Text=cK o.1 X[i]:=rfl;rw[ep]
  rcases qR (b:=b) (y:=X[i]) ho (by omega)with⟨s,g',a1,a2,a3,a4,a5⟩|⟨a1,⟨w,a2⟩,_⟩
  ·rw[a5,a3];simp only[Aa,Ag,Ac];rw[ad1];exact uI d b X hX hd n (i+1) (by omega) a4 (by omega)<|by omega
  grind
theorem eV {x:Aq} (h:H5 d r) (hx:x∈r) (hy:y∈r) (hb:x.Block=y.Block) (hl:x.Leaf=y.Leaf):x=y:=by
 obtain⟨b,l,g1,g2,_,g3⟩:=h.scan.page x hx;obtain⟨b',l',k1,k2,_,k3⟩:=h.scan.page y hy;rw[hb,k1]at g1
 injection g1 with g1
 subst g1;rw[hl,k2]at g2
 injection g2 with g2
 subst g2;rw[k3]at g3
 injection g3 with g3
 injection g3 with g3 _
 cases x;cases y
 grind
theorem vQ (h:H5 d r) (hy:y∈r):0<=y.Leaf/\y.Leaf<4:=by
 obtain⟨b,l,g1,g2,_,g3⟩:=h.scan.page y hy;obtain⟨_,k1⟩:=CM g1;obtain⟨q0,k2⟩:=CM g2;have:=(h.fl.blk b<|Au k1).four
 grind
theorem bG (h:H5 d r) (m:r.length<=40) {live:List Int} (l1:FC d.Store=some live) (l2:asc live) (l3:∀x,x∈live↔Ea (AR d.Store) x) (l4:live.length<=16777216) (b:Int):
  ∃v,mv b (Pt b (Cy r live 1000000001) r) (d.Seq,[],d.Flash.Blocks)=some v/\Hc d b=some (match v with|some o=>(o.2.1,true)|none=>([],false))/\M6 d b=some (match v with|some o=>(o.2.1,true)|none=>([],false))/\
  (Pt b (Cy r live 1000000001) r).length=(HN r b live).length/\(Pt b (Cy r live 1000000001) r).length<=4/\∀y,y∈Pt b (Cy r live 1000000001) r↔y∈HN r b live:=by
 have n:=h.pages;have w:1<=d.Seq/\d.Seq<=1000000001:=by
  rw[h.seq];have h1:=NJ r;refine⟨h1.2.1,h1.2.2 _ (by omega) λy hy=>?_⟩;have:=(n.seq y hy).2;omega
 have hk:∀y∈r,y.Page.Kind=1->y.Page.Count=1/\y.Page.Part=0:=by
  intro y hy k1;obtain⟨_,_,_,c1,c2,_,c3⟩:=ABR h hy;omega
 have hn:∀(j:Nat) y,r[j]?=some y->(Cy r live 1000000001)[j]?=some true->y.Page.Kind=1:=λj y hy hj=>(Zx h l3 hy hj).1
 have f:∀(j:Nat) y,r[j]?=some y->(Cy r live 1000000001)[j]?=some true->Pq y.Page.Tx r r.length=some j/\y.Page.Tx∈live:=by
  intro j y hy hj;rw[P2 r live _ hy]at hj
  injection hj with hj
  rw[CE]at hj
  rcases hj with hj|hj
  ·simp only[Dn,Ai,C3,A3]at hj;have:=(n.tx y<|Au hy).2;omega
  rw[CW]at hj;obtain⟨c,c1,c2⟩:=hj;have c2':Pq c r r.length=some j:=by simpa using c2
  obtain⟨_,z,z1,z2⟩:=ND (Ax _) c2';rw[hy]at z1
  injection z1 with z1
  subst z1;simp only[IM,Ai,C3]at z2
  grind
 have hm:∀y,y∈Pt b (Cy r live 1000000001) r↔y∈HN r b live:=by
  intro y;have e1:y∈Pt b (Cy r live 1000000001) r↔(∃j:Nat,r[j]?=some y/\(Cy r live 1000000001)[j]?=some true)/\y.Block=b:=by
   unfold Pt;simp only[Ap,Ve];constructor
   ·grind
   rintro⟨⟨j,q1,q2⟩,q3⟩;have:=vQ h<|Au q1
   grind
  rw[e1];constructor
  ·rintro⟨⟨j,q1,q2⟩,q3⟩;obtain⟨q4,q5⟩:=f j y q1 q2;refine List.mem_filterMap.2 ⟨y.Page.Tx,q5,?_⟩;rw[q4];simp[bk,q1,q3]
  intro hy;obtain⟨c,c1,j,c2,c3,c4,c5,c6⟩:=S8 hy;refine⟨⟨j,c3,?_⟩,c4⟩;rw[P2 r live _ c3,Aj,CE]
  grind
 have p:∀y∈HN r b live,y∈r/\y.Block=b:=λy hy=>by
  obtain⟨c,c1,j,c2,c3,c4,c5,c6⟩:=S8 hy
  grind
 have q:∀x∈HN r b live,∀y∈HN r b live,x.Leaf=y.Leaf->x=y:=λx hx y hy e=>eV h (p x hx).1 (p y hy).1 (by grind) e
 have t:∀i:Int,∀y∈Lk b i (Cy r live 1000000001) r,y∈r/\y.Block=b/\y.Leaf=i:=λi y hy=>by
  obtain⟨⟨j,q1,q2⟩,q3,q4⟩:=Ve.1 hy
  grind
 have h5:∀i:Int,(Lk b i (Cy r live 1000000001) r).length<=1:=by
  intro i;have hd:=lQ (λj y hy hj=>(f j y hy hj).1) b i
  rcases hc:Lk b i (Cy r live 1000000001) r with _|⟨x,_|⟨y,l⟩⟩
  ·exact KX 1
  ·exact Ax 1
  have hx:=t i x (by rw[hc];simp);have hy:=t i y (by rw[hc];simp);rw[hc]at hd;exact absurd (eV h hx.1 hy.1 (by rw[hx.2.1,hy.2.1])<|by rw[hx.2.2,hy.2.2]) λe=>(Cr.1 hd).1 y (by simp)<|by rw[e]
 have h0:(Pt b (Cy r live 1000000001) r).length<=4:=by
  unfold Pt
  grind
 have h2:kE (Pt b (Cy r live 1000000001) r):=by
  have hd:∀i:Int,kE (Lk b i (Cy r live 1000000001) r):=λi=>lQ (λj y hy hj=>(f j y hy hj).1) b i
  have cross:∀i k:Int,i≠k->∀x∈Lk b i (Cy r live 1000000001) r,∀y∈Lk b k (Cy r live 1000000001) r,x.Page.Tx≠y.Page.Tx:=by
   intro i k h3 x hx y hy e;obtain⟨⟨j,q1,q2⟩,q3,q4⟩:=Ve.1 hx;obtain⟨⟨j',p1,p2⟩,p3,p4⟩:=Ve.1 hy
   grind
  unfold Pt kE;refine AN.2 ⟨hd 0,AN.2 ⟨hd 1,AN.2 ⟨hd 2,hd 3,cross 2 3<|by decide⟩,?_⟩,?_⟩
  ·grind
  intro x hx y hy
  rcases Ap.1 hy with hy|hy
  ·grind
  grind
 have a:BS BA (HN r b live) (Pt b (Cy r live 1000000001) r):=yK (d9 r b<|gA l2) h2 (λy=>(hm y).symm) q;have u:=a.len;have g:srt BA (Pt b (Cy r live 1000000001) r):=by
  have hc:∀i:Int,srt BA (Lk b i (Cy r live 1000000001) r):=by
   intro i
   refine List.pairwise_of_forall_mem_list λx hx y hy=>?_
   show x.Leaf<=y.Leaf
   grind
  have cross:∀i k:Int,i<=k->∀x∈Lk b i (Cy r live 1000000001) r,∀y∈Lk b k (Cy r live 1000000001) r,BA x<=BA y:=by
   intro i k h3 x hx y hy;show x.Leaf<=y.Leaf
   grind
  unfold Pt srt;refine AN.2 ⟨hc 0,AN.2 ⟨hc 1,AN.2 ⟨hc 2,hc 3,cross 2 3<|by decide⟩,?_⟩,?_⟩
  ·intro x hx y hy
   rcases Ap.1 hy with hy|hy
   ·exact cross 1 2 (by decide) x hx y hy
   exact cross 1 3 (by decide) x hx y hy
  intro x hx y hy
  rcases Ap.1 hy with hy|hy
  ·exact cross 0 1 (by decide) x hx y hy
  rcases Ap.1 hy with hy|hy
  ·exact cross 0 2 (by decide) x hx y hy
  exact cross 0 3 (by decide) x hx y hy
 have I0:MvI 0 (d.Seq,[],d.Flash.Blocks):=⟨h.fl.cap,Ax _,by omega,by omega⟩;obtain⟨v,v1,v2⟩:=zT (b:=b) (Pt b (Cy r live 1000000001) r) I0 (by omega);refine⟨v,v1,?_,?_,u.symm,h0,hm⟩
 ·unfold Hc;rw[h.scan.s,l1];simp only[Aa];rw[Nm r live _ h.scan.len l4];simp only[Aa];have h4:live.foldl (cL r) (r.map<|Dn 1000000001)=Cy r live 1000000001:=rfl;rw[h4];have ho:=tE m hk (JW r live 1000000001) hn b 4 0 (by omega) I0 (by omega);have eF:uZ b (Cy r live 1000000001) r 4 0=Pt b (Cy r live 1000000001) r:=by
   simp[uZ,Pt]
  grind
 unfold M6;rw[ABe h.scan (ZO h.st l1) l4 b];simp only[Aa];obtain⟨X,x1,x2,x3⟩:=eB BA (HN r b live) (by omega);have hX:X=Pt b (Cy r live 1000000001) r:=NG BA x2 g (λk=>by rw[x3 k,<-a k]);rw[x1,hX];simp only[Aa];have ho:=uI d b (Pt b (Cy r live 1000000001) r) (by omega) ⟨by omega,w.2⟩ (Pt b (Cy r live 1000000001) r).length 0 (by omega) I0 (by omega)<|by omega
 grind
theorem AAI (s:Store) (hv:s.Vols.length<=1048576) (id:Int):∃w,Dh s id=some w/\(w<0↔KN (AR s) id=none):=by
 rcases DF s hv id with⟨e,h⟩|⟨k,v,e,h1,h2,_⟩
 ·exact⟨_,e,⟨λ_=>LC.1 h,λ_=>by omega⟩⟩
 refine⟨_,e,⟨λhh=>by omega,λhh=>absurd h2<|LC.2 hh v<|Au h1⟩⟩
theorem AAQ (h:H5 d r) (hn:d.Store.Next<1000000000) (q:PQ):∃b text no,Ep d q=some (b,text,no)/\(b=[]\/∃x p,b=[x]/\CZ (AR d.Store) d.Store.Next x=some p)/\(L text≠ []->q.Kind=1):=by
 have o:=h.st.len;have g:=h.st.nx;obtain⟨v,a1,a2⟩:=Wq q
 have a:∀{P:Prop},L (bs [])≠ []->P:=λhh=>absurd (EO _) hh
 unfold Ep;rw[a1];simp only[Aa]
 cases v with
 |false=>exact⟨_,_,_,rfl,.inl rfl,a⟩
 |true=>
  have hq:=a2 rfl;simp only[Ag,Ac];have k:=hq.kind;obtain⟨w,hw,i⟩:=AAI d.Store (by omega) q.Vol;rw[hw];simp only[Aa];by_cases h34:q.Kind=3\/q.Kind=4
  ·have:(cond (q.Kind==3) (some true) (some<|q.Kind==4):Option Bool)=some true:=by grind
   rw[this];simp only[Aa,Ae];by_cases f:w<0
   ·rw[Ah (by omega:¬w>=0)];simp only[Ac];obtain⟨u,hu,s⟩:=AAI d.Store (by omega) q.Of;obtain⟨j2,l,m⟩:∃j2,(cond (q.Kind==4) ((Dh d.Store q.Of).bind λv3=>some<|decide<|v3<0) (some false):Option Bool)=some j2/\(j2=false->q.Kind=4->KN (AR d.Store) q.Of≠none):=by grind
    rw[l];simp only[Aa]
    cases j2 with
    |true=>exact⟨_,_,_,rfl,.inl rfl,a⟩
    |false=>
     simp only[Ac];rw[Bq];by_cases j:(d.Store.Vols.length:Int)>=3
     ·rw[Ad j];exact⟨_,_,_,rfl,.inl rfl,a⟩
     rw[Ah j];refine⟨_,_,_,rfl,.inr ⟨_,(qX (AR d.Store) q.Vol (if 0<q.Of then(KN (AR d.Store) q.Of).getD Ty else Ty),d.Store.Next),rfl,?_⟩,a⟩;unfold CZ;rw[AA (by rw[ACU hq.vol hq.of_];simp),AA (by simp),AB rfl,AA];simp only[not_or];refine⟨?_,by rw[i.1 f];simp,by rw[I7];omega⟩;rintro⟨e1,e2⟩
     rcases h34 with e|e
     ·have:=hq.no (by omega);omega
     exact m rfl e e2
   rw[Ad (by omega:w>=0)];exact⟨_,_,_,rfl,.inl rfl,a⟩
  have:(cond (q.Kind==3) (some true) (some<|q.Kind==4):Option Bool)=some false:=by grind
  rw[this];simp only[Aa,Ac];by_cases f:w<0
  ·rw[Ah (by omega:¬w>=0)];exact⟨_,_,_,rfl,.inl rfl,a⟩
  rw[Ad (by omega:w>=0)]
  have hg:KN (AR d.Store) q.Vol≠none:=λe=>f<|i.2 e
  have taken:∀x:Ct,GC x=true->x.Kind≠1->x.Kind≠2->x.Vol=q.Vol->x.Chunk<1000000000->∃p,CZ (AR d.Store) d.Store.Next x=some p:=by
   intro x x1 x2 x3 x4 x5;unfold CZ;have x6:¬(KN (AR d.Store) x.Vol=none\/x.Chunk=1000000000):=by grind
   rw[AA (by rw[x1];simp),AA x2,AA x3,AA x6];split<;>exact⟨_,rfl⟩
  simp only[Ag,Ac]
  cases k1:(q.Kind==1)with
  |true=>
   simp only[Ae];have k1':q.Kind=1:=by simpa using k1
   obtain⟨live,l1,l2,l3,l4⟩:=Hm h.st;obtain⟨c,f1,f2⟩:=Rh h l4 q.Text;rw[l1,Aa,f1];simp only[Aa]
   rcases f2 with⟨rfl,f2⟩|⟨f2,f3⟩
   ·obtain⟨z,z1,z2,z3⟩:=oX q.Text hq.text;rw[show((0:Int)==0)=true from rfl,z1];obtain⟨p,hp⟩:=taken (Ct.mk 4 q.Vol q.Sector d.Store.Next) (yW hq.vol (by have:=hq.sec;omega) ⟨g.1,g.2⟩) (by simp) (by simp) rfl hn;exact⟨_,_,_,rfl,.inr ⟨_,_,rfl,hp⟩,λ_=>k1'⟩
   have n:=(l3 c).1 f2;have t:=Yj h.st n;rw[show(c==0)=false by grind];obtain⟨p,hp⟩:=taken (Ct.mk 4 q.Vol q.Sector c) (yW hq.vol (by have:=hq.sec;omega)<|by omega) (by simp) (by simp) rfl (by show c<_;omega);exact⟨_,_,_,rfl,.inr ⟨_,_,rfl,hp⟩,λ_=>k1'⟩
  |false=>
   simp only[Ac]
   cases k2:(q.Kind==2)with
   |true=>
    obtain⟨p,hp⟩:=taken (Ct.mk 5 q.Vol q.Sector 0) (by
     have:=hq.vol;have:=hq.sec;unfold GC
     grind) (by simp) (by simp) rfl<|by grind
    exact⟨_,_,_,rfl,.inr ⟨_,_,rfl,hp⟩,a⟩
   |false=>
    simp only[Ac]
    cases k5:(q.Kind==5)with
    |true=>
     obtain⟨p,hp⟩:=taken (Ct.mk 3 q.Vol 0 0) (by
      have:=hq.vol;unfold GC
      grind) (by simp) (by simp) rfl<|by grind
     exact⟨_,_,_,rfl,.inr ⟨_,_,rfl,hp⟩,a⟩
    |false=>exact⟨_,_,_,rfl,.inl rfl,a⟩
theorem wY (h:B9 f):NC f<=10000:=by
 have hl:∀l:List Leaf,(∀x∈l,lfP x)->(l.map Pk).sum<=120*l.length:=by
  intro l
  induction l with
  |nil=>intro _;simp
  |cons x l ih=>
   intro hx;rw[Cx,MQ,A8];have:=ih (λy hy=>hx y<|by simp[hy]);have h1:Pk x<=120:=by
    have a:x.Text.size=(L x.Text).length:=by rfl
    unfold Pk
    rcases hx x (by simp)with⟨_,e⟩|⟨_,_,e⟩|⟨_,e⟩
    ·rw[a,e];simp
    ·omega
    omega
   omega
 have hb:∀l:List Block,(∀b∈l,KV b)->(l.map Kk).sum<=500*l.length:=by
  intro l
  induction l with
  |nil=>intro _;simp
  |cons b l ih=>
   intro hx;rw[Cx,MQ,A8];have:=ih (λy hy=>hx y<|by simp[hy]);have h1:=hx b (by simp);have h2:=hl b.Leaves h1.leaf;have h4:=h1.four;have hz:Kk b=b.Leaves.length+(b.Leaves.map Pk).sum:=rfl;omega
 have:=hb f.Blocks h.blk;have hn:=h.n;unfold NC zl;omega
theorem Wc (h:H5 d r):Ow d<=1048576:=by
 have h1:=wY h.fl;have h2:=h.st.len;have h3:=h.st.small;have a:∀l:List By,(∀k∈l,k.Kids.length=4)->(l.map UI).sum=4*l.length:=by
  intro l
  induction l with
  |nil=>intro _;rfl
  |cons k l ih=>
   intro hl;rw[Cx,MQ,ih (λx hx=>hl x<|by simp[hx]),A8];have:=hl k (by simp);unfold UI;omega
 have h4:=a d.Store.Arena.Knots (λk hk=>by
  obtain⟨i,hi,rfl⟩:=A6 hk;have:=(G8.1 h.st.ar i hi).1;rw[NY hi]at this
  exact this)
 have e1:JC d.Store=d.Store.Vols.length+(d.Store.Arena.Knots.length+(d.Store.Arena.Knots.map UI).sum):=rfl;have e2:Ow d=NC d.Flash+JC d.Store:=rfl;omega
theorem pK (s:Store) (hv:s.Vols.length<=1048576) (ha:QZ s.Arena):∃l,Lz s=some l/\QM s=some l/\l.length<=1+17*s.Vols.length:=by
 unfold Lz QM;obtain⟨l,h1,h2,h3⟩:=Iq (body:=λq:List Ct×Int=>EC s q.1 q.2) (body':=λq:List Ct×Int=>Jw s q.1 q.2) (λ(l:List Ct) i=>(l,i)) s.Vols.length (λi l=>l.length<=1+17*i) (λl=>l.length<=1+17*s.Vols.length)
  (λl i hi hl=>by
   have hg:s.Vols[i]?=some s.Vols[i]:=Ab hi;obtain⟨a,a1,a2,a3⟩:=S5 s.Arena ha s.Vols[i].Root;have b:ap 32 l [Ct.mk 2 s.Vols[i].Id 0 0]=some (l++ [Ct.mk 2 s.Vols[i].Id 0 0]):=BC (by grind);simp only[EC,Jw,Eh hi,Ar,hg,Aa,b,a1,a2];obtain⟨u,u1,u2,u3⟩:=Iq (body:=λq:List Ct×Int=>EB s (i:Int) a q.1 q.2) (body':=λq:List Ct×Int=>HE s.Vols[i] a q.1 q.2) (λ(l:List Ct) k=>(l,k)) a.length (λk o=>o.length<=l.length+1+k) (λo=>o.length<=l.length+17)
    (λo k hk ho=>by
     have c:a[k]?=some a[k]:=Ab hk;simp only[EB,HE,Eh hk,Ar,c,hg,Aa];refine⟨by first|rfl|trivial,?_⟩;rw[ad1]
     cases decide (a[k]>0)with
     |true=>
      simp only[Ae];rw[BC<|by grind]
      grind
     |false=>grind)
    (λo ho=>⟨by simp only[EB,HE,DN],o,by simp only[EB,DN],by omega⟩) (s:=l++ [Ct.mk 2 s.Vols[i].Id 0 0]) (by simp)
   have u1':Ao (λq:List Ct×Int=>EB s (i:Int) a q.1 q.2) (l++ [Ct.mk 2 s.Vols[i].Id 0 0],0)=some u:=u1;have u2':Ao (λq:List Ct×Int=>HE s.Vols[i] a q.1 q.2) (l++ [Ct.mk 2 s.Vols[i].Id 0 0],0)=some u:=u2;rw[u1',u2',Aa,ad1]
   grind)
  (λl hl=>⟨by simp only[EC,Jw,DN],l,by simp only[EC,DN],hl⟩) (s:=[Ct.mk 1 0 s.Next 0]) (by simp)
 grind
theorem pJ (h:H5 d r):∃st ok,Mv d=some (st,ok)/\OP d=some (st,ok)/\(ok=true->1<=st.length)/\st.length<=1048576:=by
 have hf:JI d.Flash:=h.fl.cap;obtain⟨b,r1,r2,r3⟩:=pK d.Store (by have:=h.st.len;omega)<|kF h.st;have hb:=h.st.vs;obtain⟨b1,b2⟩:=f7 hb;have e:=Vp h.st;rw[r1]at e
 injection e with e
 subst e;obtain⟨st,ok,w1,w2,w3⟩:=Ph d hf (KR (AR d.Store) d.Store.Next) (by omega)<|bs [];refine⟨st,ok,?_,?_,?_,by omega⟩
 ·unfold Mv;grind
 ·unfold OP;grind
 intro ho;subst ho
 rcases Rd h.fl h.seqs (KR (AR d.Store) d.Store.Next) (by unfold KR;simp) b2 b1 (bs [])with w|⟨steps,T,g,c,q1,q2,q3,q4,q5,q6,q7,q8,q9⟩
 ·rw[w1]at w;cases w
 rw[w1]at q2
 injection q2 with q2
 injection q2 with q2 _
 subst q2;have a:=(Fu q7).2;rw[Ak]at a;have f:(Cm (Jb d<|bs []) d.Tx T).length=T.length:=by unfold Cm;grind
 omega
theorem ZB (x a b:Int):GQ x a b=some (decide (a<=x/\x<=b)):=by
 unfold GQ
 grind
theorem MC {l:List Int} (h:l.length<=1048576):It l=some l:=by
 unfold It;rw[LK<|by omega];rfl
theorem Sk (a:Arena) (h:AAB a.Knots):Iv a=some a:=by
 unfold Iv;have q:=RZ (body:=λs:Int×List By=>Iu a s.1 s.2) a.Knots (λk=>k)
  (λi x b hx ho=>by
   have hi:=(Af.1 hx).1;have hk:=h.2 x<|Au hx;simp only[Iu,Eh hi,Ar,hx,Aa];rw[MC hk];simp only[Aa];have:=h.1;rw[BC (by simp;omega),ad1]
   rfl)
  (λb=>by simp only[Iu,DN])
 rw[q];simp
theorem Oc (s:Store) (h:AAB s.Arena.Knots) (hv:s.Vols.length<=1048576):He s=some s:=by
 unfold He;rw[LK (by omega),Sk _ h];rfl
theorem QN (a:Arena) (ha:a.Knots.length<=1048576):IT a=some (CJ a.Knots):=by rw[Wb,Kz a ha]
theorem Sf (a:Arena) (ha:a.Knots.length<=1048576) (r:Int):GP a r=some (decide (0<=r/\r<(a.Knots.length:Int))&&!(B3 a.Knots r).Leaf):=by
 unfold GP;rw[ZB,Bq,Ch];simp only[Aa];by_cases h:0<=r/\r<(a.Knots.length:Int)
 ·rw[Ad (by omega:0<=r/\r<=(a.Knots.length:Int)-1),Ad h,Ae,HQ h.1 h.2];simp
 grind
theorem nB {a:Arena} {r:Int} (ha:a.Knots.length<=1048576) (hr:Dw a.Knots r=true):(cond (r !=(-1)) ((GP a r).bind λv2=>some (!v2)) (some false):Option Bool)=some false:=by
 rcases BV hr with rfl|⟨h0,h1,hl⟩
 ·rfl
 rw[show(r !=(-1))=true by simp;omega,Ae,Sf a ha,Ad ⟨h0,h1⟩,hl];rfl
theorem rB {r:Int} {s:Nat} {n:Int} (a:Arena) (ha:a.Knots.length<=1048000) (hK:CJ a.Knots=true) (hr:Dw a.Knots r=true) (hs:s<16) (hn:0<=n):
  Yp a r (s:Int) n=some (Arena.mk (Jm a.Knots r s n),(a.Knots.length:Int)+1):=by
 unfold Yp;rw[Sk _ (KQ hK<|by omega),QN a (by omega),ZB,hK];simp only[Aa,Ag,Ac];rw[Ad (by omega:0<=(s:Int)/\(s:Int)<=15),Ah (by omega:¬n<0)];simp only[Ag,Ac,Aa];have hq:(cond (r !=(-1)) ((GP a r).bind λv2=>cond (!v2) (some true)<|some false) (some false):Option Bool)=some false:=by
  rcases BV hr with rfl|⟨h0,h1,hl⟩
  ·rfl
  rw[show(r !=(-1))=true by simp;omega,Ae,Sf a (by omega),Ad ⟨h0,h1⟩,hl];rfl
 rw[hq,mk4];simp only[Aa,Ac];have fin:∀(lf tp:List Int),lf.length=4->tp.length=4->Jm a.Knots r s n=a.Knots++ [By.mk true<|lf.set (s %4) n,By.mk false<|tp.set (s/4) (a.Knots.length:Int)]->
   ((gi lf<|Int.tmod (s:Int) 4).bind λx4=>(gi tp<|qu (s:Int) 4).bind λx5=>(ap 32 a.Knots [By.mk true<|si lf (Int.tmod (s:Int) 4) n,By.mk false<|si tp (qu (s:Int) 4)<|ln a.Knots]).bind λq2=>some (Arena.mk q2,ad (ln a.Knots) 1))=some (Arena.mk<|Jm a.Knots r s n,(a.Knots.length:Int)+1):=by
  intro lf tp h1 h2 h3;rw[qu4 hs,xK,Ar,Ar,Ab (by omega),Ab (by omega),Aa,BC (by simp;omega),EU,EU,Bq,<-h3,ad1];rfl
 rcases BV hr with rfl|⟨h0,h1,hl⟩
 ·rw[Ah (by omega:¬(-1:Int)>=0)];simp only[Ac,Aa];have hx:gi [(-1:Int),-1,-1,-1] (qu (s:Int) 4)=some (-1):=by
   rw[qu4 hs,Ar];have:s/4<4:=by omega
   match s/4,this with
   |0,_=>rfl
   |1,_=>rfl
   |2,_=>rfl
   |3,_=>rfl
   |n+4,h=>omega
  rw[hx,Aa,Ah (by omega:¬(-1:Int)>=0)];simp only[Ac,Aa];have:=fin [0,0,0,0] [-1,-1,-1,-1] rfl rfl rfl
  grind
 rw[cT,HQ h0 h1];have h4:=(FE hK h0 h1).1;rw[Aa,MC<|by omega];simp only[Aa];have hx:gi (B3 a.Knots r).Kids (qu (s:Int) 4)=some (M1 (B3 a.Knots r)<|s/4):=by rw[qu4 hs,nZ (by omega:s/4<(B3 a.Knots r).Kids.length)]
 rw[hx];simp only[Aa]
 rcases Gu hK h0 h1 hl (show s/4<4 by omega)with e|⟨e1,e2,e3⟩
 ·rw[Ah (by omega:¬M1 (B3 a.Knots r) (s/4)>=0)];simp only[Ac,Aa];have:=fin [0,0,0,0] (B3 a.Knots r).Kids rfl h4 (by unfold Jm OI To;simp only[AA (show¬r<0 by omega),AB<|show M1 (B3 a.Knots r) (s/4)<0 by omega])
  grind
 rw[cT,HQ e1<|by omega];have h5:=(FE hK e1<|by omega).1;rw[Aa,MC<|by omega];simp only[Aa];have:=fin (B3 a.Knots<|M1 (B3 a.Knots r)<|s/4).Kids (B3 a.Knots r).Kids h5 h4 (by unfold Jm OI To;grind)
 grind
theorem Ys (l:List Int) (n:Int) (hl:l.length<=1048576):Ob l n=some (l.contains n):=by
 unfold Ob;obtain⟨b,h1,h2⟩:=AJ (body:=λs:Int=>M3 l n s) (λ(_:Unit) i=>i) l.length (λi _=>n∉l.take i) (λb=>(b= .inr true/\n∈l)\/(b= .inl ()/\n∉l))
  (λ_ i hi hs=>by
   have hx:=Ab hi;simp only[M3,Eh hi,Ar,hx,Aa];rw[ad1]
   cases e:(l[i]==n)with
   |true=>grind
   |false=>
    refine .inl ⟨(),by rfl,?_⟩;rw[An hi,Ap,Br]
    grind)
  (λ_ hs=>⟨.inl (),by simp only[M3,DN],.inr ⟨rfl,by grind⟩⟩) (s:=()) (by simp)
 grind
theorem VA {r:Int} (a:Arena) (ha:a.Knots.length<=1048000) (hK:CJ a.Knots=true) (hr:Dw a.Knots r=true):∃l,P7 a r=some l/\l.length<=5/\∀i:Nat,(i:Int)∈l↔Oo a.Knots r i=true:=by
 unfold P7;rw[Sf a<|by omega];simp only[Aa]
 rcases BV hr with rfl|⟨h0,h1,hl⟩
 ·rw[Ah (by omega:¬((0:Int)<= -1/\(-1:Int)<(a.Knots.length:Int)))];exact⟨[],rfl,by simp,λi=>by simp[Oo]⟩
 rw[Ad ⟨h0,h1⟩,hl,HQ h0 h1];simp only[AM,MS,Ag,Ac,Aa];obtain⟨h4,hk⟩:=FE hK h0 h1;obtain⟨l,q1,q2,q3⟩:=AJ (body:=λs:List Int×Int=>K7 a (B3 a.Knots r) s.1 s.2) (λ(o:List Int) i=>(o,i)) (B3 a.Knots r).Kids.length
  (λi o=>o.length<=1+i/\∀n:Nat,(n:Int)∈o↔(r=(n:Int)\/(n:Int)∈(B3 a.Knots r).Kids.take i)) (λo=>o.length<=5/\∀n:Nat,(n:Int)∈o↔(r=(n:Int)\/(n:Int)∈(B3 a.Knots r).Kids))
  (λo i hi ho=>by
   obtain⟨o1,o2⟩:=ho;have hx:=Ab hi;have et:(B3 a.Knots r).Kids.take (i+1)=(B3 a.Knots r).Kids.take i++ [(B3 a.Knots r).Kids[i]]:=An hi;refine .inl ?_;simp only[K7,Eh hi,Ar,hx,Aa];rw[ZB,Bq,Ch,ad1];simp only[Aa];have b:(B3 a.Knots r).Kids[i]=M1 (B3 a.Knots r) i:=by grind
   rcases Gu hK h0 h1 hl (show i<4 by omega)with e|⟨e1,e2,e3⟩
   ·grind
   rw[cT,Ys o _<|by omega];simp only[Aa]
   cases hc:o.contains (B3 a.Knots r).Kids[i]with
   |true=>
    have hm:(B3 a.Knots r).Kids[i]∈o:=by simpa using hc
    refine⟨o,rfl,by omega,λn=>?_⟩
    grind
   |false=>
    simp only[AM,Ae];rw[BC (by simp;omega)];refine⟨_,rfl,by simp;omega,λn=>?_⟩
    grind)
  (λo ho=>⟨o,by simp only[K7,DN],by have:=ho.1;omega,by grind⟩) (s:=[r]) ⟨by simp,λn=>by simp[eq_comm]⟩
 rw[q1];refine⟨l,rfl,q2,λi=>?_⟩;rw[q3];unfold Oo
 grind
theorem dA (hr:G9 r):∃l,Ao (λs:List Int×Int=>Kb r s.1 s.2) ([],0)=some l/\l.Nodup/\(∀x,x∈l↔∃y∈r,y.Page.Kind=2/\y.Page.Tx=x)/\l.length<=r.length:=by
 have a:=hr.len;obtain⟨l,h1,h2,h3,h4⟩:=AJ (body:=λs:List Int×Int=>Kb r s.1 s.2) (λ(o:List Int) i=>(o,i)) r.length (λi o=>o.Nodup/\(∀x,x∈o↔∃y∈r.take i,y.Page.Kind=2/\y.Page.Tx=x)/\o.length<=i) (λo=>o.Nodup/\(∀x,x∈o↔∃y∈r,y.Page.Kind=2/\y.Page.Tx=x)/\o.length<=r.length)
  (λo i hi ho=>by
   obtain⟨o1,o2,o3⟩:=ho;have hx:=Ab hi;have et:r.take (i+1)=r.take i++ [r[i]]:=by simp
   refine .inl ?_;simp only[Kb,Eh hi,Ar,hx,Aa];rw[ad1,Ys o _<|by omega]
   cases hk:(r[i].Page.Kind==2)with
   |false=>grind
   |true=>
    have hk':r[i].Page.Kind=2:=by simpa using hk
    simp only[Ae,Aa]
    cases hc:o.contains r[i].Page.Tx with
    |true=>grind
    |false=>
     have hc':r[i].Page.Tx∉o:=by grind
     simp only[AM,Ae];rw[BC<|by grind];refine⟨_,rfl,?_,λx=>?_,by simp;omega⟩
     ·grind
     grind)
  (λo ho=>⟨o,by simp only[Kb,DN],by grind⟩) (s:=[]) ⟨CU,by simp,by simp⟩
 grind
theorem uX {l:List Int} (hr:G9 r) (h1:l.Nodup) (h2:∀x,x∈l↔∃y∈r,y.Page.Kind=2/\y.Page.Tx=x):R9 l=Dq r:=by
 obtain⟨n1,n2,n3⟩:=GO r λy hy=>(hr.tx y hy).1;refine VR ?_ n1 λx=>?_
 ·have hs:(R9 l).Pairwise λx y=>x<=y:=by
   have:=List.pairwise_mergeSort (le:=λx y:Int=>decide<|x<=y) (λa b c h1 h2=>by simp at*;omega) (λa b=>by simp;omega) l;unfold R9
   grind
  have hd:(R9 l).Nodup:=by
   unfold R9;exact(List.mergeSort_perm l _).nodup_iff.2 h1
  unfold asc;exact(hs.and hd).imp (λh=>by omega)
 rw[n2,<-h2];unfold R9;simp
theorem eO (t:ByteArray) (ht:(L t).length<=20000):∀(n a:Nat) (c:List Ct),(L t).length-a<=n->a<=(L t).length->c.length<=a->Ao (λs:List Ct×Int=>LZ t s.1 s.2) (c,(a:Int))=Ao (λs:List Ct×ByteArray×Int×Bool=>E6 t s.1 s.2.1 s.2.2.1 s.2.2.2) (c,t,(a:Int),false)
 |n,a,c,hn,ha,ho=>by
  rw[Aw,Aw];simp only[E6,LZ];rw[Bz];by_cases d:a<(L t).length
  ·rw[Ad (by omega:(a:Int)<((L t).length:Int))];simp only[Ae,Aa,AM];rw[Fg t d,ad1];obtain⟨r1,a1,a2,a3⟩:=I8 t ((a+1:Nat):Int) (by omega) ⟨by omega,by omega⟩;have f:oI r1.2.1:=by
    rcases a3 with⟨_,_,e⟩|⟨_,_,b,_,_,e,_,_,e2,_⟩
    ·rw[e];exact⟨by omega,by omega⟩
    rw[e];exact⟨by omega,by omega⟩
   obtain⟨r2,b1,b2,b3⟩:=I8 t r1.2.1 (by omega) f;rw[a2,Aa,b2];simp only[Aa];have l1:Di (Ev.mk t ((a+1:Nat):Int) false)=some (if r1.2.2=true then(r1.1,Ev.mk t r1.2.1 false)else(0,Ev.mk t ((a+1:Nat):Int) true)):=by
    unfold Di
    grind
   rw[l1]
   cases h1:r1.2.2 with
   |false=>
    simp only[CL,FN,Aa,AM,Ae];have l2:Di (Ev.mk t ((a+1:Nat):Int) true)=some (0,Ev.mk t ((a+1:Nat):Int) true):=by
     unfold Di
     grind
    grind
   |true=>
    simp only[BX,Aa,Ag,Ac];have l2:Di (Ev.mk t r1.2.1 false)=some (if r2.2.2=true then(r2.1,Ev.mk t r2.2.1 false)else(0,Ev.mk t r1.2.1 true)):=by
     unfold Di
     grind
    rw[l2]
    cases h2:r2.2.2 with
    |false=>rfl
    |true=>
     simp only[BX,Aa,Ag,Ac];obtain⟨v,c1,c2,_⟩:=bB<|Ct.mk (qu (IntKind.i64.wrap ((L t)[a].toNat:Int)) 16) (Int.tmod (IntKind.i64.wrap ((L t)[a].toNat:Int)) 16) r1.1 r2.1;rw[c1,c2];simp only[Aa]
     cases v with
     |false=>rfl
     |true=>
      simp only[Ag,Ac];rw[BC (by simp;omega)];simp only[Aa]
      rcases b3 with⟨e,_⟩|⟨_,aa,b,m,k1,k2,k3,k4,k5,_⟩
      ·rw[h2]at e;cases e
      rcases a3 with⟨e,_⟩|⟨_,aa',b',m',p1,p2,p3,p4,p5,_⟩
      ·rw[h1]at e;cases e
      rw[k2]
      match n,hn with
      |n+1,hn=>exact eO t ht n b _ (by omega) k5 (by simp;omega)
      |0,hn=>omega
  grind
theorem cX (t:ByteArray) (ht:(L t).length<=20000):QC t=Ih t:=by
 have h:=eO t ht (L t).length 0 [] (by omega) (by omega) (by simp);rw[show((0:Nat):Int)=0 from rfl]at h;unfold QC Ih;rw[h]
def ADG:Page:=Page.mk 0 0 0 0 0<|bs []
theorem fF (r:List Aq) (hl:r.length<=1048576) (t a c:Int) (h:(a=0/\c=0)\/(0<a/\0<c)):Se r t a c=some (match Sv r t a c with|some y=>(y.Page,true)|none=>(ADG,false)):=by
 have hp:∀y:Aq,(cond (y.Page.Kind==2) (cond (y.Page.Tx==t) (cond (y.Page.Part==a) (cond (c==0) (some true)<|some<|y.Page.Count==c)<|some false)<|some false) (some false):Option Bool)=some (pM t a c y):=by
  intro y;unfold pM;cases y.Page.Kind==2<;>cases y.Page.Tx==t<;>cases y.Page.Part==a<;>simp only[Ae,Ac,Bool.false_and,Ke]
  rcases h with⟨rfl,rfl⟩|⟨h1,h2⟩
  ·simp
  grind
 unfold Se;obtain⟨b,h1,h2⟩:=AJ (body:=λs:Int=>M2 r t a c s) (λ(_:Unit) i=>i) r.length (λi _=>∀(j:Nat) x,j<i->r[j]?=some x->pM t a c x=false) (λb=>match Sv r t a c with|some y=>b= .inr (y.Page,true)|none=>b= .inl ())
  (λ_ i hi hs=>by
   have hx:=Ab hi;simp only[M2,Eh hi,Ar,hx,Aa];rw[hp,ad1];simp only[Aa]
   cases e:pM t a c r[i]with
   |true=>
    refine .inr ⟨_,rfl,?_⟩;unfold Sv;rw[kD r _ hs hx e]
   |false=>
    refine .inl ⟨(),by rfl,λj x hj d=>?_⟩
    grind)
  (λ_ hs=>⟨.inl (),by simp only[M2,DN],by
   unfold Sv
   rw[uK r _ λj x hx=>hs j x (Af.1 hx).1 hx]⟩) (s:=()) (λj x hj=>by omega)
 rw[h1]
 cases hf:Sv r t a c with
 |none=>rw[hf]at h2;simp only at h2;rw[h2];rfl
 |some y=>grind
theorem AAn (r:List Aq) (hr:G9 r) (t:Int) (v:Page×Bool) (hv:1<=v.1.Count/\v.1.Count<=9):∀(n:Nat) (a:Int) (text:ByteArray) (seq:Int),a+n=11->1<=a->a<=v.1.Count->(L text).length<=90*a.toNat->
  ∃b,Ao (λs:ByteArray×Int×Int=>LV r t v s.1 s.2.1 s.2.2) (text,seq,a)=some b/\(match parts r t n a v.1.Count (L text) seq with
   |none=>b= .inr (Tx.mk 0 0 [],false)
   |some (x,q)=>∃u,b= .inl (u,q)/\L u=x/\(L u).length<=1000)
 |0,a,text,seq,hn,h1,hc,ht=>by omega
 |n+1,a,text,seq,hn,h1,hc,ht=>by
  rw[Aw];simp only[LV,parts];by_cases e:a<v.1.Count
  ·rw[Ad e,AB (.inr e)];simp only[Ae];rw[fF r hr.len t a v.1.Count (.inr ⟨by omega,by omega⟩)];simp only[Aa]
   cases hf:Sv r t a v.1.Count with
   |none=>grind
   |some y=>
    simp only[Ag,Ac];have hy:=Su hf;have d:=hr.text y hy.1;have c:=uC hy.2 (by omega);rw[FR text y.Page.Text (by omega),Aa,Cs,c];have es:Qq a seq y=(if y.Page.Seq<seq then y.Page.Seq else seq):=by
     unfold Qq;omega
    rw[es,<-DL];exact AAn r hr t v hv n (a+1) _ _ (by omega) (by omega) (by omega) (by rw[DL,Ak];omega)
  rw[Ah e,AA<|by omega]
  grind
theorem jF (r:List Aq) (hr:G9 r) (t:Int):∃x ok,Qz r t=some (x,ok)/\ID r t=(if ok=true then some x else none)/\x.Recs.length<=20000:=by
 unfold Qz ID;rw[fF r hr.len t 0 0<|.inl ⟨rfl,rfl⟩];simp only[Aa]
 have a:parts r t 11 0 0 [] 0=(match Sv r t 0 0 with
  |none=>none
  |some y=>parts r t 10 1 y.Page.Count (L y.Page.Text) y.Page.Seq):=by rfl
 rw[a]
 cases hf:Sv r t 0 0 with
 |none=>simp
 |some y=>
  simp only[Ag,Ac];have hy:=Su hf;have c:=hr.text y hy.1;have hc:=hr.cnt y hy.1;obtain⟨b,h1,h2⟩:=AAn r hr t (y.Page,true) hc 10 1 y.Page.Text y.Page.Seq (by omega) (by omega) hc.1 (by omega);rw[h1];simp only[Aa]
  cases hp:parts r t 10 1 y.Page.Count (L y.Page.Text) y.Page.Seq with
  |none=>grind
  |some w=>
   obtain⟨x,q⟩:=w;rw[hp]at h2;obtain⟨u,rfl,rfl,h4⟩:=h2;simp only[Bv];obtain⟨l,ok,r1,r2,r3⟩:=bC u (by omega);rw[cX u (by omega),r1,AD8,r2];simp only[Aa]
   grind
theorem Xt (r:List Aq) (hr:G9 r):Sp r=some (Bg r):=by
 have c:=hr.len;have a:=GO r λy hy=>(hr.tx y hy).1;have d:=a.2.2;obtain⟨l,l1,l2,l3,l4⟩:=dA hr;unfold Sp;rw[l1];simp only[Aa];unfold Vc;rw[AB (by omega),uX hr l2 l3];simp only[Aa];obtain⟨b,h1,h2⟩:=AJ (body:=λs:List Tx×Int=>M8 r (Dq r) s.1 s.2) (λ(o:List Tx) i=>(o,i)) (Dq r).length (λi o=>o=((Dq r).take i).filterMap (ID r)) (λb=>b=Bg r)
  (λo i hi ho=>by
   have hx:=Ab hi;have et:(Dq r).take (i+1)=(Dq r).take i++ [(Dq r)[i]]:=An hi;have e:o.length<=i:=by grind
   simp only[M8,Eh hi,Ar,hx,Aa];rw[ad1];obtain⟨z,ok,k1,k2,k3⟩:=jF r hr (Dq r)[i];rw[k1];simp only[Aa];refine .inl ?_
   cases ok with
   |true=>
    simp only[Ae];rw[BC<|by grind]
    grind
   |false=>grind)
  (λo ho=>⟨o,by simp only[M8,DN],by rw[ho,DK];rfl⟩) (s:=[]) rfl
 rw[h1,h2];rfl
theorem fL (x:Tx):Sg x=some (cN x):=by
 unfold Sg cN
 cases h:x.Recs with
 |nil=>rfl
 |cons q m=>
  rw[Ad (by rw[Bq,A8];omega:ln (q::m)>0),show gi (q::m) 0=some q from Ar (i:=0)];rfl
theorem rQ (h:H5 d r):OK d=Ll d:=by
 have hr:=h.pages;obtain⟨g1,_⟩:=QP hr;unfold OK Ll
 cases(d.Base !=sb d.Tx 1)with
 |true=>rfl
 |false=>
  simp only[Ac];rw[h.scan.s,h.scan.i];simp only[Aa];rw[O9 r hr,Xt r hr];simp only[Aa];have hb:(λs:Int=>K9 d (Bg r) s)=(λs:Int=>G4 d (Bg r) s):=by
   funext s;simp only[K9,G4]
   cases decide (s<ln (Bg r))with
   |false=>rfl
   |true=>
    simp only[Ae]
    cases hg:gi (Bg r) s with
    |none=>rfl
    |some x=>
     simp only[Aa]
     cases(x.Num==d.Base)with
     |false=>rfl
     |true=>
      simp only[Ae,Aa];rw[fL];unfold cN
      cases hx:x.Recs with
      |nil=>rfl
      |cons q m=>
       rw[Ad (by rw[Bq,A8];omega:ln (q::m)>0),show gi (q::m) 0=some q from Ar (i:=0)];rfl
  rw[hb]
theorem dG (h:H5 d r):Q5 d=Lq d:=by
 have hn:=h.fl.n;obtain⟨live,l1,l2,l3,l4⟩:=Hm h.st;unfold Lq Q5;rw[h.scan.s,l1];simp only[Aa];rw[Nm r live d.Base h.scan.len l4,Nm r live 1000000000 h.scan.len l4];simp only[Aa]
 have c:∀b,live.foldl (cL r) (r.map<|Dn b)=Cy r live b:=λ_=>rfl
 rw[c,c]
 have hi:∀b:Block,Ka b=Fs b:=λ_=>rfl
 have step:∀(o:Int×Int) (i:Nat),i<d.Flash.Blocks.length->HA d o.1 o.2 (i:Int)=D6 d r (Cy r live d.Base) (Cy r live 1000000000) o.1 o.2 (i:Int)/\∃o':Int×Int,D6 d r (Cy r live d.Base) (Cy r live 1000000000) o.1 o.2 (i:Int)=some (.inl (o'.1,o'.2,((i+1:Nat):Int))):=by
  intro o i a;have hx:=Ab a;have hP:=h.fl.blk _<|Az a;have e:L4 d.Flash.Blocks[i].Leaves<=4:=by have:=iX d.Flash.Blocks[i].Leaves;rw[hP.four]at this;exact this
  simp only[D6,HA,Eh a,Ar,hx,Aa];rw[Zs r _ (i:Int) h.scan.len<|JW _ _ _,Zs r _ (i:Int) h.scan.len<|JW _ _ _,hi,Kx _ hP.four,ad1,(o9 h l1 l2 l4 1000000000 (i:Int)).2,(o9 h l1 l2 l4 d.Base (i:Int)).2];generalize cn r.length (λj=>(Cy r live d.Base)[j]?.getD false&&bk r (i:Int) j)=A;generalize cn r.length (λj=>(Cy r live 1000000000)[j]?.getD false&&bk r (i:Int) j)=C;simp only[Aa]
  cases d.Flash.Blocks[i].Bad with
  |true=>grind
  |false=>
   simp only[AM,Ae,Ac,Aa];by_cases q:L4 d.Flash.Blocks[i].Leaves=4
   ·rw[Ah (by omega:¬((L4 d.Flash.Blocks[i].Leaves:Nat):Int)<4),show(((L4 d.Flash.Blocks[i].Leaves:Nat):Int)==4)=true by simp;omega];simp only[Ae,Ac,Aa];by_cases q2:A=C
    ·subst q2;simp only[beq_self_eq_true,Ae];by_cases q3:(A:Int)>=1
     ·rw[Ad q3];simp only[Ae,Aa]
      cases decide ((A:Int)<o.2)with
      |true=>simp
      |false=>grind
     grind
    grind
   grind
 obtain⟨v,e1,e2,_⟩:=Iq (body:=λs:Int×Int×Int=>D6 d r (Cy r live d.Base) (Cy r live 1000000000) s.1 s.2.1 s.2.2) (body':=λs:Int×Int×Int=>HA d s.1 s.2.1 s.2.2) (λ(o:Int×Int) i=>(o.1,o.2,i)) d.Flash.Blocks.length (λ_ _=>True) (λ_=>True)
  (λo i a _=>by
   obtain⟨a1,o',a2⟩:=step o i a
   grind)
  (λo _=>⟨by simp only[D6,HA,DN],o.1,by simp only[D6,DN],trivial⟩) (s:=(-1,4)) trivial
 grind
theorem dM (h:IC d r):QK d=Lw d:=by
 obtain⟨l,d1,d2,_⟩:=dL d<|Wc h.dev;obtain⟨st,ok,b1,b2,_⟩:=pJ h.dev;obtain⟨live,l1,l2,l3,l4⟩:=Hm h.dev.st
 have hm:∀b,M6 d b=Hc d b:=λb=>by
  obtain⟨v,_,v2,v3,_⟩:=bG h.dev h.few l1 l2 l3 l4 b;rw[v2,v3]
 unfold QK Lw;rw[d1,d2,rQ h.dev,dG h.dev,b1,b2]
 grind
theorem YX (h:H5 d r) (vol k:Int):Mo d vol k=(Fy r d.Store vol k):=by
 unfold Mo;rw[h.scan.s];simp only[Aa];cases Fy r d.Store vol k<;>rfl
end Go.TI
