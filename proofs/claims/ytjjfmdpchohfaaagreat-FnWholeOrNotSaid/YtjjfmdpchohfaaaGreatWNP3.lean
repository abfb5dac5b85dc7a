/- What is served is there whole or not at all. No condition; no program is in sight. -/
import Derived.Test.YtjjfmdpchohfaaaGreatWNP2
set_option linter.unusedVariables false
set_option linter.unusedSimpArgs false
namespace Go.TI
open Go
def Hz (id:Int):Nat->List Int->List C3
 |_,[]=>[]
 |k,x::row=>(if x>0 then [C3.mk 4 id k x]else [])++Hz id (k+1) row
def Q4 (p:Int×List Int):List C3:=C3.mk 2 p.1 0 0::Hz p.1 0 p.2
def Lh (l:Vs) (nx:Int):List C3:=C3.mk 1 0 nx 0::l.flatMap Q4
theorem QK (id x:Int):∀(k:Nat) (a:List Int),Hz id k (a++ [x])=Hz id k a++(if x>0 then [C3.mk 4 id (k+a.length:Nat) x]else [])
 |k,[]=>by simp[Hz]
 |k,y::a=>by
  rw[BB,Hz,QK id x (k+1) a,Hz,AE,AA,show k+1+a.length=k+(a.length+1) by omega]
theorem XR (id:Int):∀(k:Nat) (a:List Int),(Hz id k a).length<=a.length
 |_,[]=>Ax _
 |k,x::a=>by
  rw[Hz,Ak,AA];have:=XR id (k+1) a
  grind
theorem j8 (K:Ks) (r:Int):(Ff K r).length=16:=by unfold Ff;simp
theorem pI:∀(l:Vs),(∀p∈l,p.2.length=16)->(l.flatMap Q4).length<=17*l.length
 |[],_=>Ax _
 |p::l,h=>by
  have:=pI l (λq hq=>h q<|by simp[hq]);have h2:=XR p.1 0 p.2;have h3:=h p (by simp);rw[K0,Ak,AA];unfold Q4 at*
  grind
variable {r a r' b:List Aq} {d e d':Ay} {n k m:Nat} {y:Aq} {c:BP} {g f:Flash} {s:Store} {nx nx':Int} {P l l':Vs} {T:List ByteArray} {p:Page} {code:List Int} {nd:List Bool} {x:C3} {K:Ks}
theorem VV (h:C9 s):LI s=some (Lh (Bb s) s.Next):=by
 have hl:=h.len;unfold LI;obtain⟨b,h1,h2⟩:=AJ (body:=λq:List C3×Int=>EH s q.1 q.2) (λ(o:List C3) i=>(o,i)) s.Vols.length (λi o=>o=Lh ((Bb s).take i) s.Next/\o.length<=1+17*i) (λo=>o=Lh (Bb s) s.Next)
  (λo i hi ho=>by
   have hx:=Ab hi;have hr:=h.root _<|A9.2 ⟨s.Vols[i],Az hi,rfl⟩;have d:=ho.2;have et:(Bb s).take (i+1)=(Bb s).take i++ [(s.Vols[i].Id,Ff s.Arena.Knots s.Vols[i].Root)]:=by
    rw[DX];unfold Bb
    grind
   simp only[EH,DW hi,Au,hx,Aa];rw[BD (by simp;omega),Aa,Ot _ (by have:=h.few;omega) h.ar hr];simp only[Aa];obtain⟨u,u1,u2,u3⟩:=AJ (body:=λq:List C3×Int=>EG s (i:Int) (Ff s.Arena.Knots s.Vols[i].Root) q.1 q.2) (λ(l:List C3) k=>(l,k)) (Ff s.Arena.Knots s.Vols[i].Root).length
    (λk u=>u=o++ [C3.mk 2 s.Vols[i].Id 0 0]++Hz s.Vols[i].Id 0 ((Ff s.Arena.Knots s.Vols[i].Root).take k)/\u.length<=o.length+1+k) (λu=>u=o++ [C3.mk 2 s.Vols[i].Id 0 0]++Hz s.Vols[i].Id 0 (Ff s.Arena.Knots s.Vols[i].Root)/\u.length<=o.length+17)
    (λu k hk hu=>by
     obtain⟨a,f⟩:=hu;have c:=Ab hk;have g:=j8 s.Arena.Knots s.Vols[i].Root;have etk:=Al hk;simp only[EG,DW hk,Au,c,hx,Aa];rw[ad1];refine .inl ?_;by_cases e:(Ff s.Arena.Knots s.Vols[i].Root)[k]>0
     ·rw[Ad e,Ae,BD (by simp;omega)];refine⟨_,rfl,?_,by simp;omega⟩;rw[etk,QK,AF e,a,B4,show 0+min k (Ff s.Arena.Knots s.Vols[i].Root).length=k by omega]
      grind
     rw[Ah e,Ac];refine⟨u,rfl,?_,by omega⟩
     rw[etk,QK,AG e,a,A8])
    (λu hu=>⟨u,by rfl,by grind,by have:=j8 s.Arena.Knots s.Vols[i].Root;have:=hu.2;omega⟩) (s:=o++ [C3.mk 2 s.Vols[i].Id 0 0]) ⟨by simp[Hz],by simp⟩
   rw[u1,Aa,ad1];refine .inl ⟨u,rfl,?_,by omega⟩;rw[et,u2,ho.1];unfold Lh;rw[List.flatMap_append]
   simp[Q4])
  (λo ho=>⟨o,by simp only[EH,DH],by rw[ho.1,AL (by rw[IL];exact Ax _)]⟩) (s:=[C3.mk 1 0 s.Next 0]) ⟨rfl,by simp⟩
 rw[h1,h2];rfl
structure VsP (l:Vs) (nx:Int):Prop where
 len:l.length<=3
 nxt:1<=nx/\nx<=1000000000
 ids:∀p∈l,1<=p.1/\p.1<=9
 asc:l.Pairwise λp q=>p.1<q.1
 row:∀p∈l,p.2.length=16
 num:∀p∈l,∀x∈p.2,0<=x/\x<nx
theorem pR {r:Int} (hK:CO K=true) (hr:D6 K r=true):∀x∈Ff K r,0<=x:=by
 intro x hx;unfold Ff at hx;obtain⟨s,hs,rfl⟩:=A9.1 hx;rw[Lo]at hs;unfold RQ
 rcases BX hr with e|⟨h0,h1,hl⟩
 ·omega
 rw[AG<|by omega]
 rcases G4 hK h0 h1 hl (show s/4<4 by omega)with k1|⟨k1,k2,k3⟩
 ·omega
 rw[AG<|by omega];exact AAV hK k1 (by omega) k3<|by omega
theorem C9.vs (h:C9 s):VsP (Bb s) s.Next:=by
 have mem:∀p∈Bb s,∃v∈s.Vols,p=(v.Id,Ff s.Arena.Knots v.Root):=λp hp=>by
  obtain⟨v,hv,rfl⟩:=A9.1 hp
  grind
 refine⟨by rw[IL];exact h.len,h.nx,λp hp=>?_,?_,λp hp=>?_,λp hp x hx=>?_⟩
 ·obtain⟨v,hv,rfl⟩:=mem p hp;exact h.ids v hv
 ·have:=h.asc;unfold Bb
  grind
 ·obtain⟨v,hv,rfl⟩:=mem p hp;exact j8 _ _
 obtain⟨v,hv,rfl⟩:=mem p hp;have hm:v.Root∈Bw s:=A9.2 ⟨v,hv,rfl⟩;exact⟨pR h.ar (h.root _ hm) x hx,h.lt _ hm x hx⟩
theorem Uq {id:Int} (h:∀p∈P,p.1<id) (Q:Vs):Ld (P++Q) id=Ld Q id:=by
 unfold Ld
 grind
theorem AAm {id k x:Int} (h1:1<=id/\id<=9) (h2:0<=k/\k<16) (h3:1<=x/\x<=1000000000):GM (C3.mk 4 id k x)=true:=by
 unfold GM;simp;omega
theorem ADJ {id a:Int} (h1:1<=id/\id<=9) (h2:0<=a/\a<=9):GM (C3.mk 2 id a 0)=true:=by
 unfold GM;simp;omega
theorem wK {id:Int} {a:List Int} (h:∀p∈P,p.1<id) (k:Nat) (x:Int):rL (P++ [(id,a)]) id k x=P++ [(id,a.set k x)]:=by
 unfold rL;rw[Cb];congr 1
 ·conv=>rhs;rw[<-Vr P]
  apply CW
  grind
 simp
theorem oC {id nx:Int} (hP:∀p∈P,p.1<id) (a:1<=id/\id<=9) (c:nx<=1000000000):∀(todo done:List Int),done.length+todo.length=16->(∀x∈todo,0<=x/\x<nx)->CZ (P++ [(id,done++List.replicate todo.length 0)]) nx (Hz id done.length todo)=some (P++ [(id,done++todo)],nx)
 |[],done,hl,hx=>by rfl
 |x::todo,done,hl,hx=>by
  have h1:=hx x (by simp);rw[AA]at hl;have ih:=oC hP a c todo (done++ [x]) (by simp;omega) (λy hy=>hx y<|by simp[hy]);rw[Ak,Bg]at ih;rw[Hz];have b:(done++List.replicate (todo.length+1) 0).set done.length x=done++ [x]++List.replicate todo.length 0:=by grind
  by_cases e:x>0
  ·rw[AF e,F5,Hd];have d:Dr (P++ [(id,done++List.replicate (x::todo).length 0)]) nx (C3.mk 4 id done.length x)=some (P++ [(id,done++ [x]++List.replicate todo.length 0)],nx):=by
    unfold Dr;rw[AAm a (by omega)<|by omega];simp only[JP,FW,show¬((4:Int)=1) by omega,show¬((4:Int)=2) by omega,show¬((4:Int)=3) by omega];have hg:Ld (P++ [(id,done++List.replicate (x::todo).length 0)]) id≠none:=by
     rw[Uq hP];simp[Ld]
    rw[AG<|by grind];rw[wK hP,Bi,AA,b,show max nx (x+1)=nx by omega]
   grind
  grind
theorem yB {id:Int} {a:List Int} (h:∀p∈P,p.1<id):sO P id a=P++ [(id,a)]:=by
 unfold sO;rw[GK.2 (λp hp=>by simpa using h p hp),Bh.2 (λp hp=>by grind),A8]
theorem fA (b:nx<=1000000000):∀(l P:Vs),(P++l).length<=3->(P++l).Pairwise (λp q=>p.1<q.1)->(∀p∈l,(1<=p.1/\p.1<=9)/\p.2.length=16/\∀x∈p.2,0<=x/\x<nx)->CZ P nx (l.flatMap Q4)=some (P++l,nx)
 |[],P,_,_,_=>by simp[CZ]
 |p::l,P,c,d,hall=>by
  obtain⟨h1,h2,h3⟩:=hall p<|by simp
  have a:∀q∈P,q.1<p.1:=λq hq=>by grind
  rw[K0,Ms];unfold Q4;rw[Hd];have f:Dr P nx (C3.mk 2 p.1 0 0)=some (P++ [(p.1,Uf)],nx):=by
   unfold Dr;rw[ADJ h1<|by omega];simp only[JP,FW,Ce,show¬((2:Int)=1) by omega];have hg:Ld P p.1=none:=by
    have:=Uq a [];rw[A8]at this;rw[this];rfl
   rw[AG<|by grind];rw[AG (by omega),yB a]
  rw[f];simp only[Aa];have hz:Uf=[]++List.replicate p.2.length 0:=by rw[h2];rfl
  have e:=oC a h1 b p.2 [] (by simpa using h2) h3;rw[<-hz,Fj,A6]at e;rw[e];simp only[Aa];have hP:P++ [(p.1,p.2)]=P++ [p]:=rfl;have:=fA b l (P++ [p]) (by rw[AE];exact c) (by rw[AE];exact d) (λq hq=>hall q<|by simp[hq]);rw[hP,show(l.flatMap λp=>C3.mk 2 p.1 0 0::Hz p.1 0 p.2)=l.flatMap Q4 from rfl,this,AE];rfl
theorem iJ (h:VsP l nx) (l0:Vs) (n0:Int):CZ l0 n0 (Lh l nx)=some (l,nx):=by
 unfold Lh;rw[Hd];have a:Dr l0 n0 (C3.mk 1 0 nx 0)=some ([],nx):=by
  unfold Dr;have hb:GM (C3.mk 1 0 nx 0)=true:=by
   have:=h.nxt;unfold GM;simp;omega
  rw[hb];simp only[JP,FW,Ce];have:=h.nxt
  grind
 rw[a];simp only[Aa];have:=fA h.nxt.2 l [] (by simpa using h.len) (by simpa using h.asc) λp hp=>⟨h.ids p hp,h.row p hp,h.num p hp⟩
 grind
theorem iI (h:VsP l nx):(∀r∈Lh l nx,GM r=true)/\(Lh l nx).length<=1000:=by
 refine⟨λr hr=>?_,?_⟩
 ·
  cases hb:GM r with
  |true=>rfl
  |false=>
   exfalso;obtain⟨i,hi,rfl⟩:=A5 hr;have h1:=iJ h [] 1;obtain⟨e1,e2⟩:=JX<|Ab hi;rw[e1,Ms]at h1
   cases hq:CZ [] 1 ((Lh l nx).take i)with
   |none=>grind
   |some q=>
    rw[hq]at h1;simp only[Aa]at h1;rw[Hd]at h1;have:Dr q.1 q.2 (Lh l nx)[i]=none:=by unfold Dr;rw[AF hb]
    grind
 unfold Lh;rw[AA];have:=pI l h.row;have:=h.len;omega
structure AFA (d d':Ay):Prop where
 ab:Bb d'.Store=Bb d.Store
 nx:d'.Store.Next=d.Store.Next
theorem N2 (h:HH d r) {steps:List AS} (hs:Steps d.Flash steps g) (hl:steps.length<=1048576) (hm:C5 g=some (d',true)):Hx d steps=some d':=by
 unfold Hx;rw[XQ h.fl hs hl,Aa,hm];rfl
theorem W7:∀{n:Int} {ps:List Page} {p:Page},H7 n ps->(∀q∈ps,q.Seq<p.Seq)->n<=p.Seq->H7 n (ps++ [p])
 |n,[],p,_,_,h=>⟨h,trivial⟩
 |n,q::ps,p,ha,hq,h=>⟨ha.1,W7 ha.2 (λx hx=>hq x (by simp[hx])) (by grind)⟩
def sJ (d:Ay) (r:List Aq) (p:Page):Prop:=p.Kind=1/\DQ (Bb d.Store) p.Tx/\∃y,KL r p.Tx=some y/\p.Text=y.Page.Text
theorem aF {j:Nat} (h:HH d r) {live:List Int} (hl:∀x,x∈live↔DQ (Bb d.Store) x) (hy:r[j]?=some y) (hn:(C8 r live 1000000001)[j]?=some true):y.Page.Kind=1/\DQ (Bb d.Store) y.Page.Tx/\KL r y.Page.Tx=some y:=by
 rw[Qa r live _ hy]at hn
 injection hn with hn
 have a:=h.pages;have ht:=a.tx y<|Ar hy;have:Du 1000000001 y=false:=by
  unfold Du
  grind
 rw[this,WG,Dd]at hn;obtain⟨c,hc,b⟩:=hn;have e:PL c r r.length=some j:=by simpa using b
 have h1:=ABZ e;rw[hy]at h1;obtain⟨_,k1,k2⟩:=Wg h1
 grind
theorem dQ (h:HH d r) (l:r.length<=40) (b:Int):Ho d b=some ([],false)\/∃steps ps g,Ho d b=some (steps,true)/\Jq d.Flash steps ps g/\BA g/\H7 d.Seq ps/\steps.length<=160/\(∀p∈ps,sJ d r p/\JA p)/\∀p∈ps,p.Seq<d.Seq+160:=by
 obtain⟨live,l1,l2,l3,l4⟩:=GD h.st;have m:1<=d.Seq/\d.Seq<=1000000001:=by
  rw[h.seq];have h1:=Oj r;refine⟨h1.2.1,h1.2.2 _ (by omega) λy hy=>?_⟩;have:=(h.pages.seq y hy).2;omega
 unfold Ho;rw[h.scan.s,l1];simp only[Aa];rw[N8 r live _ h.scan.len l4];simp only[Aa];have e:live.foldl (dY r) (r.map<|Du 1000000001)=C8 r live 1000000001:=rfl;rw[e]
 let I:Nat->(List AS×Int×List Block)->Prop:=λn o=>∃ps,Jq d.Flash o.1 ps (Flash.mk o.2.2)/\BA (Flash.mk o.2.2)/\H7 d.Seq ps/\(∀p∈ps,p.Seq<o.2.1)/\d.Seq<=o.2.1/\o.2.1<=d.Seq+n/\o.1.length<=n/\∀p∈ps,sJ d r p/\JA p
 have I0:I (40*0) ([],d.Seq,d.Flash.Blocks):=by
  refine⟨[],rfl,h.fl,trivial,?_,?_,?_,?_,?_⟩
  ·intro p hp;cases hp
  ·exact Jv _
  ·grind
  ·exact Ax _
  grind
 obtain⟨a,h1,h2⟩:=AJ (body:=λs:List AS×Int×Int×List Block=>FN b r (C8 r live 1000000001) s.1 s.2.1 s.2.2.1 s.2.2.2) (λ(o:List AS×Int×List Block) i=>(o.1,o.2.1,i,o.2.2)) 4
  (λi o=>I (40*i) o) (λa=>a= .inr ([],false)\/∃steps sq bl,a= .inl steps/\I 160 (steps,sq,bl))
  (λo i hi ho=>by
   simp only[FN];rw[cT];obtain⟨q,q1,q2⟩:=AJ (body:=λs:List AS×Int×Int×List Block=>EO b r (C8 r live 1000000001) (i:Int) s.1 s.2.1 s.2.2.1 s.2.2.2) (λ(o:List AS×Int×List Block) j=>(o.1,o.2.1,j,o.2.2)) r.length
    (λj o=>I (40*i+j) o) (λq=>q= .inr (.inr<|.inr ([],false))\/∃o,q= .inl o/\I (40*i+40) o)
    (λo j hj hs=>by
     obtain⟨ss,sq,bl⟩:=o;obtain⟨ps,p1,p2,p3,p4,p5,p6,p7,p8⟩:=hs;simp only at p1 p2 p4 p5 p6 p7;have hx:=Ab hj;have f:j<(C8 r live 1000000001).length:=by rw[Kn];exact hj
     have c:=Ab f;simp only[EO,DW hj,Au,hx,c,Aa];rw[ad1];have skip:I (40*i+(j+1)) (ss,sq,bl):=⟨ps,p1,p2,p3,p4,p5,by show sq<=_;omega,by grind,p8⟩
     cases k:(C8 r live 1000000001)[j]with
     |false=>
      simp only[AN,Ae,Aa];exact .inl ⟨(ss,sq,bl),rfl,skip⟩
     |true=>
      simp only[Ag,Ac]
      cases hb:(r[j].Block !=b)with
      |true=>
       simp only[Ae,Aa];exact .inl ⟨(ss,sq,bl),rfl,skip⟩
      |false=>
       simp only[Ac,Aa]
       cases t:(r[j].Leaf !=(i:Int))with
       |true=>
        simp only[Ae,Aa];exact .inl ⟨(ss,sq,bl),rfl,skip⟩
       |false=>
        simp only[Ac,Aa];obtain⟨m1,m2,m3⟩:=aF h l3 hx<|by rw[c,k]
        rcases AAs p2 p1 (by omega) (Page.mk r[j].Page.Kind sq r[j].Page.Tx r[j].Page.Part r[j].Page.Count r[j].Page.Text)with⟨s,g',w1,w2,w3,w4,_⟩|w
        ·rw[w1];simp only[Aa,Ag,Ac];rw[Bv,Ak,Bg,Cm,show((ss.length+1:Nat):Int)-1=(ss.length:Int) by omega,FB];simp only[Aa]
         cases u:(s.Block==b)with
         |true=>simp
         |false=>
          simp only[Ac];rw[Cp];refine .inl ⟨(ss++ [s],sq+1,g'.Blocks),rfl,_,w2,w3,W7 p3 (λq hq=>p4 q hq) p5,λp hp=>?_,by grind,by grind,by simp;omega,λp hp=>?_⟩
          ·grind
          rw[Ap,Bu]at hp
          rcases hp with hp|rfl
          ·exact p8 p hp
          exact⟨⟨m1,m2,_,m3,rfl⟩,w4⟩
        rw[w]
        simp)
    (λo hs=>⟨.inl (o.1,o.2.1,o.2.2),by simp only[EO,DH],.inr ⟨o,rfl,by grind⟩⟩) (s:=o) (by omega)
   rw[q1]
   rcases q2 with rfl|⟨o',rfl,q2⟩
   ·simp
   simp only[Aa,Bo];rw[ad1]
   exact .inl ⟨o',rfl,by omega⟩)
  (λo ho=>⟨.inl o.1,by rfl,.inr ⟨o.1,o.2.1,o.2.2,rfl,ho⟩⟩) (s:=([],d.Seq,d.Flash.Blocks)) I0
 grind
theorem AAN {ps:List Page} (h:HY d r) {steps:List AS} (hp:Jq d.Flash steps ps g) (ha:H7 d.Seq ps) (hl:steps.length<=160) (hm:∀p∈ps,sJ d r p/\JA p) (k:Nat):
  ∃m d',Steps d.Flash (steps.take k) m/\BA m/\C5 m=some (d',true)/\d'.Flash=m/\HY d' (r++(Cl steps ps).take k)/\AFA d d'/\d'.Base=d.Base/\Zn d.Flash m/\∀c,DQ (Bb d.Store) c->BZ (r++(Cl steps ps).take k) c=BZ r c:=by
 have b:=(FD hp).2;have w:=h.few
 have f:∀y∈r,y.Page.Seq<d.Seq:=λy hy=>by rw[h.dev.seq];exact(Oj r).1 y hy
 obtain⟨m,a⟩:=Vk k hp;have l:=W8 h.dev.fl (FD a).1;have ascT:∀(ps:List Page) (n:Int) (k:Nat),H7 n ps->H7 n (ps.take k):=by
  intro ps
  induction ps with
  |nil=>grind
  |cons p ps ih=>
   intro n k ha
   cases k with
   |zero=>trivial
   |succ k=>exact⟨ha.1,ih _ k ha.2⟩
 have o:=cU h.dev.fl h.dev.sr a f<|ascT _ _ k ha;rw[Ye]at o;obtain⟨d',u1,u2,u3⟩:=Lf l o;have h0:=bL b;have ascG:∀(ps:List Page) (n:Int) (i:Nat) (p:Page),H7 n ps->ps[i]?=some p->n<=p.Seq/\∀j q,j<i->ps[j]?=some q->q.Seq<p.Seq:=by
  intro ps
  induction ps with
  |nil=>grind
  |cons x ps ih=>
   intro n i p ha hp
   cases i with
   |zero=>
    simp only[Jo,Aj]at hp;rw[<-hp];exact⟨ha.1,λj q hj=>by omega⟩
   |succ i=>
    obtain⟨i1,i2⟩:=ih _ i p ha.2 (by simpa using hp);have:=ha.1;refine⟨by omega,λj q hj hq=>?_⟩
    cases j with
    |zero=>grind
    |succ j=>grind
 have main:∀n,n<=(Cl steps ps).length->JO (r++(Cl steps ps).take n)/\Hg (r++(Cl steps ps).take n) (DQ<|Bb d.Store)/\Bj (r++(Cl steps ps).take n)=Bj r/\∀c,DQ (Bb d.Store) c->BZ (r++(Cl steps ps).take n) c=BZ r c:=by
  intro n
  induction n with
  |zero=>intro _;rw[Jm,A8];exact⟨h.core,h.data,rfl,λ_ _=>rfl⟩
  |succ n ih=>
   intro hn;obtain⟨i1,i2,i3,i4⟩:=ih (by omega);have hx:(Cl steps ps)[n]?=some (Cl steps ps)[n]:=Ab (by omega);have s:=LT hx;obtain⟨⟨m1,m2,y,m3,m4⟩,m5⟩:=hm _<|Ar s;obtain⟨a1,a2⟩:=ascG ps d.Seq n _ ha s;rw[Al (by omega),<-AE];have t:TR (Cl steps ps)[n].Page.Text=BZ r (Cl steps ps)[n].Page.Tx:=by unfold BZ;rw[m3,m4];rfl
   have u:CT (r++(Cl steps ps).take n)<=(Cl steps ps)[n].Page.Seq:=by
    refine(Oj _).2.2 _ (m5.2.1.1) (λz hz=>?_)
    rcases Ap.1 hz with hz|hz
    ·grind
    obtain⟨j,hj,rfl⟩:=A5 hz;rw[B4]at hj;rw[Kz];exact a2 j _ (by omega)<|LT<|Ab<|by omega
   refine⟨JO.add i1 (by simp;omega) m5 u (λhh=>by omega),qR i2 (by rw[t,i4 _ m2]),by rw[Yd _ (by omega),i3],λc hc=>?_⟩;by_cases e:(Cl steps ps)[n].Page.Kind=1/\(Cl steps ps)[n].Page.Tx=c
   ·have:BZ (r++(Cl steps ps).take n++ [(Cl steps ps)[n]]) c=TR (Cl steps ps)[n].Page.Text:=by unfold BZ;rw[MJ,AF e];rfl
    rw[this,t,e.2]
   rw[<-i4 c hc];unfold BZ;rw[MJ,AG e]
 have v:JO (r++(Cl steps ps).take k)/\Hg (r++(Cl steps ps).take k) (DQ<|Bb d.Store)/\Bj (r++(Cl steps ps).take k)=Bj r/\∀c,DQ (Bb d.Store) c->BZ (r++(Cl steps ps).take k) c=BZ r c:=by
  by_cases e:k<=(Cl steps ps).length
  ·exact main k e
  have:=main _<|Ax _
  grind
 obtain⟨k1,k2,k3,k4⟩:=v;obtain⟨e1,e2,e3⟩:=Hu h.dev u2 (by rw[k3]);exact⟨m,d',(FD a).1,l,u1,u3,⟨u2,k1,by rw[e1];exact k2⟩,⟨e1,e2⟩,e3,λ_=>Vj a,k4⟩
theorem RF (h:HH d r) {live:List Int} (hl:live.length<=16777216) (t:ByteArray):∃v,Iy d.Flash live t=some v/\((v=0/\∀c∈live,BZ r c≠some t)\/(v∈live/\BZ r v=some t)):=by
 have hr:=h.pages;unfold Iy Tr;rw[h.scan.s];simp only[Aa];obtain⟨b,h1,h2⟩:=AJ (body:=λs:Int=>Fv r live t s) (λ(_:Unit) i=>i) live.length (λi _=>∀c∈live.take i,BZ r c≠some t) (λb=>(b= .inl ()/\∀c∈live,BZ r c≠some t)\/∃v,b= .inr v/\v∈live/\BZ r v=some t)
  (λ_ i hi hs=>by
   have hx:=Ab hi;simp only[Fv,DW hi,Au,hx,Aa];obtain⟨u,ok,k1,k2⟩:=ZE hr live[i];rw[k1,Aa,ad1]
   have no:BZ r live[i]≠some t->∀c∈live.take (i+1),BZ r c≠some t:=λe c hc=>by
    rw[Al hi,Ap,Bu]at hc
    grind
   cases ok with
   |false=>
    simp only[Ac,Aa];exact .inl ⟨(),by first|rfl|trivial,no (by rw[k2];simp)⟩
   |true=>
    simp only[Ae,Aa];rw[AF rfl]at k2
    cases a:seq u t with
    |true=>
     rw[JU,A4]at a
     grind
    |false=>
     rw[JU,E0]at a;refine .inl ⟨(),rfl,no ?_⟩
     grind)
  (λ_ hs=>⟨_,by simp only[Fv,DH],.inl ⟨rfl,by grind⟩⟩) (s:=()) (by simp)
 grind
structure AEk (q:RR):Prop where
 kind:1<=q.Kind/\q.Kind<=6
 vol:1<=q.Vol/\q.Vol<=9
 text:(L q.Text).length<=64
 sec:0<=q.Sector/\q.Sector<=15
 of_:0<=q.Of/\q.Of<=9
 cl:q.Kind=4->1<=q.Of
 no:q.Kind≠4->q.Of=0
 tx:q.Kind≠1->L q.Text=[]
theorem WV (q:RR):∃v,N7 q=some v/\(v=true->AEk q):=by
 unfold N7;simp only[Ey,Aa];by_cases h1:1<=q.Kind/\q.Kind<=6
 ·rw[Ad h1];by_cases h2:1<=q.Vol/\q.Vol<=9
  ·rw[Ad h2];by_cases h3:FU q.Text>64
   ·rw[Ad h3];simp
   rw[Ah h3];rw[B3]at h3;simp only[Ag,Ac];have ht:(cond (q.Kind !=1) (some<|!(seq q.Text<|bs [])) (some false):Option Bool)=some (decide<|q.Kind≠1/\L q.Text≠ []):=by
    by_cases e:q.Kind=1
    ·grind
    rw[show(q.Kind !=1)=true by simpa using e,RL,ET];by_cases e2:L q.Text=[]
    ·grind
    grind
   rw[ht];simp only[Aa];by_cases h4:q.Kind≠1/\L q.Text≠ []
   ·grind
   rw[Ah h4];simp only[Ac]
   have a:q.Kind≠1->L q.Text=[]:=λhk=>Classical.byContradiction λhh=>h4 ⟨hk,hh⟩
   by_cases h5:q.Kind=4
   ·rw[show(q.Kind==4)=true by simpa using h5];simp only[Ae];by_cases h6:q.Sector=0
    ·rw[show(q.Sector==0)=true by simpa using h6];refine⟨_,rfl,λhh=>?_⟩;rw[A4]at hh;exact⟨h1,h2,by omega,by omega,by omega,λ_=>hh.1,λhk=>absurd h5 hk,a⟩
    grind
   rw[show(q.Kind==4)=false by simpa using h5];simp only[Ac];by_cases h6:q.Of=0
   ·rw[show(q.Of !=0)=false by simp[h6]];simp only[Ac];by_cases h7:q.Kind=3\/q.Kind=5
    ·have:(cond (q.Kind==3) (some true) (some<|q.Kind==5):Option Bool)=some true:=by grind
     rw[this];refine⟨_,rfl,λhh=>?_⟩;rw[Da]at hh;exact⟨h1,h2,by omega,by omega,by omega,λhk=>absurd hk h5,λ_=>h6,a⟩
    have:(cond (q.Kind==3) (some true) (some<|q.Kind==5):Option Bool)=some false:=by grind
    rw[this];refine⟨_,rfl,λhh=>?_⟩;rw[A4]at hh;exact⟨h1,h2,by omega,hh,by omega,λhk=>absurd hk h5,λ_=>h6,a⟩
   grind
  rw[Ah h2];simp
 rw[Ah h1];simp
def vD (d:Ay) (r:List Aq) (q:RR) (x:C3) (a:ByteArray):Prop:=GM x=true/\x.Kind≠1/\x.Vol=q.Vol/\((L a=[]/\(x.Kind=4->DQ (Bb d.Store) x.Chunk/\BZ r x.Chunk=some q.Text))\/(x.Kind=4/\x.Chunk=d.Store.Next/\L a≠ []/\TR a=some q.Text/\∀c,DQ (Bb d.Store) c->BZ r c≠some q.Text))
theorem WB (h:HH d r) (q:RR):∃a text no,Fp d q=some (a,text,no)/\((a=[]/\text=bs [])\/(no=0/\∃x,a=[x]/\vD d r q x text))/\(no≠0->a=[]):=by
 have j:=h.st.len;have b:=h.st.nx;obtain⟨v,a1,a2⟩:=WV q;unfold Fp;rw[a1];simp only[Aa]
 cases v with
 |false=>exact⟨_,_,_,rfl,.inl ⟨rfl,rfl⟩,λ_=>rfl⟩
 |true=>
  have hq:=a2 rfl;simp only[Ag,Ac];have g:=hq.kind;obtain⟨w,hw⟩:∃w,Dk d.Store q.Vol=some w:=by
   rcases Eb d.Store (by omega) q.Vol with⟨e,_⟩|⟨k,_,e,_⟩<;>exact⟨_,e⟩
  rw[hw];simp only[Aa];by_cases h34:q.Kind=3\/q.Kind=4
  ·have:(cond (q.Kind==3) (some true) (some<|q.Kind==4):Option Bool)=some true:=by grind
   rw[this];simp only[Aa,Ae]
   cases decide (w>=0)with
   |true=>grind
   |false=>
    simp only[Ac];obtain⟨j2,i⟩:∃j2,(cond (q.Kind==4) ((Dk d.Store q.Of).bind λv3=>some<|decide<|v3<0) (some false):Option Bool)=some j2:=by
     cases q.Kind==4 with
     |false=>exact⟨_,rfl⟩
     |true=>
      rcases Eb d.Store (by omega) q.Of with⟨e,_⟩|⟨k,_,e,_⟩<;>rw[e]<;>exact⟨_,rfl⟩
    rw[i];simp only[Aa]
    cases j2 with
    |true=>grind
    |false=>
     simp only[Ac]
     cases decide (ln d.Store.Vols>=3)with
     |true=>grind
     |false=>
      refine⟨_,_,_,rfl,.inr ⟨rfl,_,rfl,ADJ hq.vol hq.of_,by simp,rfl,.inl ⟨ET _,λhh=>by simp at hh⟩⟩,λhh=>absurd rfl hh⟩
  have:(cond (q.Kind==3) (some true) (some<|q.Kind==4):Option Bool)=some false:=by grind
  rw[this];simp only[Aa,Ac]
  cases decide (w>=0)with
  |false=>exact⟨_,_,_,rfl,.inl ⟨rfl,rfl⟩,λ_=>rfl⟩
  |true=>
   simp only[Ag,Ac]
   cases k1:(q.Kind==1)with
   |true=>
    simp only[Ae];obtain⟨live,l1,l2,l3,l4⟩:=GD h.st;obtain⟨c,f1,f2⟩:=RF h l4 q.Text;rw[l1,Aa,f1];simp only[Aa]
    rcases f2 with⟨rfl,f2⟩|⟨f2,f3⟩
    ·obtain⟨z,z1,z2,z3⟩:=qB q.Text hq.text;rw[show((0:Int)==0)=true from rfl,z1];refine⟨_,_,_,rfl,.inr ⟨rfl,_,rfl,AAm hq.vol (by have:=hq.sec;omega) ⟨b.1,b.2⟩,by simp,rfl,.inr ⟨rfl,rfl,?_,?_,λc hc=>f2 c<|(l3 c).2 hc⟩⟩,λhh=>absurd rfl hh⟩
     ·grind
     show TR z=some q.Text;unfold TR;rw[z2]
    have f:=(l3 c).1 f2;have l:=YS h.st f;rw[show(c==0)=false by grind];refine⟨_,_,_,rfl,.inr ⟨rfl,_,rfl,AAm hq.vol (by have:=hq.sec;omega) (by omega),by simp,rfl,.inl ⟨ET _,λ_=>⟨f,f3⟩⟩⟩,λhh=>absurd rfl hh⟩
   |false=>
    simp only[Ac]
    cases k2:(q.Kind==2)with
    |true=>
     refine⟨_,_,_,rfl,.inr ⟨rfl,_,rfl,?_,by simp,rfl,.inl ⟨ET _,λhh=>by simp at hh⟩⟩,λhh=>absurd rfl hh⟩;have:=hq.vol;have:=hq.sec;unfold GM
     grind
    |false=>
     simp only[Ac]
     cases k5:(q.Kind==5)with
     |true=>
      refine⟨_,_,_,rfl,.inr ⟨rfl,_,rfl,?_,by simp,rfl,.inl ⟨ET _,λhh=>by simp at hh⟩⟩,λhh=>absurd rfl hh⟩;have:=hq.vol;unfold GM
      grind
     |false=>grind
theorem pL (h:Dr l nx x=some (l',nx')) (hk:x.Kind≠1):(∀c,DQ l' c->DQ l c\/c=x.Chunk)/\nx<=nx'/\nx'<=max nx (x.Chunk+1):=by
 unfold Dr at h;split at h
 ·cases h
 first
  |rw[AG hk]at h
  |skip
 split at h
 ·split at h
  ·cases h
  injection h with h
  injection h with h1 h2
  subst h1 h2;refine⟨λc hc=>?_,by omega,by omega⟩;obtain⟨h0,p,hp,hx⟩:=hc;unfold sO at hp;simp only[Ap,Be,Bu]at hp
  rcases hp with(hp|rfl)|hp
  ·exact .inl ⟨h0,p,hp.1,hx⟩
  ·simp only at hx
   have zz:c∉Uf:=λhz=>by have:=Dx hz;omega
   split at hx
   ·cases hg:Ld l x.Arg with
    |none=>grind
    |some row=>
     rw[hg]at hx;unfold Ld at hg;obtain⟨w,a,b⟩:=AX.1 hg;have d:=List.mem_of_find?_eq_some a;exact .inl ⟨h0,w,d,by rw[b];exact hx⟩
   exact absurd hx zz
  exact .inl ⟨h0,p,hp.1,hx⟩
 split at h
 ·cases h
 split at h
 ·injection h with h
  injection h with h1 h2
  subst h1 h2;refine⟨λc hc=>?_,by omega,by omega⟩;obtain⟨h0,p,hp,hx⟩:=hc;exact .inl ⟨h0,p,(Be.1 hp).1,hx⟩
 injection h with h
 injection h with h1 h2
 subst h1 h2;refine⟨λc hc=>?_,by omega,by omega⟩;obtain⟨h0,p,hp,hx⟩:=hc;unfold rL at hp;obtain⟨w,hw,rfl⟩:=A9.1 hp;split at hx
 ·rcases CI hx with hx|hx
  ·exact .inl ⟨h0,w,hw,hx⟩
  exact .inr hx
 exact .inl ⟨h0,w,hw,hx⟩
theorem bT (h:Dr l nx x=some (l',nx')) (hk:x.Kind≠1):∀p∈l',(∃p'∈l,p'.1=p.1)\/p.1=x.Vol:=by
 unfold Dr at h;split at h
 ·cases h
 first
  |rw[AG hk]at h
  |skip
 split at h
 ·split at h
  ·cases h
  injection h with h
  injection h with h1 h2
  subst h1 h2;intro p hp;unfold sO at hp
  grind
 split at h
 ·cases h
 split at h
 ·injection h with h
  injection h with h1 h2
  subst h1 h2
  exact λp hp=> .inl ⟨p,(Be.1 hp).1,rfl⟩
 injection h with h
 injection h with h1 h2
 subst h1 h2;intro p hp;unfold rL at hp
 grind
theorem dE (h:HH d r):∃v,L5 d=some v:=by
 have hr:=h.pages;have ht:1<=d.Tx/\d.Tx<=1000000001:=by
  rw[h.tx];have h1:=Zs r;refine⟨h1.2.1,h1.2.2 _ (by omega) λy hy _=>?_⟩;have:=(hr.tx y hy).2;omega
 unfold L5
 cases(d.Base !=sb d.Tx 1)with
 |true=>exact⟨_,rfl⟩
 |false=>
  simp only[Ac];rw[h.scan.s,Aa,Pc r hr];simp only[Aa];obtain⟨g1,_⟩:=Ry hr;obtain⟨b,h1,_⟩:=AJ (body:=λs:Int=>GC d (Bj r) s) (λ(_:Unit) i=>i) (Bj r).length (λ_ _=>True) (λ_=>True)
   (λ_ i hi _=>by
    have hx:=Ab hi;simp only[GC,DW hi,Au,hx,Aa];rw[ad1]
    cases((Bj r)[i].Num==d.Base)with
    |false=>simp
    |true=>
     simp only[Ae]
     cases a:(Bj r)[i].Recs with
     |nil=>exact .inr ⟨_,rfl,trivial⟩
     |cons q m=>
      have hg:gi (q::m) 0=some q:=Au (i:=0)
      grind)
   (λ_ _=>⟨.inl (),by simp only[GC,DH],trivial⟩) (s:=()) trivial
  rw[h1]
  cases b with
  |inl u=>exact⟨_,rfl⟩
  |inr v=>exact⟨v,rfl⟩
theorem dI (h:HH d r):∃v,L9 d=some v:=by
 have hn:=h.fl.n;obtain⟨live,l1,_,_,l4⟩:=GD h.st;unfold L9;rw[h.scan.s,l1];simp only[Aa];rw[N8 r live d.Base h.scan.len l4,N8 r live 1000000000 h.scan.len l4];simp only[Aa]
 have a:∀b,live.foldl (dY r) (r.map<|Du b)=C8 r live b:=λ_=>rfl
 rw[a,a];obtain⟨b,h1,_⟩:=AJ (body:=λs:Int×Int×Int=>DD d r (C8 r live d.Base) (C8 r live 1000000000) s.1 s.2.1 s.2.2) (λ(o:Int×Int) i=>(o.1,o.2,i)) d.Flash.Blocks.length (λ_ _=>True) (λ_=>True)
  (λo i hi _=>by
   have hx:=Ab hi;have hP:=h.fl.blk _<|Az hi;simp only[DD,DW hi,Au,hx,Aa];rw[aA r _ (i:Int) h.scan.len<|Kn _ _ _,aA r _ (i:Int) h.scan.len<|Kn _ _ _,KD _ hP.four,ad1];simp only[Aa,JL]
   cases(bif !d.Flash.Blocks[i].Bad then _ else false)with
   |true=>simp
   |false=>grind)
  (λo _=>⟨o.1,by simp only[DD,DH],trivial⟩) (s:=(-1,4)) trivial
 grind
theorem HH.seqs (h:HH d r):0<=d.Seq/\d.Seq<=1000000001:=by
 rw[h.seq];have h1:=Oj r;refine⟨by omega,h1.2.2 _ (by omega) λy hy=>?_⟩;have:=(h.pages.seq y hy).2;omega
theorem iX (h:∀y∈r',y.Page.Kind=2->y.Page.Tx<DO r+n):DO r'<=DO r+n:=(Zs r').2.2 _ (by have:=(Zs r).2.1;omega) h
theorem YH (n:Nat) (hy:y∈r) (hk:y.Page.Kind=2):y.Page.Tx<DO r+n:=by have:=(Zs r).1 y hy hk;omega
theorem gF {seq tx:Int} (h:p∈Cq seq tx T):p.Tx=tx:=by
 unfold Cq at h
 grind
theorem jC (h:∀y∈r',y.Page.Seq<CT r+n):CT r'<=CT r+n:=(Oj r').2.2 _ (by have:=(Oj r).2.1;omega) h
theorem YJ (n:Nat) (hy:y∈r):y.Page.Seq<CT r+n:=by have:=(Oj r).1 y hy;omega
theorem sD {seq tx:Int} (h:p∈Cq seq tx T):p.Seq<seq+T.length:=by
 unfold Cq at h
 grind
theorem e8 {c:Int} {a:ByteArray} (h:p∈Dg d c a++Cq (Js d a) d.Tx T):p.Seq<d.Seq+1+T.length:=by
 rcases Ap.1 h with h|h
 ·unfold Dg at h
  grind
 have h1:=sD h;have h2:Js d a<=d.Seq+1:=by unfold Js;split<;>omega
 omega
theorem Pi {seq tx:Int} (h:p∈Cq seq tx T):p.Kind=2:=by
 unfold Cq at h
 grind
def zH (m:Flash) (s:AS) (g:Flash):Prop:=BA g/\Zn m g/\((s.Kind=1/\KJ 0 g.Blocks=KJ 0 m.Blocks)\/(s.Kind=2/\KJ 0 g.Blocks=(KJ 0 m.Blocks).filter λy=>y.Block !=s.Block))
def Yi (f:Flash) (ss:List AS) (k:Nat) (g:Flash):Prop:=∃m,Steps f (ss.take k) m/\(g=m\/∃s,ss[k]?=some s/\Si m s/\zH m s g)
theorem Qt:∀{f:Flash} {a:List AS} {g m:Flash},Steps f a g->Steps f a m->g=m
 |f,[],g,m,h,k=>by rw[show g=f from h,show m=f from k]
 |f,s::a,g,m,h,k=>Qt h.2 k.2
theorem iB {m:Flash} {a b:List AS} (h:Yi f (a++b) k g) (hs:Steps f a m):(k<a.length/\Yi f a k g)\/(a.length<=k/\Yi m b (k-a.length) g):=by
 obtain⟨x,h1,h2⟩:=h;by_cases e:k<a.length
 ·left;rw[List.take_append_of_le_length<|by omega]at h1;rw[Cg e]at h2;exact⟨e,x,h1,h2⟩
 right;rw[List.take_append,AL<|by omega]at h1;rw[B8<|by omega]at h2;obtain⟨y,y1,y2⟩:=(Mb _ _ _ _).1 h1;rw[Qt y1 hs]at y2;exact⟨by omega,x,y2,h2⟩
structure HX (n:Nat) (d:Ay) (r:List Aq) (d':Ay) (r':List Aq):Prop where
 good:HY d' r'
 ab:Bb d'.Store=Bb d.Store
 nx:d'.Store.Next=d.Store.Next
 pg:∀y∈r',y.Page.Kind=1->∃z∈r,z.Page.Kind=1/\z.Page.Tx=y.Page.Tx/\z.Page.Text=y.Page.Text
 tx:DO r'<=DO r+n
 wear:∀w:Int,Fl d.Flash w->Fl d'.Flash (w+n)
 text:∀c,DQ (Bb d.Store) c->BZ r' c=BZ r c
 sq:CT r'<=CT r+200*n
structure As (d:Ay) (r:List Aq) (d':Ay) (r':List Aq):Prop where
 good:HY d' r'
 ab:Bb d'.Store=Bb d.Store
 nx:d'.Store.Next=d.Store.Next
 tx:DO r'<=DO r+1
 wear:∀w:Int,Fl d.Flash w->Fl d'.Flash (w+1)
 text:∀c,DQ (Bb d.Store) c->BZ r' c=BZ r c
theorem As.torn (h:As d a e b) (hg:BA g) (hp:KJ 0 g.Blocks=KJ 0 e.Flash.Blocks) (hw:Zn e.Flash g):∃x,C5 g=some (x,true)/\x.Flash=g/\As d a x b:=by
 obtain⟨x,u1,u2,u3⟩:=Lf hg (r:=b) (by rw[hp];exact h.good.dev.sr);obtain⟨e1,e2,_⟩:=Hu h.good.dev u2 rfl;exact⟨x,u1,u3,⟨⟨u2,h.good.core,by rw[e1];exact h.good.data⟩,by rw[e1,h.ab],by rw[e2,h.nx],h.tx,λw hh=>by rw[u3];exact hw _<|h.wear w hh,h.text⟩⟩
theorem YE (h:Zn f g) (w:Int) (hw:Fl f w):Fl g (w+n):=λb hb=>by have:=h w hw b hb;omega
theorem HX.refl (h:HY d r):HX n d r d r:=⟨h,rfl,rfl,λy hy hk=>⟨y,hy,hk,rfl,rfl⟩,by omega,YE λ_ h=>h,λ_ _=>rfl,by omega⟩
theorem HX.trans {g:Ay} {c:List Aq} (h:HX n d a e b) (k:HX m e b g c):HX (n+m) d a g c:=⟨k.good,by rw[k.ab,h.ab],by rw[k.nx,h.nx],λy hy hk=>by
 obtain⟨z,z1,z2,z3,z4⟩:=k.pg y hy hk;obtain⟨w,w1,w2,w3,w4⟩:=h.pg z z1 z2
 grind,by have:=h.tx;have:=k.tx;omega,λw hw=>by
 have:=k.wear _<|h.wear w hw
 grind,λc hc=>by rw[k.text c (by rw[h.ab];exact hc),h.text c hc],by have:=h.sq;have:=k.sq;omega⟩
theorem HX.mono (h:HX n d a e b) (hm:n<=m):HX m d a e b:={h with
 tx:=by have:=h.tx;omega
 wear:=λw hw x hx=>by have:=h.wear w hw x hx;omega
 sq:=by have:=h.sq;omega}
theorem HX.torn (h:HX n d a e b) (hg:BA g) (hp:KJ 0 g.Blocks=KJ 0 e.Flash.Blocks) (hw:Zn e.Flash g):∃x,C5 g=some (x,true)/\x.Flash=g/\HX n d a x b:=by
 obtain⟨x,u1,u2,u3⟩:=Lf hg (r:=b) (by rw[hp];exact h.good.dev.sr);obtain⟨e1,e2,_⟩:=Hu h.good.dev u2 rfl;exact⟨x,u1,u3,⟨⟨u2,h.good.core,by rw[e1];exact h.good.data⟩,by rw[e1,h.ab],by rw[e2,h.nx],h.pg,h.tx,λw hh=>by rw[u3];exact hw _<|h.wear w hh,h.text,h.sq⟩⟩
def Lu (n:Nat) (d:Ay) (r:List Aq) (steps:List AS):Prop:=(∃m,Steps d.Flash steps m)/\∀k g,k<=steps.length->Yi d.Flash steps k g->∃x rx,C5 g=some (x,true)/\x.Flash=g/\HX n d r x rx
theorem gB {steps:List AS} (h1:∀s∈steps,s.Kind=1) (hc:∀k,k<=steps.length->∃x rx,Steps d.Flash (steps.take k) x.Flash/\C5 x.Flash=some (x,true)/\HX n d r x rx):Lu n d r steps:=by
 refine⟨?_,λk g hk hg=>?_⟩
 ·obtain⟨x,rx,c1,_⟩:=hc steps.length (Ax _)
  grind
 obtain⟨x,rx,c1,c2,c3⟩:=hc k hk;obtain⟨m,m1,m2⟩:=hg;have:=Qt m1 c1;subst this
 rcases m2 with rfl|⟨s,s1,_,s2,s3,⟨_,s4⟩|⟨s4,_⟩⟩
 ·grind
 ·obtain⟨y,y1,y2,y3⟩:=c3.torn s2 s4 s3
  grind
 grind
theorem Lu.full {steps:List AS} (h:HY d r) (hc:Lu n d r steps) (hl:steps.length<=1000000):∃x rx,Hx d steps=some x/\Steps d.Flash steps x.Flash/\HX n d r x rx:=by
 obtain⟨⟨m,hm⟩,hk⟩:=hc;obtain⟨x,rx,x1,x2,x3⟩:=hk steps.length m (Ax _) ⟨m,by grind,.inl rfl⟩;exact⟨x,rx,N2 h.dev hm (by omega) x1,by rw[x2];exact hm,x3⟩
theorem yY {re:List Aq} {a b:List AS} (hk:HX n d r e re) (hs:Steps d.Flash a e.Flash) (ha:Lu n d r a) (hb:Lu m e re b):Lu (n+m) d r (a++b):=by
 refine⟨?_,λk g c hg=>?_⟩
 ·obtain⟨x,hx⟩:=hb.1;exact⟨x,(Mb _ _ _ _).2 ⟨_,hs,hx⟩⟩
 rw[Ak]at c
 rcases iB hg hs with⟨e1,e2⟩|⟨e1,e2⟩
 ·obtain⟨x,rx,x1,x2,x3⟩:=ha.2 k g (by omega) e2;exact⟨x,rx,x1,x2,x3.mono<|by omega⟩
 obtain⟨x,rx,x1,x2,x3⟩:=hb.2 _ g (by omega) e2;exact⟨x,rx,x1,x2,hk.trans x3⟩
theorem aE (r m:List Aq) (c:Int) (h:∀y∈m,¬(y.Page.Kind=1/\y.Page.Tx=c)):KL (r++m) c=KL r c:=by
 unfold KL;rw[AI,Bh.2 λy hy hh=>h y hy<|SD.1 hh,A8]
theorem cZ (h:HY d r) (hw:Fl d.Flash 999999999):∃steps ok,LG d=some (steps,ok)/\steps.length<=200/\(ok=false->steps=[])/\(ok=true->Lu 1 d r steps):=by
 have hv:=h.dev.st.vs;obtain⟨dead,d1,d2,d3⟩:=ZR h.dev;unfold LG;rw[d1];simp only[Aa]
 cases hd:dead with
 |cons b m=>
  rw[Ad (by rw[Bv,AA];omega:ln (b::m)>0),show gi (b::m) 0=some b from Au (i:=0)];simp only[Ae,Aa];refine⟨_,_,rfl,by simp,(λhh=>by cases hh),λ_=>?_⟩;obtain⟨x,x1,x2,x3⟩:=d3 b (by rw[hd];simp);have hc:ABm d.Flash b:=⟨x,x1,x2,λe=>by have:=hw x<|Ar (Cy x1).2;omega⟩;have hs:Si d.Flash (AS.mk 2 b 0<|bs []):= .inr ⟨rfl,hc⟩;obtain⟨w1,w2⟩:=XC h.dev.fl hc;have he:Lq d.Flash (AS.mk 2 b 0<|bs [])=Vx d.Flash b:=by rfl
  have wp:∀g,BA g->KJ 0 g.Blocks=((KJ 0 d.Flash.Blocks).filter λy=>y.Block !=b)->(∀w:Int,Fl d.Flash w->Fl g (w+1))->∃x rx,C5 g=some (x,true)/\x.Flash=g/\HX 1 d r x rx:=by
   intro g g1 g2 g3;obtain⟨d',u1,u2,u3,u4,u5,_,u6⟩:=ABT h x3 g1 g2;exact⟨d',_,u1,u2,u3,u4,u5,λy hy hk=>⟨y,(Be.1 hy).1,hk,rfl,rfl⟩,iX λy hy hk=>YH _ (Be.1 hy).1 hk,by rw[u2];exact g3,u6,jC (n:=200*1) λy hy=>YJ _ (Be.1 hy).1⟩
  refine⟨⟨_,hs,rfl⟩,λk g hk hg=>?_⟩;obtain⟨q,q1,q2⟩:=hg
  cases k with
  |zero=>
   rw[show q=d.Flash from q1]at q2
   rcases q2 with rfl|⟨s,s1,_,s2,s3,⟨s4,_⟩|⟨_,s4⟩⟩
   ·obtain⟨x,u1,u2,u3⟩:=(HX.refl (n:=1) h).torn h.dev.fl rfl λ_ hh=>hh
    grind
   ·grind
   simp only[Jo,Aj]at s1;rw[<-s1]at s4
   exact wp g s2 s4 λw hh y hy=>by have:=s3 w hh y hy;omega
  |succ k=>
   have q1':Steps d.Flash [AS.mk 2 b 0<|bs []] q:=by simpa using q1
   have e:q=Vx d.Flash b:=by rw[show q=Lq d.Flash (AS.mk 2 b 0<|bs [])from q1'.2,he]
   rcases q2 with rfl|⟨s,s1,_⟩
   ·rw[e]
    exact wp _ w1 w2 λw hh=>by rw[<-he];exact fK hh (by omega)<|.inr<|Jv _
   simp at s1
 |nil=>
  rw[show decide (ln ([]:List Int)>0)=false from rfl];simp only[Ac];obtain⟨v,v1⟩:=dE h.dev;rw[v1];simp only[Aa]
  cases v with
  |false=>
   simp only[AN,Ae];unfold ME;rw[VV h.dev.st];simp only[Aa];obtain⟨b1,b2⟩:=iI hv
   rcases RB h.dev.fl h.dev.seqs (Lh (Bb d.Store) d.Store.Next) (by unfold Lh;simp) b2 b1 (bs [])with w|⟨steps,T,g,f,w1,w2,w3,w4,w5,w6,w7,w8,w9⟩
   ·grind
   rw[w2];simp only[Aa];have j:=(FD w7).2;have o:(Cq (Js d<|bs []) d.Tx T).length=T.length:=by unfold Cq;grind
   have l:Dg d f.Chunk (bs [])=[]:=by rfl
   rw[l,A6,o]at j;refine⟨_,_,rfl,by omega,(λhh=>by cases hh),λ_=>gB (RD w7) λk hk=>?_⟩;obtain⟨m,d',r',c1,c2,c3,c4,c5,rfl,cw,c6,c7,c8,c9⟩:=WJ h b1 w3 w4 w5 w6 w7 w9 (λhh=>absurd (ET _) hh) k hk;have a:Bb d'.Store=Bb d.Store/\d'.Store.Next=d.Store.Next:=by
    by_cases e:k<steps.length
    ·obtain⟨e1,e2,_⟩:=Hu h.dev c4 (by rw[c8 e]);exact⟨e1,e2⟩
    obtain⟨q,hq⟩:=(c9<|by omega).1;have hB:d7 (Tx.mk d.Tx q<|Lh (Bb d.Store) d.Store.Next)=true:=rfl;have a:=c4.ab;rw[hq,To,AF hB]at a;have:LL [Tx.mk d.Tx q<|Lh (Bb d.Store) d.Store.Next]=(Bb d.Store,d.Store.Next):=by
     show(CZ [] 1<|Lh (Bb d.Store) d.Store.Next).getD ([],1)=_;rw[iJ hv];rfl
    grind
   have hX:∀y∈(Cl steps<|Dg d f.Chunk (bs [])++Cq (Js d<|bs []) d.Tx T).take k,y.Page.Kind=2/\y.Page.Tx=d.Tx:=λy hy=>by
    have cP:=MH _ _ _ y hy;rw[l,A6]at cP;exact⟨Pi cP,gF cP⟩
   refine⟨d',_,by rw[c5];exact c1,by rw[c5];exact c3,⟨c4,c6,by rw[a.1];exact c7⟩,a.1,a.2,λy hy hk=>?_,iX λy hy hk=>?_,by rw[c5];exact YE (n:=1) cw,λc hc=>?_,jC (n:=200*1) λy hy=>?_⟩
   ·grind
   ·rcases Ap.1 hy with hh|hh
    ·exact YH _ hh hk
    rw[(hX y hh).2,h.dev.tx];omega
   ·unfold BZ;rw[aE _ _ _ λy hy hh=>by grind]
   rcases Ap.1 hy with hh|hh
   ·exact YJ _ hh
   have:=e8<|MH _ _ _ y hh;rw[h.dev.seq]at this;omega
  |true=>
   simp only[Ag,Ac];obtain⟨vi,vi1⟩:=dI h.dev;rw[vi1];simp only[Aa]
   cases decide (vi<0)with
   |true=>grind
   |false=>
    simp only[Ac]
    rcases dQ h.dev h.few vi with w|⟨steps,ps,g,w1,w2,w3,w4,w5,w6,w7⟩
    ·grind
    rw[w1];refine⟨steps,true,rfl,by omega,(λhh=>by cases hh),λ_=>gB (RD w2) λk hk=>?_⟩;obtain⟨m,d',c1,c2,c3,c4,c5,c6,_,cw,c7⟩:=AAN h w2 w4 w5 w6 k;refine⟨d',_,by rw[c4];exact c1,by rw[c4];exact c3,c5,c6.ab,c6.nx,λy hy hk=>?_,iX λy hy hk=>?_,by rw[c4];exact YE (n:=1) cw,c7,jC (n:=200*1) λy hy=>?_⟩
    ·rcases Ap.1 hy with hh|hh
     ·grind
     obtain⟨⟨_,_,z,z1,z2⟩,_⟩:=w6 _<|MH _ _ _ _ hh;obtain⟨a1,a2,a3⟩:=Wg z1
     grind
    ·rcases Ap.1 hy with hh|hh
     ·exact YH _ hh hk
     have:=(w6 _<|MH _ _ _ _ hh).1.1;omega
    rcases Ap.1 hy with hh|hh
    ·exact YJ _ hh
    have:=w7 _<|MH _ _ _ _ hh;rw[h.dev.seq]at this;omega
theorem Mc (h:BA f):∃v:Int,M5 f=some v:=by
 obtain⟨v,v1,_⟩:=X7 f h.cap (by have:=h.few;omega);exact⟨v,v1⟩
theorem Vn (h:HY d r) (hw:Fl d.Flash 999999000) (most:Int):∃d' all r',Hy d most=some (d',all)/\HX 20 d r d' r'/\all.length<=4000/\Steps d.Flash all d'.Flash/\Lu 20 d r all:=by
 unfold Hy;rw[Mx h.dev];simp only[Aa]
 have l:∀{n:Nat} {a:List AS},n<=20->Lu n d r a->Lu 20 d r a:=λhn hc=>⟨hc.1,λk g hk hg=>by
  obtain⟨x,rx,x1,x2,x3⟩:=hc.2 k g hk hg
  exact⟨x,rx,x1,x2,x3.mono hn⟩⟩
 obtain⟨b,h1,d',all,r',h2,h3,h4,h5,h6⟩:=AJ (body:=λs:List AS×Int×List Block×List Vol×List Bz×Int×Int×Int×Int=>EF most s.1 s.2.1 s.2.2.1 s.2.2.2.1 s.2.2.2.2.1 s.2.2.2.2.2.1 s.2.2.2.2.2.2.1 s.2.2.2.2.2.2.2.1 s.2.2.2.2.2.2.2.2)
  (λ(o:List AS×Ay) i=>(o.1,i,o.2.Flash.Blocks,o.2.Store.Vols,o.2.Store.Arena.Knots,o.2.Store.Next,o.2.Seq,o.2.Tx,o.2.Base)) 20
  (λi o=>o.1.length<=200*i/\∃r',HX i d r o.2 r'/\Steps d.Flash o.1 o.2.Flash/\Lu i d r o.1)
  (λb=>∃d' all r',(b= .inr (d',all)\/b= .inl (all,d'.Flash.Blocks,d'.Store.Vols,d'.Store.Arena.Knots,d'.Store.Next,d'.Seq,d'.Tx,d'.Base))/\HX 20 d r d' r'/\all.length<=4000/\Steps d.Flash all d'.Flash/\Lu 20 d r all)
  (λo i hi hs=>by
   obtain⟨all,e⟩:=o;obtain⟨j,r',hg,c,f⟩:=hs;simp only at j hg c f;have m:Ay.mk (Flash.mk e.Flash.Blocks) (Store.mk e.Store.Vols (Arena.mk e.Store.Arena.Knots) e.Store.Next) e.Seq e.Tx e.Base=e:=rfl;have p:Flash.mk e.Flash.Blocks=e.Flash:=rfl;simp only[EF];rw[m,p];obtain⟨v,v1⟩:=Mc hg.good.dev.fl;rw[v1,Ad (by omega:(i:Int)<20)];simp only[Ae,Aa,JL]
   cases(bif decide ((i:Int)<most)then decide (v<12)else false)with
   |false=>
    simp only[Ac];exact .inr ⟨_,rfl,e,all,r',.inr rfl,hg.mono (by omega),by omega,c,l (by omega) f⟩
   |true=>
    simp only[Ae];obtain⟨steps,ok,c1,c2,_,c3⟩:=cZ hg.good (λx hx=>by have:=hg.wear _ hw x hx;omega);rw[c1];simp only[Aa]
    cases ok with
    |false=>
     simp only[AN,Ae];exact .inr ⟨_,rfl,e,all,r',.inl rfl,hg.mono (by omega),by omega,c,l (by omega) f⟩
    |true=>
     obtain⟨d',r2,k1,k2,k3⟩:=(c3 rfl).full hg.good (by omega);simp only[Ag,Ac];rw[k1,Aa,BD (by omega),ad1]
     exact .inl ⟨(all++steps,d'),rfl,by simp;omega,r2,hg.trans k3,(Mb _ _ _ _).2 ⟨_,c,k2⟩,yY hg c f<|c3 rfl⟩)
  (λo hs=>by
   obtain⟨all,e⟩:=o;obtain⟨j,r',hg,c,f⟩:=hs;refine⟨.inl (all,e.Flash.Blocks,e.Store.Vols,e.Store.Arena.Knots,e.Store.Next,e.Seq,e.Tx,e.Base),?_,e,all,r',.inr rfl,hg,by simpa using j,c,f⟩;simp only[EF]
   grind) (s:=([],d)) ⟨by simp,r,HX.refl h,rfl,⟨⟨_,rfl⟩,λk g hk hg=>by
   obtain⟨q,q1,q2⟩:=hg;rw[List.take_nil]at q1;rw[show q=d.Flash from q1]at q2
   rcases q2 with rfl|⟨s,s1,_⟩
   ·obtain⟨x,u1,u2,u3⟩:=(HX.refl (n:=0) h).torn h.dev.fl rfl λ_ hh=>hh
    grind
   simp at s1⟩⟩
 rw[h1]
 rcases h2 with rfl|rfl
 ·grind
 exact⟨d',all,r',rfl,h3,h4,h5,h6⟩
theorem AAg {r:Int} (h:k<16):(Ff K r)[k]?=some (RQ K r k):=by unfold Ff;exact HK h
theorem n8 (h:C9 s) (vol:Int) (hk:k<16):∃c,LH s vol (k:Int)=some c/\((Ld (Bb s) vol=none/\c=0)\/∃a,Ld (Bb s) vol=some a/\a[k]?=some c/\0<=c/\(c≠0->DQ (Bb s) c)):=by
 have hl:=h.len;unfold LH
 rcases Eb s (by omega) vol with⟨e,e2⟩|⟨i,v,e,e2,e3,_⟩
 ·rw[e];exact⟨0,rfl,.inl ⟨LS.1 e2,rfl⟩⟩
 rw[e];simp only[Aa];have hm:=Ar e2;have hr:=h.root _<|A9.2 ⟨v,hm,rfl⟩;rw[cF,Au,e2,Aa,ZL _ (by have:=h.few;omega) h.ar hr hk];have hg:=NW h.asc hm;rw[e3]at hg;have h0:=pR h.ar hr _<|cB hk;exact⟨_,rfl,.inr ⟨_,hg,AAg hk,h0,λb=>⟨by omega,_,A9.2 ⟨v,hm,rfl⟩,cB hk⟩⟩⟩
theorem Sm (h:HY d r) (vol:Int) (hk:k<16):(Ld (Bb d.Store) vol=none/\FI r d.Store vol (k:Int)=some (bs [],false))\/
  ∃a c,Ld (Bb d.Store) vol=some a/\a[k]?=some c/\LH d.Store vol (k:Int)=some c/\((c=0/\FI r d.Store vol (k:Int)=some (bs [],true))\/(0<c/\DQ (Bb d.Store) c/\∃u,BZ r c=some u/\FI r d.Store vol (k:Int)=some (u,true))):=by
 have hl:=h.dev.st.len;obtain⟨c,c1,c2⟩:=n8 h.dev.st vol hk;unfold FI;rw[c1]
 rcases Eb d.Store (by omega) vol with⟨e,e2⟩|⟨i,v,e,e2,e3,_⟩
 ·rw[e];exact .inl ⟨LS.1 e2,rfl⟩
 have hg:=NW h.dev.st.asc<|Ar e2;rw[e3]at hg
 rcases c2 with⟨c2,_⟩|⟨a,c2,c3,c4,c5⟩
 ·grind
 rw[e];simp only[Aa];rw[cF];right;refine⟨a,c,c2,c3,rfl,?_⟩;by_cases e0:c=0
 ·grind
 rw[show(c==0)=false by simpa using e0];simp only[Ac];have b:=c5 e0;obtain⟨u,hu⟩:=h.data.data c b;obtain⟨w,ok,t1,t2⟩:=ZE h.dev.pages c
 grind
theorem Vl (h:HH d r) {q:RR} {a:List C3} {b:ByteArray} (hp:Fp d q=some (a,b,0)):AEk q:=by
 obtain⟨v,a1,a2⟩:=WV q
 cases v with
 |true=>exact a2 rfl
 |false=>
  unfold Fp at hp
  grind
def qL (r r':List Aq) (c:Int) (a:ByteArray):Prop:=(∀y∈r',y.Page.Kind=1->(∃z∈r,z.Page.Kind=1/\z.Page.Tx=y.Page.Tx/\z.Page.Text=y.Page.Text)\/(L a≠ []/\y.Page.Tx=c/\y.Page.Text=a))/\DO r'<=DO r+1/\CT r'<=CT r+10
theorem uJ (h:HY d r) {q:RR} {a:ByteArray} (hx:vD d r q x a):DI d [x] a=some ([],false)\/∃steps d' r',DI d [x] a=some (steps,true)/\steps.length<=10/\Hx d steps=some d'/\HY d' r'/\
  (Bb d'.Store,d'.Store.Next)=(Dr (Bb d.Store) d.Store.Next x).getD (Bb d.Store,d.Store.Next)/\d.Store.Next<=d'.Store.Next/\d'.Store.Next<=d.Store.Next+1/\qL r r' x.Chunk a/\Zn d.Flash d'.Flash/\Steps d.Flash steps d'.Flash/\((∀c,DQ (Bb d.Store) c->BZ r' c=BZ r c)/\(L a≠ []->BZ r' x.Chunk=TR a))/\1<=steps.length/\∀k g,k<steps.length->Yi d.Flash steps k g->∃y ry,C5 g=some (y,true)/\y.Flash=g/\As d r y ry/\qL r ry x.Chunk a:=by
 obtain⟨x1,x2,xv,x3⟩:=hx;have h7:=h.dev.st.nx
 have i:∀z∈ [x],GM z=true:=λz hz=>by grind
 rcases RB h.dev.fl h.dev.seqs [x] (by simp) (by simp) i a with w|⟨steps,T,g,b,w1,w2,w3,w4,w5,w6,w7,w8,w9⟩
 ·exact .inl w
 right;have j:b=x:=by simpa using w1.symm
 subst j;have o:=(FD w7).2;have h2:(Cq (Js d a) d.Tx T).length=T.length:=by unfold Cq;grind
 have h8:(Dg d b.Chunk a).length<=1:=by unfold Dg;split<;>simp
 rw[Ak,h2]at o
 have t:L a≠ []->¬DQ (Bb d.Store) b.Chunk:=λht h3=>by
  rcases x3 with⟨x3,_⟩|⟨_,x4,_⟩
  ·exact ht x3
  have:=YS h.dev.st h3;omega
 have tk:∀k c,DQ (Bb d.Store) c->BZ (r++(Cl steps<|Dg d b.Chunk a++Cq (Js d a) d.Tx T).take k) c=BZ r c:=λk c hc=>by
  unfold BZ;rw[aE _ _ _ λz hz hh=>?_];have h4:=MH _ _ _ z hz
  rcases Ap.1 h4 with hh2|hh2
  ·unfold Dg at hh2
   grind
  have:=Pi hh2;omega
 have tn:L a≠ []->BZ (r++(Cl steps<|Dg d b.Chunk a++Cq (Js d a) d.Tx T).take steps.length) b.Chunk=TR a:=λe=>by
  rw[AL (by unfold Cl;grind),show Dg d b.Chunk a=[Page.mk 1 d.Seq b.Chunk 0 1 a] by unfold Dg;rw[AG e]]
  cases steps with
  |nil=>grind
  |cons s ss=>
   show BZ (r++Aq.mk s.Block s.Leaf (Page.mk 1 d.Seq b.Chunk 0 1 a)::Cl ss (Cq (Js d a) d.Tx T)) b.Chunk=_;unfold BZ;rw[List.append_cons,gM _ _ (λy hy=>by have:=Pi (MH ss _ _ y (by rw[DR];exact hy));omega),MJ,AF ⟨rfl,rfl⟩];rfl
 have fw:∀k,qL r (r++(Cl steps<|Dg d b.Chunk a++Cq (Js d a) d.Tx T).take k) b.Chunk a:=λk=>by
  have cP:∀y∈r++(Cl steps<|Dg d b.Chunk a++Cq (Js d a) d.Tx T).take k,y∈r\/y.Page∈Dg d b.Chunk a++Cq (Js d a) d.Tx T:=λy hy=>(Ap.1 hy).imp id<|MH _ _ _ y
  refine⟨λy hy hk=>?_,iX (n:=1) λy hy hk=>?_,jC (n:=10) λy hy=>?_⟩
  ·rcases cP y hy with hh|hh
   ·grind
   rcases Ap.1 hh with hh|hh
   ·unfold Dg at hh;by_cases e:L a=[]
    ·grind
    grind
   have:=Pi hh;omega
  ·rcases cP y hy with hh|hh
   ·exact YH _ hh hk
   rcases Ap.1 hh with hh|hh
   ·unfold Dg at hh
    grind
   rw[gF hh,h.dev.tx];omega
  rcases cP y hy with hh|hh
  ·exact YJ _ hh
  have:=e8 hh;rw[h.dev.seq]at this;omega
 have cut:∀k g,k<steps.length->Yi d.Flash steps k g->∃y ry,C5 g=some (y,true)/\y.Flash=g/\As d r y ry/\qL r ry b.Chunk a:=λk g hk hg=>by
  obtain⟨m,y,ry,c1,c2,c3,c4,c5,hr',cw,c6,c7,c8,_⟩:=WJ h i w3 w4 w5 w6 w7 w9 t k (by omega);obtain⟨e1,e2,_⟩:=Hu h.dev c4 (by rw[c8 hk]);subst hr';have h5:As d r y (r++(Cl steps<|Dg d b.Chunk a++Cq (Js d a) d.Tx T).take k):=⟨⟨c4,c6,by rw[e1];exact c7⟩,e1,e2,(fw k).2.1,by rw[c5];exact YE (n:=1) cw,tk k⟩;obtain⟨q,q1,q2⟩:=hg;have:=Qt q1 c1;subst this
  rcases q2 with rfl|⟨s,s1,_,s2,s3,⟨_,s4⟩|⟨s4,_⟩⟩
  ·grind
  ·obtain⟨z,z1,z2,z3⟩:=h5.torn s2 (by rw[c5];exact s4) (by rw[c5];exact s3)
   grind
  have:=RD w7 s<|Ar s1;omega
 obtain⟨m,d',r',c1,c2,c3,c4,c5,hr',cw,c6,c7,_,c9⟩:=WJ h i w3 w4 w5 w6 w7 w9 t steps.length<|Ax _;rw[<-c5]at cw;rw[DR]at c1;have u:Steps d.Flash steps d'.Flash:=by rw[c5];exact c1
 have v:qL r r' b.Chunk a:=by rw[hr'];exact fw _
 have tt:(∀c,DQ (Bb d.Store) c->BZ r' c=BZ r c)/\(L a≠ []->BZ r' b.Chunk=TR a):=by grind
 obtain⟨⟨qn,hq⟩,c10⟩:=c9 rfl;have hB:¬d7 (Tx.mk d.Tx qn [b])=true:=by
  unfold d7;simpa using x2
 have f:=c4.ab;rw[hq,To,AG hB,aI,<-h.dev.ab]at f;have h6:CZ (Bb d.Store) d.Store.Next [b]=Dr (Bb d.Store) d.Store.Next b:=by rfl
 simp only[h6]at f;have h0:=N2 h.dev c1 (by omega) c3
 cases l:Dr (Bb d.Store) d.Store.Next b with
 |none=>
  rw[l]at f;have e1:Bb d'.Store=Bb d.Store:=BT Prod.fst f;have e2:d'.Store.Next=d.Store.Next:=BT Prod.snd f;exact⟨steps,d',r',w2,by omega,h0,⟨c4,c6,by rw[e1];exact c7⟩,by rw[e1,e2];rfl,by omega,by omega,v,cw,u,tt,by omega,cut⟩
 |some p=>
  obtain⟨l',nx'⟩:=p;rw[l]at f;have e1:Bb d'.Store=l':=BT Prod.fst f;have e2:d'.Store.Next=nx':=BT Prod.snd f;obtain⟨v1,v2,v3⟩:=pL l x2
  have hz:∀c,DQ l' c->c=b.Chunk->b.Kind≠4->False:=λc hc h9 hk=>by
   have:b.Chunk=0:=by
    have hb:=x1;unfold GM at hb
    grind
   have:=hc.1;omega
  have h1:b.Chunk<=d.Store.Next:=by
   by_cases hk:b.Kind=4
   ·rcases x3 with⟨_,x4⟩|⟨_,x4,_⟩
    ·have:=YS h.dev.st (x4 hk).1;omega
    omega
   have hb:=x1;unfold GM at hb
   grind
  refine⟨steps,d',r',w2,by omega,h0,⟨c4,c6,?_⟩,by rw[e1,e2];rfl,by omega,by omega,v,cw,u,tt,by omega,cut⟩;rw[e1]
  rcases x3 with⟨x3,x4⟩|⟨x3,x4,x5,x6,x7⟩
  ·refine c7.mono λc hc=>?_
   grind
  exact(c10 _ x6 x5 x7).mono v1
def ABI (r r':List Aq) (nx:Int) (a:ByteArray):Prop:=(∀y∈r',y.Page.Kind=1->(∃z∈r,z.Page.Kind=1/\z.Page.Tx=y.Page.Tx/\z.Page.Text=y.Page.Text)\/(y.Page.Tx=nx/\TR y.Page.Text=some a))/\DO r'<=DO r+21/\CT r'<=CT r+4010
def AC4 (d d':Ay) (v:Int):Prop:=∀p∈Bb d'.Store,(∃p'∈Bb d.Store,p'.1=p.1)\/p.1=v
theorem HX.q (h:HX n d r e r') (hn:n<=20) (nx:Int) (t:ByteArray):ABI r r' nx t:=⟨λy hy hk=> .inl (h.pg y hy hk),by have:=h.tx;omega,by have:=h.sq;omega⟩
theorem KM (h:Bb d'.Store=Bb d.Store) (v:Int):AC4 d d' v:=λp hp=> .inl ⟨p,by rw[<-h];exact hp,rfl⟩
theorem ACY (h:HY d r) (hw:Fl d.Flash 999999000) (q:RR):∃d' steps t no r',OZ d q=some (d',steps,t,no)/\HY d' r'/\d.Store.Next<=d'.Store.Next/\d'.Store.Next<=d.Store.Next+1/\ABI r r' d.Store.Next q.Text/\AC4 d d' q.Vol/\∀w:Int,Fl d.Flash w->Fl d'.Flash (w+20):=by
 have a:HX 20 d r d r:=HX.refl h;unfold OZ;rw[Mx h.dev,QG h.dev];simp only[Aa,Ag,Ac];obtain⟨o,v,no,p1,p2,p3⟩:=WB h.dev q;rw[p1];simp only[Aa]
 cases f:(no !=0)with
 |true=>exact⟨_,_,_,_,r,rfl,h,by omega,by omega,a.q (by omega) _ _,KM rfl _,a.wear⟩
 |false=>
  have g:no=0:=by simpa using f
  subst g;have hq:=Vl h.dev p1;simp only[Ac]
  cases h0:(q.Kind==6)with
  |true=>
   simp only[Ae];obtain⟨k,hk⟩:∃k:Nat,q.Sector=(k:Int):=⟨_,(AU hq.sec.1).symm⟩;unfold M8;rw[h.dev.scan.s,hk];simp only[Aa]
   rcases Sm h q.Vol (k:=k) (by have:=hq.sec;omega)with⟨_,e⟩|⟨h1,c,_,_,_,⟨_,e⟩|⟨_,_,u,_,e⟩⟩
   ·rw[e];exact⟨_,_,_,_,r,rfl,h,by omega,by omega,a.q (by omega) _ _,KM rfl _,a.wear⟩
   ·rw[e];exact⟨_,_,_,_,r,rfl,h,by omega,by omega,a.q (by omega) _ _,KM rfl _,a.wear⟩
   rw[e];exact⟨_,_,_,_,r,rfl,h,by omega,by omega,a.q (by omega) _ _,KM rfl _,a.wear⟩
  |false=>
   simp only[Ac];obtain⟨v5,i⟩:=Mc h.dev.fl;rw[i];simp only[Aa];have clean:∃e all re,(cond (decide<|v5<12) ((Hy d 20).bind λv6=>some (v6.2,v6.1.Flash.Blocks,v6.1.Store.Vols,v6.1.Store.Arena.Knots,v6.1.Store.Next,v6.1.Seq,v6.1.Tx,v6.1.Base)) (some ([],d.Flash.Blocks,d.Store.Vols,d.Store.Arena.Knots,d.Store.Next,d.Seq,d.Tx,d.Base)):Option (List AS×List Block×List Vol×List Bz×Int×Int×Int×Int))=some (all,Flash.Blocks<|Ay.Flash e,e.Store.Vols,e.Store.Arena.Knots,e.Store.Next,e.Seq,e.Tx,e.Base)/\HX 20 d r e re/\all.length<=4000:=by
    cases decide (v5<12)with
    |false=>grind
    |true=>
     obtain⟨e,all,re,k1,k2,k3,_⟩:=Vn h hw 20
     grind
   obtain⟨e,all,re,k1,k5,k4⟩:=clean;have k2:=k5.good;rw[k1];simp only[Aa];have j:Ay.mk (Flash.mk e.Flash.Blocks) (Store.mk e.Store.Vols (Arena.mk e.Store.Arena.Knots) e.Store.Next) e.Seq e.Tx e.Base=e:=rfl;have l:Flash.mk e.Flash.Blocks=e.Flash:=rfl;rw[j,l];obtain⟨recs2,text2,no2,s1,s2,_⟩:=WB k2.dev q;rw[s1];simp only[Aa];obtain⟨v9,m⟩:=Mc k2.dev.fl;rw[m];have h2:=k5.nx
   rcases s2 with⟨rfl,rfl⟩|⟨_,x,rfl,s2⟩
   ·have hw:DI e [] (bs [])=some ([],true):=rfl;rw[hw];simp only[Aa,Ag,Ac]
    cases decide (v9<8)with
    |true=>exact⟨_,_,_,_,re,rfl,k2,by omega,by omega,k5.q (by omega) _ _,KM k5.ab _,k5.wear⟩
    |false=>
     simp only[Ac];obtain⟨d',u1,u2,u3⟩:=Lf k2.dev.fl k2.dev.sr;obtain⟨e1,e2,_⟩:=Hu k2.dev u2 rfl;rw[N2 k2.dev (steps:=[]) rfl (by simp) u1,Aa,BD (by simp;omega)];exact⟨_,_,_,_,re,rfl,⟨u2,k2.core,by rw[e1];exact k2.data⟩,by omega,by omega,k5.q (by omega) _ _,KM (by rw[e1,k5.ab]) _,by rw[u3];exact k5.wear⟩
   rcases uJ k2 s2 with w|⟨steps,d',r',w1,w2,w3,w4,w7,w5,w6,w8,w9,_⟩
   ·rw[w];exact⟨_,_,_,_,re,rfl,k2,by omega,by omega,k5.q (by omega) _ _,KM k5.ab _,k5.wear⟩
   rw[w1];simp only[Aa,Ag,Ac]
   cases decide (v9<8)with
   |true=>exact⟨_,_,_,_,re,rfl,k2,by omega,by omega,k5.q (by omega) _ _,KM k5.ab _,k5.wear⟩
   |false=>
    simp only[Ac];rw[w3,Aa,BD<|by omega];refine⟨_,_,_,_,r',rfl,w4,by omega,by omega,⟨λy hy hk=>?_,by have:=w8.2.1;have:=k5.tx;omega,by have:=w8.2.2;have:=k5.sq;omega⟩,λp hp=>?_,λw hh=>w9 _<|k5.wear w hh⟩
    ·rcases w8.1 y hy hk with⟨z,z1,z2,z3,z4⟩|⟨t1,t2,t3⟩
     ·obtain⟨w,a1,a2,a3,a4⟩:=k5.pg z z1 z2
      grind
     obtain⟨_,_,_,s3⟩:=s2
     grind
    have e1:=BT Prod.fst w7;simp only at e1;rw[e1]at hp
    cases b:Dr (Bb e.Store) e.Store.Next x with
    |none=>
     rw[b]at hp;exact .inl ⟨p,by rw[<-k5.ab];exact hp,rfl⟩
    |some lp=>
     rw[b]at hp;obtain⟨l',nx'⟩:=lp;have n:p∈l':=hp
     rcases bT b s2.2.1 p n with⟨p',q1,q2⟩|hh
     ·exact .inl ⟨p',by rw[<-k5.ab];exact q1,q2⟩
     exact .inr<|by rw[hh,s2.2.2.1]
structure Mf (c:BP):Prop where
 i0:0<=c.i_
 i1:c.i_<=(c.b_.length:Int)
 len:c.b_.length<=1048576
theorem ABr (a:Int):0<=ban .i64 a 255/\ban .i64 a 255<=255:=by
 unfold ban;have h:(BitVec.ofInt IntKind.i64.bits a&&&BitVec.ofInt IntKind.i64.bits 255).toNat<=255:=by
  rw[BitVec.toNat_and];refine JM Nat.and_le_right ?_;exact Nat.le_of_eq rfl
 rw[P2 (by omega)<|by omega];omega
theorem XB (h:Mf c):∃v c',IT c=some (v,c')/\Mf c'/\0<=v/\v<=255:=by
 have:=h.i0;have:=h.i1;have:=h.len;unfold IT;by_cases e:c.i_<ln c.b_
 ·rw[Ad e,Ae,Lc h.i0 (by rw[Bv]at e;exact e)];rw[Bv]at e;rw[Aa,Cp (a:=c.i_) (by omega)<|by omega];exact⟨_,_,rfl,⟨by grind,by grind,h.len⟩,ABr _⟩
 rw[Ah e,Ac];exact⟨_,_,rfl,⟨h.i0,h.i1,h.len⟩,ABr _⟩
theorem AEz {a n:Int} (h0:0<=a) (hn:0<n):∃v,rm .i64 a n=some v/\0<=v/\v<n:=by
 unfold rm;rw[AG (by omega),Int.tmod_eq_emod_of_nonneg h0];exact⟨_,rfl,Int.emod_nonneg _ (by omega),Int.emod_lt_of_pos _ hn⟩
theorem RH (h:Mf c) (n:Int):∃v c',D3 c n=some (v,c')/\Mf c'/\0<=v/\(0<n->v<n):=by
 unfold D3;by_cases h0:n<=0
 ·rw[Ad h0]
  grind
 rw[Ah h0,Ac];by_cases h1:n<=256
 ·rw[Ad h1,Ae];obtain⟨v,c',k1,k2,k3,k4⟩:=XB h;rw[k1];obtain⟨w,w1,w2,w3⟩:=AEz (n:=n) k3 (by omega)
  grind
 rw[Ah h1,Ac];obtain⟨v1,c1,a1,a2,a3,a4⟩:=XB h;obtain⟨v2,c2,b1,b2,b3,b4⟩:=XB a2;obtain⟨v3,c3,d1,d2,d3,d4⟩:=XB b2;obtain⟨v4,c4,e1,e2,e3,e4⟩:=XB d2;rw[a1,Aa,b1,Aa,d1,Aa,e1,Aa,Qc (by omega) (by omega),Qc (by omega) (by omega),Qc (by omega) (by omega),Cp (a:=v1*16777216) (b:=v2*65536) (by omega) (by omega),Cp (a:=v1*16777216+v2*65536) (b:=v3*256) (by omega) (by omega),Cp (a:=v1*16777216+v2*65536+v3*256) (b:=v4) (by omega)<|by omega];obtain⟨w,w1,w2,w3⟩:=AEz (a:=v1*16777216+v2*65536+v3*256+v4) (n:=n) (by omega)<|by omega
 grind
theorem NY (h:Mf c) (hn:0<n):∃(v:Nat) (c':BP),D3 c (n:Int)=some ((v:Int),c')/\Mf c'/\v<n:=by
 obtain⟨v,c',k1,k2,k3,k4⟩:=RH h (n:Int);have:=k4 (by omega);exact⟨v.toNat,c',by grind,k2,by omega⟩
theorem yU {l:List Int} (h:Mf c) (hl:0<l.length):∃v c',N0 c l=some (v,c')/\Mf c'/\v∈l:=by
 unfold N0;obtain⟨v,c',k1,k2,k3⟩:=NY h hl;rw[Bv,k1,Aa,Au,Ab k3]
 grind
theorem AEb {l:List ByteArray} (h:Mf c) (hl:0<l.length):∃v c',PQ c l=some (v,c')/\Mf c'/\v∈l:=by
 unfold PQ;obtain⟨v,c',k1,k2,k3⟩:=NY h hl;rw[Bv,k1,Aa,Au,Ab k3];exact⟨_,_,rfl,k2,Az k3⟩
theorem ABC (h:Mf c) (n:Int):∃v c',Ki c n=some (v,c')/\Mf c':=by
 unfold Ki;obtain⟨v,c',k1,k2,_⟩:=RH h n;rw[k1];exact⟨_,_,rfl,k2⟩
theorem NK (h:Mf c):Mf (BP.mk c.b_ c.i_ c.h_):=h
theorem ABE (h:code.length<=1048576):∃c,PR code=some c/\Mf c:=by
 unfold PR;obtain⟨b,h1,_⟩:=AJ (body:=λs:Int×Int=>M2 code s.1 s.2) (λ(o:Int) i=>(o,i)) code.length (λ_ _=>True) (λ_=>True)
  (λo i hi _=>by
   have hx:=Ab hi;simp only[M2,FX,Ad hi,Ae,Aa,Au,hx];rw[ad1 (i:=i)<|by omega]
   cases decide ((i:Int)<4000)with
   |true=>grind
   |false=>grind)
  (λo _=>⟨o,by simp only[M2,FX,Dw,EV,Ac,Aa],trivial⟩) (s:=ad 36501<|ln code) trivial
 rw[h1];exact⟨_,rfl,⟨Jv _,by grind,h⟩⟩
def ten:List ByteArray:=[bs [],bs [97],bs [98,98],bs [97,98,99,100,97,98,99,100,97,98,99,100],bs [104,101,108,108,111],bs [104,101,108,108,111,32,104,101,108,108,111,32,104,101,108,108,111],bs [122,122,122,122,122,122,122,122,122,122,122,122],bs [113,49],bs [113,50],bs [113,51]]
theorem AD6 (h:Mf c):∃v c',Tq c=some (v,c')/\Mf c'/\v∈ten:=by
 unfold Tq;obtain⟨v,c',k1,k2,k3⟩:=AEb h (l:=ten) (by simp[ten]);have e:PQ c ten=some (v,c'):=k1;unfold ten at e
 grind
structure ABL (q:RR):Prop where
 kind:1<=q.Kind/\q.Kind<=6
 vol:1<=q.Vol/\q.Vol<=3
 rest:(q.Kind=1/\q.Text∈ten/\(0<=q.Sector/\q.Sector<=15)/\q.Of=0)\/(q.Kind≠1/\L q.Text=[]/\(((q.Kind=2\/q.Kind=6)/\(0<=q.Sector/\q.Sector<=15)/\q.Of=0)\/(q.Sector=0/\((q.Kind=4/\1<=q.Of/\q.Of<=9)\/((q.Kind=3\/q.Kind=5)/\q.Of=0)))))
theorem ABD (h:Mf c) (d:Ay) (hv:d.Store.Vols.length<=3) (j:∀v∈d.Store.Vols,1<=v.Id/\v.Id<=3):∃q c',PO c d=some (q,c')/\Mf c'/\ABL q:=by
  unfold PO;obtain⟨k,c1,a1,a2,a3⟩:=yU h (l:=[1,1,1,1,1,1,2,3,4,5,6]) (by simp);rw[a1];simp only[Aa];obtain⟨v2,c2,b1,b2,b3,b4⟩:=RH a2 3;have m:1<=k/\k<=6:=by simp at a3;omega
  have s:ad 1 v2=1+v2:=Cp (by omega) (by omega);have u:=b4 (by omega);rw[b1];simp only[Aa]
  have J1:∃x y c3,(cond ((ln d.Store.Vols)==0) (some (3,ad 1 v2,c2.b_,c2.i_,c2.h_)) ((cond (k !=3) (cond (k !=4) ((Ki c2 8).bind λv3=>
 some (!v3.1,v3.2.b_,v3.2.i_,v3.2.h_))<|some (false,c2.b_,c2.i_,c2.h_)) (some (false,c2.b_,c2.i_,c2.h_)):Option (Bool×List Int×Int×Int)).bind λj2=>
 cond j2.1 ((D3 (BP.mk j2.2.1 j2.2.2.1 j2.2.2.2)<|ln d.Store.Vols).bind λv4=>
 (gi d.Store.Vols v4.1).bind λx1=>
 some (k,x1.Id,v4.2.b_,v4.2.i_,v4.2.h_)) (some (k,ad 1 v2,j2.2.1,j2.2.2.1,j2.2.2.2))):Option (Int×Int×List Int×Int×Int))=some (x,y,BP.b_ c3,c3.i_,c3.h_)/\Mf c3/\(1<=x/\x<=6)/\1<=y/\y<=3:=by
   cases hz:(ln d.Store.Vols==0)with
   |true=>exact⟨_,_,c2,rfl,b2,by omega,by omega,by omega⟩
   |false=>
    simp only[Ac];have n:0<d.Store.Vols.length:=by
     rw[beq_eq_false_iff_ne,Bv]at hz;omega
    have J2:∃b c3,(cond (k !=3) (cond (k !=4) ((Ki c2 8).bind λv3=>some (!v3.1,v3.2.b_,v3.2.i_,v3.2.h_))<|some (false,c2.b_,c2.i_,c2.h_)) (some (false,c2.b_,c2.i_,c2.h_)):Option (Bool×List Int×Int×Int))=some (b,BP.b_ c3,c3.i_,c3.h_)/\Mf c3:=by
     cases(k !=3)with
     |false=>grind
     |true=>
      cases(k !=4)with
      |false=>grind
      |true=>
       obtain⟨v3,c3,d1,d2⟩:=ABC b2 8;simp only[Ae];rw[d1];exact⟨_,c3,rfl,d2⟩
    obtain⟨b,c3,e1,e2⟩:=J2;rw[e1];simp only[Aa]
    cases b with
    |false=>exact⟨_,_,c3,rfl,e2,m,by omega,by omega⟩
    |true=>
     simp only[Ae];obtain⟨v4,c4,f1,f2,f3⟩:=NY (NK e2) n;rw[Bv,f1,Aa,Au,Ab f3];exact⟨_,_,c4,rfl,f2,m,j _<|Az f3⟩
  obtain⟨x,y,c3,j1,j1c,jx,jy⟩:=J1;rw[j1];simp only[Aa];have J3:∃b c4,(cond (x==5) ((Ki (BP.mk c3.b_ c3.i_ c3.h_) 3).bind λv8=>some (!v8.1,v8.2.b_,v8.2.i_,v8.2.h_)) (some (false,c3.b_,c3.i_,c3.h_)):Option (Bool×List Int×Int×Int))=some (b,BP.b_ c4,c4.i_,c4.h_)/\Mf c4:=by
   cases(x==5)with
   |false=>grind
   |true=>
    obtain⟨v8,c4,d1,d2⟩:=ABC (NK j1c) 3;simp only[Ae];rw[d1];exact⟨_,c4,rfl,d2⟩
  obtain⟨b,c4,j3,j3c⟩:=J3;rw[j3];simp only[Aa,JL];have a:1<=(bif b then(1:Int)else x)/\(bif b then(1:Int)else x)<=6:=by grind
  generalize (bif b then(1:Int)else x)=j4 at a
  cases o:(j4==1)with
  |true=>
   simp only[Ae];obtain⟨t,c5,t1,t2,t3⟩:=AD6<|NK j3c;rw[t1];simp only[Aa];obtain⟨v10,c6,u1,u2,u3,u4⟩:=RH t2 16;rw[u1];have:=u4 (by omega);have hj:=Da.1 o;exact⟨_,_,rfl,u2,⟨a,jy,.inl ⟨hj,t3,by grind,rfl⟩⟩⟩
  |false=>
   simp only[Ac];have e:j4≠1:=by simpa using o
   have p:(cond (j4==2) (j4==2)<|j4==6)=decide (j4=2\/j4=6):=by grind
   rw[p];by_cases g:j4=2\/j4=6
   ·rw[Ad g];simp only[Ae];obtain⟨v11,c6,u1,u2,u3,u4⟩:=RH (NK j3c) 16;rw[u1];have:=u4 (by omega);exact⟨_,_,rfl,u2,⟨a,jy,.inr ⟨e,ET _,.inl ⟨g,by grind,rfl⟩⟩⟩⟩
   rw[Ah g];simp only[Ac]
   cases f:(j4==4)with
   |true=>
    simp only[Ae];obtain⟨v12,c6,u1,u2,u3,u4⟩:=RH (NK j3c) 3;have h44:=Da.1 f;have:=u4 (by omega);rw[u1];simp only[Aa]
    cases r:d.Store.Vols with
    |nil=>
     rw[show decide (ln ([]:List Vol)>0)=false from rfl];exact⟨_,_,rfl,u2,⟨a,jy,.inr ⟨e,ET _,.inr ⟨rfl,.inl ⟨h44,by show 1<=ad 1 v12/\ad 1 v12<=9;rw[Cp];omega⟩⟩⟩⟩⟩
    |cons v vs=>
     rw[Ad (by rw[Bv,AA];omega:ln (v::vs)>0),show gi (v::vs) 0=some v from Au (i:=0)];have:=j v (by rw[r];simp);exact⟨_,_,rfl,u2,⟨a,jy,.inr ⟨e,ET _,.inr ⟨rfl,.inl ⟨h44,by grind⟩⟩⟩⟩⟩
   |false=>
    have h44:j4≠4:=by simpa using f
    exact⟨_,_,rfl,NK j3c,⟨a,jy,.inr ⟨e,ET _,.inr ⟨rfl,.inr ⟨by grind,rfl⟩⟩⟩⟩⟩
theorem ABo (h:3<=n/\n<=10):BA (Flash.mk (List.replicate n (Block.mk false 0 OG))):=by
 refine⟨by simpa using h,λb hb=>?_⟩;rw[Dx hb];exact pX ⟨by omega,by omega⟩
theorem jT (h:3<=n/\n<=10):QD (n:Int)=some (Flash.mk (List.replicate n (Block.mk false 0 OG)),true):=by
 unfold QD;rw[Ey,Ad<|by omega];simp only[Aa,Ag,Ac];have q:=sM (body:=λs:Int×List Block=>J5 (n:Int) s.1 s.2) n (λ_=>Block.mk false 0 OG)
  (λi a hi ho=>by
   simp only[J5]
   rw[cT,Xe,Aa,BD (by simp;omega),Aa,ad1])
  (λa=>by simp only[J5];rw[cF])
 rw[q,Aa,Nr,DY]
theorem gD:∀(n:Nat) (i:Int),KJ i (List.replicate n (Block.mk false 0 OG))=[]
 |0,i=>rfl
 |n+1,i=>by
  rw[Nb,KJ,gD n (i+1),Wc i 0 _ (λy hy=>by rw[Dx hy];simp)];rfl
theorem qP (h:3<=n/\n<=10):∃d,Pe (n:Int)=some (d,true)/\HY d []/\Bb d.Store=[]/\d.Store.Next=1/\d.Flash=Flash.mk (List.replicate n (Block.mk false 0 OG)):=by
 have hP:=ABo h;have b:SR (KJ 0 (Flash.mk<|List.replicate n<|Block.mk false 0 OG).Blocks) []:=by
  rw[gD];exact⟨List.Pairwise.nil,λ_=>rfl⟩
 obtain⟨d,u1,u2,u3⟩:=Lf hP b;have a:=u2.ab;have:LL (CS<|Bj [])=([],1):=rfl;rw[this]at a
 injection a with e1 e2
 refine⟨d,?_,⟨u2,⟨⟨by simp,by simp,by simp,by simp,by simp,by simp⟩,List.Pairwise.nil,⟨λy hy=>by cases hy⟩⟩,?_⟩,e1,e2,u3⟩
 ·unfold Pe;rw[jT h]
  grind
 rw[e1];refine⟨λc hc=>?_,λc c' hc=>?_⟩
 ·obtain⟨_,p,hp,_⟩:=hc;cases hp
 obtain⟨_,p,hp,_⟩:=hc;cases hp
theorem mT (h:code.length<=1048576):∃p,N5 code=some p/\p.length=12/\∀x∈p,0<=x/\x<10000:=by
 unfold N5;obtain⟨c,c1,c2⟩:=ABE h;rw[c1];simp only[Aa];obtain⟨v,c',b1,b2,_⟩:=XB c2;rw[b1];simp only[Aa];obtain⟨a,h1,h2,h3⟩:=AJ (body:=λs:List Int×Int×List Int×Int×Int=>JR s.1 s.2.1 s.2.2.1 s.2.2.2.1 s.2.2.2.2) (λ(o:List Int×BP) i=>(o.1,i,o.2.b_,o.2.i_,o.2.h_)) 12
  (λi o=>Mf o.2/\o.1.length=i/\∀x∈o.1,0<=x/\x<10000) (λa=>a.length=12/\∀x∈a,0<=x/\x<10000)
  (λo i hi hs=>by
   obtain⟨p,cu⟩:=o;obtain⟨k1,k2,k3⟩:=hs;simp only at k1 k2 k3;simp only[JR];rw[cT];obtain⟨w,c3,w1,w2,w3,w4⟩:=RH (NK k1) 10000;rw[w1,Aa,BD (by simp;omega),Aa,ad1];refine .inl ⟨(p++ [w],c3),rfl,w2,by simp;omega,λx hx=>?_⟩
   grind)
  (λo hs=>⟨o.1,by rfl,hs.2⟩) (s:=([],c')) ⟨b2,rfl,λx hx=>by cases hx⟩
 grind
structure ABJ (d:Ay) (r:List Aq):Prop where
 ids:∀p∈Bb d.Store,1<=p.1/\p.1<=3
 pg:∀y∈r,y.Page.Kind=1->y.Page.Tx<=13/\∃s∈ten,TR y.Page.Text=some s
structure Ext (d:Ay) (r:List Aq):Prop extends ABJ d r where
 tx:DO r<=1000
 sq:CT r<=100000
 wear:Fl d.Flash 1000
theorem ABL.text {q:RR} (h:ABL q):q.Text∈ten:=by
 rcases h.rest with⟨_,h2,_⟩|⟨_,h2,_⟩
 ·exact h2
 rw[show q.Text=bs []from Lk (by rw[h2,ET])];simp[ten]
theorem ABJ.step {q:RR} (h:ABJ d r) (hq:ABL q) (hn:d.Store.Next<=13) (hf:ABI r r' d.Store.Next q.Text) (hi:AC4 d d' q.Vol):ABJ d' r':=by
 refine⟨λp hp=>?_,λy hy hk=>?_⟩
 ·rcases hi p hp with⟨p',h1,h2⟩|h1
  ·rw[<-h2];exact h.ids p' h1
  rw[h1];exact hq.vol
 rcases hf.1 y hy hk with⟨z,z1,z2,z3,z4⟩|⟨h1,h2⟩
 ·have:=h.pg z z1 z2
  grind
 exact⟨by omega,_,hq.text,h2⟩
theorem XX (h:Mf c):∃d c' r,Mz c=some (d,c')/\Mf c'/\HY d r/\d.Store.Next<=13/\Ext d r:=by
 unfold Mz;obtain⟨v,c1,a1,a2,a3⟩:=NY h (n:=4) (by omega);rw[show((4:Nat):Int)=4 from rfl]at a1;rw[a1,Aa,Cp,show(5:Int)+(v:Int)=((5+v:Nat):Int) by omega];obtain⟨d0,b1,b2,b3,b4,b5⟩:=qP (n:=5+v) (by omega);rw[b1];simp only[Aa];obtain⟨a,h1,d,cc,r,h2,h3,h4,h5,h6⟩:=AJ (body:=λs:Int×List Block×List Vol×List Bz×Int×Int×Int×Int×List Int×Int×Int=>Ir s.1 s.2.1 s.2.2.1 s.2.2.2.1 s.2.2.2.2.1 s.2.2.2.2.2.1 s.2.2.2.2.2.2.1 s.2.2.2.2.2.2.2.1 s.2.2.2.2.2.2.2.2.1 s.2.2.2.2.2.2.2.2.2.1 s.2.2.2.2.2.2.2.2.2.2)
  (λ(o:Ay×BP) i=>(i,o.1.Flash.Blocks,o.1.Store.Vols,o.1.Store.Arena.Knots,o.1.Store.Next,o.1.Seq,o.1.Tx,o.1.Base,o.2.b_,o.2.i_,o.2.h_)) 12
  (λi o=>Mf o.2/\(∃r,HY o.1 r/\ABJ o.1 r/\DO r<=1+21*i/\CT r<=1+4010*i/\Fl o.1.Flash (20*i))/\o.1.Store.Next<=1+i)
  (λa=>∃d cc r,a=(d.Flash.Blocks,d.Store.Vols,d.Store.Arena.Knots,d.Store.Next,d.Seq,d.Tx,d.Base,BP.b_ cc,cc.i_,cc.h_)/\Mf cc/\HY d r/\d.Store.Next<=13/\Ext d r)
  (λo i hi hs=>by
   obtain⟨e,cu⟩:=o;obtain⟨k1,⟨r,k2,kx,kt,kq,kw⟩,k3⟩:=hs;simp only at k1 k2 k3 kx kw;have f:Ay.mk (Flash.mk e.Flash.Blocks) (Store.mk e.Store.Vols (Arena.mk e.Store.Arena.Knots) e.Store.Next) e.Seq e.Tx e.Base=e:=rfl;simp only[Ir];rw[f];obtain⟨w,c3,w1,w2,w3⟩:=NY (NK k1) (n:=12) (by omega);rw[show((12:Nat):Int)=12 from rfl]at w1;rw[w1];simp only[Aa];by_cases b:(i:Int)<(w:Int)
   ·rw[Ad b,Ae];obtain⟨q,c4,q1,q2,q3⟩:=ABD w2 e k2.dev.st.len λv hv=>kx.ids (v.Id,Ff e.Store.Arena.Knots v.Root)<|A9.2 ⟨v,hv,rfl⟩;rw[q1];simp only[Aa];obtain⟨d',steps,t,no,r',s1,s2,s3,s4,s5,s6,s7⟩:=ACY k2 (λx hx=>by have:=kw x hx;omega) q;rw[s1,Aa,ad1];exact .inl ⟨(d',c4),rfl,q2,⟨r',s2,kx.step q3 (by omega) s5 s6,by have:=s5.2.1;omega,by have:=s5.2.2;omega,λx hx=>by have:=s7 _ kw x hx;omega⟩,by grind⟩
   rw[Ah b,Ac]
   exact .inr ⟨_,rfl,e,c3,r,rfl,w2,k2,by omega,⟨kx,by omega,by omega,λx hx=>by have:=kw x hx;omega⟩⟩)
  (λo hs=>by
   obtain⟨e,cu⟩:=o;obtain⟨k1,⟨r,k2,kx,kt,kq,kw⟩,k3⟩:=hs;simp only at k1 k2 k3 kx kw;simp only[Ir];obtain⟨w,c3,w1,w2,w3⟩:=NY (NK k1) (n:=12) (by omega);rw[show((12:Nat):Int)=12 from rfl]at w1;rw[show((12:Nat):Int)=12 from rfl,w1,Aa,cF]
   exact⟨_,rfl,e,c3,r,rfl,w2,k2,by omega,⟨kx,by omega,by omega,λx hx=>by have:=kw x hx;omega⟩⟩) (s:=(d0,c1)) ⟨a2,⟨[],b2,⟨λp hp=>(by grind),λy hy=>by cases hy⟩,by simp[DO],by simp[CT],λx hx=>by grind⟩,by grind⟩
 rw[h1,h2];exact⟨d,cc,r,rfl,h3,h4,h5,h6⟩
theorem mU (h:code.length<=1048576):∃d r,N6 code=some d/\HY d r/\d.Store.Next<=13/\Ext d r:=by
 unfold N6;obtain⟨c,c1,c2⟩:=ABE h;obtain⟨d,c',r,d1,d2,d3,d4⟩:=XX c2
 grind
def rG (a:List Shelf):Prop:=a.length<=1048576/\∀x∈a,x.Texts.length<=1048576
theorem O8 (a b:List Shelf) (h:rG a):ADw (IG a b) a b:=by
 have n:=h.1;by_cases hl:a.length=b.length
 ·have f:(ln a !=ln b)=false:=by simp[ln,hl]
  have j:∀(i:Nat) (x y:Shelf),a[i]?=some x->b[i]?=some y->x.Texts.length=y.Texts.length->x.Texts.length<=1048576->
    Ao (λs:Int=>Hc a b (i:Int) x s) 0=some (bif(x.Texts.zip y.Texts).all (λz=>seq z.1 z.2)then .inl ()else .inr<|.inr<|.inr false):=by
   intro i x y hx hy l hM;have:=O1 (body:=λs:Int=>Hc a b (i:Int) x s) (λ(_:Unit) i=>i) (x.Texts.zip y.Texts) (λ_ _ z=>bif seq z.1 z.2 then .inl ()else .inr<|.inr<|.inr<|.inr false) (λ_=> .inl ()) (λ_ _=>True)
    (λs k z hz _=>by
     refine⟨?_,λ_ _=>trivial⟩;obtain⟨z1,z2⟩:=z;obtain⟨c,hz'⟩:=Af.1 hz;rw[List.getElem_zip]at hz'
     injection hz' with e1 e2
     have k1:k<x.Texts.length:=by simp at c;omega
     have k2:k<y.Texts.length:=by simp at c;omega
     simp only[Hc,FX,Ad k1,Ae,Au,hx,hy,Aa,Ab k1,Ab k2,e1,e2];cases seq z1 z2
     ·rfl
     simp only[Ag,Ac,Ae]
     rw[ad1])
    (λs _=>by
     have:(x.Texts.zip y.Texts).length=x.Texts.length:=by simp[l]
     rw[this]
     simp only[Hc,DH]) (s:=()) trivial
   rw[this];have g:∀(m:List (ByteArray×ByteArray)) (i:Nat),OB (λ(_:Unit) _ z=>bif seq z.1 z.2 then .inl ()else .inr<|.inr<|.inr<|.inr false) (λ_=>(.inl ():Unit⊕Int⊕Unit⊕Bool)) m i ()=bif m.all (λz=>seq z.1 z.2)then .inl ()else .inr (.inr<|.inr false):=by
    intro m
    induction m with
    |nil=>intro i;rfl
    |cons z m ih=>
     intro i;simp only[OB,EU]
     cases seq z.1 z.2 with
     |false=>rfl
     |true=>simp only[Ae,Ig];exact ih _
   rw[g]
  have hp:∀(x y:Shelf),(bif x.Vol !=y.Vol then false else bif x.Texts.length !=y.Texts.length then false else(x.Texts.zip y.Texts).all λz=>seq z.1 z.2)=true↔x=y:=by
   intro x y
   cases x with
   |mk av at_=>
   cases y with
   |mk bv bt=>
   by_cases hv:av=bv
   ·subst hv;by_cases hl:at_.length=bt.length
    ·simp only[Vp,Ac,hl,Shelf.mk.injEq,true_and];exact YC (p:=seq) (λx _ y _=>by rw[JU,A4]) hl
    have:(at_.length !=bt.length)=true:=by simpa using hl
    exact iff_of_false (by simp[this]) λe=>hl (by injection e with _ e;rw[e])
   have:(av !=bv)=true:=by simpa using hv
   simp[this,hv]
  have:=mA (body:=λs:Int=>IF a b s) a b (λx y=>bif x.Vol !=y.Vol then false else bif x.Texts.length !=y.Texts.length then false else(x.Texts.zip y.Texts).all λz=>seq z.1 z.2) hl (by omega)
   (λi x y hx hy=>by
    have c:=(Af.1 hx).1;have hz:=h.2 x<|Ar hx;simp only[IF,DW c,Au,hx,hy,Aa];by_cases hv:x.Vol=y.Vol
    ·have e1:(x.Vol !=y.Vol)=false:=by simp[hv]
     simp only[e1,Ac,Aa];by_cases d:x.Texts.length=y.Texts.length
     ·have e2:(ln x.Texts !=ln y.Texts)=false:=by simp[ln,d]
      have e3:(x.Texts.length !=y.Texts.length)=false:=by simp[d]
      simp only[e2,e3,Ac];rw[j i x y hx hy d<|by omega]
      cases(x.Texts.zip y.Texts).all (λz=>seq z.1 z.2)with
      |false=>rfl
      |true=>
       simp only[Ae,Aa,Bo];rw[ad1]
     have e2:(ln x.Texts !=ln y.Texts)=true:=by simp[ln];omega
     have e3:(x.Texts.length !=y.Texts.length)=true:=by simpa using d
     simp only[e2,e3,Ae,Ac]
    have e1:(x.Vol !=y.Vol)=true:=by simpa using hv
    simp only[e1,Ae,Aa,Ac])
   (by simp only[IF,DH])
  refine⟨(a.zip b).all λz=>bif z.1.Vol !=z.2.Vol then false else bif z.1.Texts.length !=z.2.Texts.length then false else(z.1.Texts.zip z.2.Texts).all λz=>seq z.1 z.2,?_,YC (p:=λx y=>bif x.Vol !=y.Vol then false else bif x.Texts.length !=y.Texts.length then false else(x.Texts.zip y.Texts).all λz=>seq z.1 z.2) (λx _ y _=>hp x y) hl⟩;unfold IG;rw[f,Ac,this];cases(a.zip b).all _<;>rfl
 have f:(ln a !=ln b)=true:=by simp[ln];omega
 unfold IG;rw[f,Ae];exact⟨false,rfl,by simp;intro e;exact hl<|by rw[e]⟩
theorem iP (d:Ay) (h:eT d.Flash r) (hs:HS d.Store<=1048576) (id:Int) (k:Nat) (hk:k<16):∃u ok,FI r d.Store id (k:Int)=some (u,ok)/\Qi d id (k:Int)=some (u,ok):=by
 unfold HS WI at hs;have hl:=Qz (z:=Ug) (l:=d.Store.Arena.Knots);have ha:Nm d.Store.Arena:=by unfold Nm;omega
 unfold FI Qi;obtain⟨v,h1,h2,h3⟩:=Vz d.Store id (by omega);rw[h1,h2];simp only[Aa]
 cases decide (v<0)with
 |true=>grind
 |false=>
  simp only[Ac];obtain⟨c,c1,c2⟩:=uH d.Store (by omega) ha id k hk;rw[c1,c2];simp only[Aa]
  cases c==0 with
  |true=>grind
  |false=>
   simp only[Ac];obtain⟨u,ok,t1,t2⟩:=RG h c
   grind
theorem X8 (d:Ay) (hz:Mh d<=1048576):∃m,DK d=some m/\Nk d=some m:=by
 unfold Mh at hz;obtain⟨r,hr⟩:=Zg d.Flash (by omega);have hs:HS d.Store<=1048576:=by omega
 have hv:d.Store.Vols.length<=1048576:=by unfold HS at hs;omega
 unfold DK Nk;rw[hr.s];simp only[Aa];obtain⟨m,h1,h2,_⟩:=MK (body:=λs:List Shelf×Int=>Dm d r s.1 s.2) (body':=λs:List Shelf×Int=>H6 d s.1 s.2) (λ(o:List Shelf) i=>(o,i)) (λ(o:List Shelf) i=>(o,i)) d.Store.Vols.length (λi o=>o.length=i) (λ_=>True)
  (λo i hi ho=>by
   have hg:d.Store.Vols[i]?=some d.Store.Vols[i]:=Ab hi;simp only[Dm,H6,FX,Ad hi,Ae,Au,hg,Aa];obtain⟨l,q1,q2,q3⟩:=MK (body:=λs:Int×List ByteArray=>Ew d r d.Store.Vols[i] s.1 s.2) (body':=λs:Int×List ByteArray=>JY d d.Store.Vols[i] s.1 s.2) (λ(o:List ByteArray) k=>(k,o)) (λ(o:List ByteArray) k=>(k,o)) 16 (λk o=>o.length=k) (λ_=>True)
    (λu k hk hu=>by
     obtain⟨t,ok,g1,g2⟩:=iP d hr hs d.Store.Vols[i].Id k hk;simp only[Ew,JY];rw[Ad (by omega:(k:Int)<16),Ae,Ae,g1,g2,Aa,BD (by grind),ad1]
     exact .inl ⟨_,rfl,rfl,by grind⟩)
    (λu hu=>⟨u,by rfl,by rfl,trivial⟩) (s:=[]) rfl
   rw[q1,q2,Aa,BD (by grind),ad1]
   grind)
  (λo ho=>⟨o,by simp only[Dm,FX,Dw,EV,Ac],by simp only[H6,FX,Dw,EV,Ac],trivial⟩) (s:=[]) rfl
 grind
theorem zC (h:C9 s):HS s<=1048576:=by
 have h1:=h.len;have h2:=h.small;have a:∀l:List Bz,(∀k∈l,k.Kids.length=4)->(l.map Ug).sum=4*l.length:=by
  intro l
  induction l with
  |nil=>intro _;rfl
  |cons k l ih=>
   intro hl;rw[C6,No,ih (λx hx=>hl x<|by simp[hx]),AA];have:=hl k (by simp);unfold Ug;omega
 have:=a s.Arena.Knots (λk hk=>by
  obtain⟨i,hi,rfl⟩:=A5 hk;have:=(GI.1 h.ar i hi).1;rw[O2 hi]at this
  exact this)
 unfold HS WI zl;omega
theorem sU (h:HY d r) (vol:Int) (hk:k<16):Qi d vol (k:Int)=FI r d.Store vol (k:Int):=by
 obtain⟨u,ok,h1,h2⟩:=iP d h.dev.scan (zC h.dev.st) vol k hk;rw[h1,h2]
theorem bC (h:C9 s) {live:List Int} (hl:Fq s=some live):JG s=some live:=by
 obtain⟨l,e1,e2,_,_⟩:=Qv s (by have:=h.len;omega)<|mC h
 grind
theorem qI (h:HH d r) {live:List Int} (hl:Fq d.Store=some live) (l2:asc live) (l4:live.length<=16777216) (a b:Int):ZJ d.Flash d.Store a b=some ((cn r.length (λj=>(C8 r live a)[j]?.getD false&&bk r b j):Nat):Int)/\H5 d.Flash d.Store a b=some ((cn r.length (λj=>(C8 r live a)[j]?.getD false&&bk r b j):Nat):Int):=by
 obtain⟨n,n1,n2⟩:=Yx h.scan d.Store (bC h.st hl) l2 l4 a b;have c:=aA r (C8 r live a) b h.scan.len<|Kn _ _ _;have e:C8 r live a=live.foldl (dY r) (r.map<|Du a):=rfl;rw[e]at c;rw[n1]at c
 injection c with c
 refine⟨?_,by rw[n2,c];rfl⟩;unfold ZJ;rw[h.scan.s,hl];simp only[Aa];rw[N8 r live _ h.scan.len l4]
 grind
theorem ACI (h:HH d r) (hy:y∈r):JA y.Page:=by
 obtain⟨b,x,g1,g2,_,g3⟩:=h.scan.page y hy;obtain⟨_,k1⟩:=Cy g1;obtain⟨_,k2⟩:=Cy g2;have hx:=h.fl.text b (Ar k1) x<|Ar k2;obtain⟨p,ok,m1,_,_,m2⟩:=IN x.Text (by omega);rw[g3]at m1
 injection m1 with m1
 injection m1 with m1 m3
 obtain⟨v,q1,q2⟩:=UH p
 grind
theorem AFe (hc:Ka g) (ss:List AS) (hs:ss.length<=1000) (p:Page) (b:Int):
  (∃s g',DP g ss p=some (g',ss++ [s],true)/\Ka g'/\CU (Gr.mk g ss) p b=some (if(s.Block==b)=true then(false,Gr.mk g ss)else(true,Gr.mk g' (ss++ [s]))))\/
  (∃g' st,DP g ss p=some (g',st,false)/\∃w,CU (Gr.mk g ss) p b=some (false,w)):=by
 obtain⟨t,ok,t1,t2⟩:=Yt p;obtain⟨bb,l,room,p1,p2,p3⟩:=cV g hc;unfold DP CU;rw[t1,t2,p1,p2];simp only[Aa]
 cases ok with
 |false=>simp
 |true=>
  cases room with
  |false=>simp
  |true=>
   obtain⟨g2,v,g1,g3,g4⟩:=XA g (AS.mk 1 bb l t) hc;have a:Ka g2:=by
    rcases g4 with⟨_,rfl⟩|⟨_,g4⟩
    ·exact hc
    exact g4.cap
   simp only[Ag,Ac,Aa,g1,g3];rw[BD<|by grind]
   cases v with
   |true=>
    refine .inl ⟨AS.mk 1 bb l t,g2,rfl,a,?_⟩
    cases hb:(bb==b)with
    |true=>rfl
    |false=>rfl
   |false=>
    refine .inr ⟨g2,_,rfl,?_⟩
    cases hb:(bb==b)with
    |true=>grind
    |false=>simp
abbrev MvS:=Int×List AS×List Block
def dX (sq:Int) (y:Aq):Page:=Page.mk 1 sq y.Page.Tx 0 1 y.Page.Text
noncomputable def mv (b:Int):List Aq->MvS->Option (Option MvS)
 |[],o=>some (some o)
 |y::ys,o=>(DP (Flash.mk o.2.2) o.2.1 (dX o.1 y)).bind λv=>if v.2.2=true then(match v.2.1.getLast? with
  |some s=>if(s.Block==b)=true then some none else mv b ys (o.1+1,v.2.1,v.1.Blocks)
  |none=>some none)else some none
theorem AAL (b:Int):∀(xs ys:List Aq) (o:MvS),mv b (xs++ys) o=(mv b xs o).bind λq=>match q with
  |some o'=>mv b ys o'
  |none=>some none
 |[],ys,o=>rfl
 |x::xs,ys,o=>by
  simp only[BB,mv]
  cases DP (Flash.mk o.2.2) o.2.1 (dX o.1 x)with
  |none=>rfl
  |some v=>
   simp only[Aa];split
   ·split
    ·split
     ·rfl
     exact AAL b xs ys _
    rfl
   rfl
def MvI (m:Nat) (o:MvS):Prop:=Ka (Flash.mk o.2.2)/\o.2.1.length<=m/\0<=o.1/\o.1<=1000000001+m
theorem sH {b:Int} {o:MvS} (h:MvI m o) (hm:m<=1000):
  (∃s g',DP (Flash.mk o.2.2) o.2.1 (dX o.1 y)=some (g',o.2.1++ [s],true)/\(s.Block==b)=false/\(∀ys,mv b (y::ys) o=mv b ys (o.1+1,o.2.1++ [s],g'.Blocks))/\MvI (m+1) (o.1+1,o.2.1++ [s],g'.Blocks)/\CU (Gr.mk (Flash.mk o.2.2) o.2.1) (dX o.1 y) b=some (true,Gr.mk g' (o.2.1++ [s])))\/
  ((∀ys,mv b (y::ys) o=some none)/\(∃w,CU (Gr.mk (Flash.mk o.2.2) o.2.1) (dX o.1 y) b=some (false,w))/\((∃s g',DP (Flash.mk o.2.2) o.2.1 (dX o.1 y)=some (g',o.2.1++ [s],true)/\(s.Block==b)=true)\/∃g' st,DP (Flash.mk o.2.2) o.2.1 (dX o.1 y)=some (g',st,false))):=by
 obtain⟨h1,h2,h3,h4⟩:=h
 rcases AFe h1 o.2.1 (by omega) (dX o.1 y) b with⟨s,g',a1,a2,a3⟩|⟨g',st,a1,w,a2⟩
 ·cases hb:(s.Block==b)with
  |true=>
   rw[hb]at a3;exact .inr ⟨λys=>by simp only[mv,a1,Aa,Ce,List.getLast?_concat,hb],⟨_,a3⟩,.inl ⟨s,g',a1,hb⟩⟩
  |false=>
   rw[hb]at a3;refine .inl ⟨s,g',a1,hb,λys=>by simp only[mv,a1,Aa,Ce,List.getLast?_concat,hb,CP,FW],⟨a2,?_,?_,?_⟩,by rw[a3];rfl⟩
   ·grind
   ·omega
   omega
 exact .inr ⟨λys=>by simp[mv,a1],⟨w,a2⟩,.inr ⟨g',st,a1⟩⟩
theorem AAK {b:Int}:∀(xs:List Aq) {m:Nat} {o:MvS},MvI m o->m+xs.length<=1000->∃v,mv b xs o=some v/\∀o',v=some o'->MvI (m+xs.length) o'
 |[],m,o,h,_=>⟨some o,rfl,λo' e=>by grind⟩
 |x::xs,m,o,h,hm=>by
  rw[AA]at hm
  rcases sH (b:=b) (y:=x) h (by omega)with⟨s,g',a1,a2,a3,a4,a5⟩|⟨a1,_⟩
  ·obtain⟨v,v1,v2⟩:=AAK xs a4 (by omega);exact⟨v,by rw[a3,v1],λo' e=>by grind⟩
  exact⟨none,a1 xs,λo' e=>by cases e⟩
def L4 (b i:Int) (nd:List Bool) (r:List Aq):List Aq:=((nd.zip r).filter λq=>q.1&&(q.2.Block==b)&&(q.2.Leaf==i)).map Prod.snd
theorem uU (hr:r.length<=40) (hk:∀y∈r,y.Page.Kind=1->y.Page.Count=1/\y.Page.Part=0) (d:nd.length=r.length) (hn:∀(j:Nat) y,r[j]?=some y->nd[j]?=some true->y.Page.Kind=1) (b i:Int):∀(n j:Nat),j+n=r.length->∀{m:Nat} {o:MvS},MvI m o->m+n<=1000->
  Ao (λs:List AS×Int×Int×List Block=>EO b r nd i s.1 s.2.1 s.2.2.1 s.2.2.2) (o.2.1,o.1,(j:Int),o.2.2)=(mv b (L4 b i (nd.drop j) (r.drop j)) o).map λq=>match q with
   |some o'=> .inl (o'.2.1,o'.1,o'.2.2)
   |none=> .inr (.inr (.inr ([],false)))
 |0,j,hj,m,o,ho,hm=>by
  rw[Aw];simp only[EO,FX];rw[cF,List.drop_of_length_le (by omega),List.drop_of_length_le (by omega)];rfl
 |n+1,j,hj,m,o,ho,hm=>by
  have a:j<r.length:=by omega
  have hx:=Ab a;have c:=Ab (show j<nd.length by omega);have hd:nd.drop j=nd[j]::nd.drop (j+1):=AK (by omega);have e:r.drop j=r[j]::r.drop (j+1):=AK a
  have go:∀{m':Nat} {o':MvS},MvI m' o'->m'+n<=1000->_:=λ{m' o'} h1 h2=>uU hr hk d hn b i n (j+1) (by omega) (m:=m') (o:=o') h1 h2
  rw[Aw];simp only[EO,DW a,Au,hx,c,Aa];rw[ad1,hd,e];have es:L4 b i (nd[j]::nd.drop (j+1)) (r[j]::r.drop (j+1))=if(nd[j]&&(r[j].Block==b)&&(r[j].Leaf==i))=true then r[j]::L4 b i (nd.drop<|j+1) (r.drop<|j+1)else L4 b i (nd.drop<|j+1) (r.drop<|j+1):=by
   simp only[L4,List.zip_cons_cons,List.filter_cons];split<;>simp
  rw[es]
  cases f:nd[j]with
  |false=>
   simp only[AN,Ae,Aa,Bool.false_and,CP,FW];exact go ho<|by omega
  |true=>
   simp only[Ag,Ac,Ig]
   cases hb:(r[j].Block==b)with
   |false=>
    simp only[bne,hb,AN,Ae,Aa,Bool.false_and,CP,FW];exact go ho<|by omega
   |true=>
    simp only[bne,hb,Ag,Ac,Aa,Ig]
    cases g:(r[j].Leaf==i)with
    |false=>
     simp only[AN,Ae,CP,FW];exact go ho<|by omega
    |true=>
     simp only[Ag,Ac,Ce];have h1:=hn j r[j] hx (by rw[c,f]);obtain⟨h2,h3⟩:=hk r[j] (Az a) h1;have ep:Page.mk r[j].Page.Kind o.1 r[j].Page.Tx r[j].Page.Part r[j].Page.Count r[j].Page.Text=dX o.1 r[j]:=by rw[h1,h2,h3];rfl
     rw[ep];obtain⟨c1,c2,c3,c4⟩:=ho
     rcases sH (b:=b) (y:=r[j]) ⟨c1,c2,c3,c4⟩ (by omega)with⟨s,g',a1,a2,a3,a4,_⟩|⟨a1,_,⟨s,g',a2,a3⟩|⟨g',st,a2⟩⟩
     ·rw[a1,a3];simp only[Aa,Ag,Ac];rw[Bv,Ak,Bg,Cm,show((o.2.1.length+1:Nat):Int)-1=(o.2.1.length:Int) by omega,FB];simp only[Aa,a2,Ac];rw[Cp];exact go a4<|by omega
     ·rw[a2,a1];simp only[Aa,Ag,Ac];rw[Bv,Ak,Bg,Cm,show((o.2.1.length+1:Nat):Int)-1=(o.2.1.length:Int) by omega,FB]
      grind
     grind
theorem Zj (k:IntKind) (n:Nat) (h:n<=12) (hk:k= .u8\/k= .u64):k.wrap (n:Int)=(n:Int):=by
 have:n=0\/n=1\/n=2\/n=3\/n=4\/n=5\/n=6\/n=7\/n=8\/n=9\/n=10\/n=11\/n=12:=by omega
 rcases hk with rfl|rfl<;>rcases this with rfl|rfl|rfl|rfl|rfl|rfl|rfl|rfl|rfl|rfl|rfl|rfl|rfl<;>rfl
set_option maxRecDepth 20000 in
theorem eP (n:Nat) (h:n<=12):∃v,Xf (IntKind.u64.wrap (n:Int))=some v:=by
 rw[Zj _ n h<|.inr rfl];unfold Xf aK;generalize hT:(bs _)=T;have a:13<=(L T).length:=by rw[<-hT,ET];decide
 rw[cF,Aa,cF,Aa,cF,Aa,Zj _ n h<|.inl rfl,Fs (i:=n) _<|by omega];exact⟨_,rfl⟩
theorem fP {γ:Type} (a:γ->Int) (l:List γ) (hl:l.length<=12):∃r,L0 (NU a) l=some r/\srt a r/\BV a l r:=by
 obtain⟨v,hv⟩:=eP l.length hl;obtain⟨r,h1,h2,h3⟩:=Je a [] l [] (by simp;omega);refine⟨r,?_,h2,h3⟩;unfold L0;rw[Bv,hv];simp only[Aa];unfold EZ;rw[Aw];simp only[Gt];rw[Cm,cT]
 grind
def mB (l:List Aq):Prop:=l.Pairwise λx y=>x.Page.Tx≠y.Page.Tx
theorem bO {l:List Aq} {p:Aq->Bool} (hl:mB l) (hu:∀x∈l,∀y∈l,p x=true->p y=true->x=y) (hy:y∈l) (hp:p y=true):l.filter p=[y]:=by
 induction l with
 |nil=>cases hy
 |cons x l ih=>
  have h1:=Cv.1 hl
  have hu':∀a∈l,∀c∈l,p a=true->p c=true->a=c:=λa ha c hc=>hu a (Lp _ ha) c<|Lp _ hc
  cases hx:p x with
  |true=>
   have e:x=y:=hu x (by simp) y hy hx hp;subst e;rw[DA hx,Bh.2]
   grind
  |false=>
   rw[E4<|by simp[hx]]
   rcases DN.1 hy with rfl|hy
   ·grind
   exact ih h1.2 hu' hy
theorem AAa {c:List Aq} (ha:mB a) (hc:mB c) (hm:∀y,y∈a↔y∈c) (hu:∀x∈a,∀y∈a,x.Leaf=y.Leaf->x=y):BV BE a c:=by
 intro k
 have e1:∀x,(BE x==k)=true↔x.Leaf=k:=λx=>by rw[Da];rfl
 by_cases h:∃y∈a,y.Leaf=k
 ·obtain⟨y,y1,y2⟩:=h
  rw[bO ha (λx hx z hz p q=>hu x hx z hz<|by grind) y1<|(e1 y).2 y2,
   bO hc (λx hx z hz p q=>hu x ((hm x).2 hx) z ((hm z).2 hz)<|by grind) ((hm y).1 y1) ((e1 y).2 y2)]
 rw[Bh.2 λx hx p=>h ⟨x,hx,(e1 x).1 p⟩,Bh.2 λx hx p=>h ⟨x,(hm x).2 hx,(e1 x).1 p⟩]
def HZ (r:List Aq) (b:Int) (live:List Int):List Aq:=live.filterMap λc=>match PL c r r.length with
 |some j=>if bk r b j=true then r[j]? else none
 |none=>none
theorem WQ (r:List Aq) (b:Int) (a:List Int) (c:Int):HZ r b (a++ [c])=HZ r b a++HZ r b [c]:=by unfold HZ;grind
theorem AB4 (h:eT f r) {live:List Int} (a:JG s=some live) (hl:live.length<=16777216) (b:Int):T5 f s b=some (HZ r b live):=by
 unfold T5;rw[a];simp only[Aa];obtain⟨u,h1,h2⟩:=AJ (body:=λq:List Aq×Int=>H1 f b live q.1 q.2) (λ(u:List Aq) i=>(u,i)) live.length (λi u=>u=HZ r b (live.take i)) (λu=>u=HZ r b live)
  (λu i hi hu=>by
   have hg:live[i]?=some live[i]:=Ab hi;obtain⟨o,o1,o2⟩:=Xw f r h.i h.len h.srt live[i];have ho:o=PL live[i] r r.length:=Xj o2<|PK _ _ _<|Ax _;have d:u.length<=i:=by
    rw[hu];have:=List.length_filterMap_le (λc=>match PL c r r.length with|some j=>if bk r b j=true then r[j]? else none|none=>none)<|live.take i;rw[B4]at this;unfold HZ;omega
   have et:live.take (i+1)=live.take i++ [live[i]]:=by simp
   refine .inl ?_;simp only[H1,DW hi,Au,hg,Aa,o1]
   cases ht:PL live[i] r r.length with
   |none=>
    rw[ht]at ho;subst ho;simp only[FL,Ac,Aa];rw[ad1];refine⟨_,rfl,?_⟩;rw[et,WQ,<-hu];simp[HZ,ht]
   |some j=>
    rw[ht]at ho;subst ho;obtain⟨hj,_⟩:=Ob (Ax _) ht;have hr:=Ab hj;simp only[Uc,Ae,Aa,Le]
    cases hb:bk r b j with
    |true=>
     have hb':((r[j]?.getD PB).Block==b)=true:=hb;rw[hb'];simp only[Ae];rw[BD (by grind),ad1];refine⟨_,rfl,?_⟩;rw[et,WQ,<-hu];simp[HZ,ht,hb,hr]
    |false=>
     have hb':((r[j]?.getD PB).Block==b)=false:=hb;rw[hb'];simp only[Ac];rw[ad1];refine⟨_,rfl,?_⟩;rw[et,WQ,<-hu]
     simp[HZ,ht,hb])
  (λu hu=>⟨u,by simp only[H1,DH],by grind⟩) (s:=[]) (by simp[HZ])
 rw[h1,h2];rfl
theorem Tm {b:Int} {live:List Int} (hy:y∈HZ r b live):∃c∈live,∃j,PL c r r.length=some j/\r[j]?=some y/\y.Block=b/\y.Page.Kind=1/\y.Page.Tx=c:=by
 obtain⟨c,c1,c2⟩:=List.mem_filterMap.1 hy
 cases ht:PL c r r.length with
 |none=>grind
 |some j=>
  rw[ht]at c2;simp only at c2;split at c2
  ·rename_i hb;obtain⟨_,z,z1,z2⟩:=Ob (Ax _) ht;rw[z1]at c2
   injection c2 with c2
   subst c2;simp only[bk,z1,AR,Da]at hb;simp only[Jd,Ai,Da]at z2
   grind
  cases c2
theorem fN (r:List Aq) (b:Int):∀{live:List Int},live.Nodup->mB (HZ r b live)
 |[],_=>List.Pairwise.nil
 |c::live,h=>by
  obtain⟨h1,h2⟩:=CY.1 h;have ih:=fN r b h2;unfold HZ;rw[List.filterMap_cons];split
  ·exact ih
  rename_i y hy;refine Cv.2 ⟨λz hz e=>?_,ih⟩;obtain⟨c',q1,j,q2,q3,q4,q5,q6⟩:=Tm (r:=r) (b:=b) (live:=live) hz
  obtain⟨c'',p1,j2,p2,p3,p4,p5,p6⟩:=Tm (r:=r) (b:=b) (live:=[c]) (y:=y) (by
   unfold HZ
   grind)
  grind
def PN (b:Int) (nd:List Bool) (r:List Aq):List Aq:=L4 b 0 nd r++(L4 b 1 nd r++(L4 b 2 nd r++L4 b 3 nd r))
theorem VI {b i:Int}:y∈L4 b i nd r↔(∃j:Nat,r[j]?=some y/\nd[j]?=some true)/\y.Block=b/\y.Leaf=i:=by
 unfold L4;simp only[A9,Be,Ai,Da];constructor
 ·rintro⟨⟨n,z⟩,⟨h1,⟨h2,h3⟩,h4⟩,rfl⟩;obtain⟨j,hj⟩:=List.getElem?_of_mem h1;rw[List.getElem?_zip_eq_some]at hj
  grind
 rintro⟨⟨j,h1,h2⟩,h3,h4⟩;exact⟨(true,y),⟨Ar<|List.getElem?_zip_eq_some.2 ⟨h2,h1⟩,⟨rfl,h3⟩,h4⟩,rfl⟩
theorem nH (hn:∀(j:Nat) y,r[j]?=some y->nd[j]?=some true->PL y.Page.Tx r r.length=some j) (b i:Int):mB (L4 b i nd r):=by
 unfold L4 mB;rw[OP]
 have h0:(nd.zip r).Pairwise λp q=>p.1=true->q.1=true->p.2.Page.Tx≠q.2.Page.Tx:=by
  rw[CH];intro x y hx hy a p q e;have a1:=(List.getElem?_zip_eq_some (l₁:=nd) (l₂:=r)).1<|Ab hx;have a2:=(List.getElem?_zip_eq_some (l₁:=nd) (l₂:=r)).1<|Ab hy
  grind
 have h1:=h0.filter λq=>q.1&&(q.2.Block==b)&&(q.2.Leaf==i);refine(List.pairwise_iff_forall_sublist.2 λ{p q} hs=>?_)
 grind
def wL (b:Int) (nd:List Bool) (r:List Aq):Nat->Nat->List Aq
 |0,_=>[]
 |n+1,i=>L4 b (i:Int) nd r++wL b nd r n (i+1)
theorem z7 (b i:Int) (nd:List Bool) (r:List Aq):(L4 b i nd r).length<=r.length:=by
 unfold L4
 grind
theorem uT (hr:r.length<=40) (hk:∀y∈r,y.Page.Kind=1->y.Page.Count=1/\y.Page.Part=0) (c:nd.length=r.length) (hn:∀(j:Nat) y,r[j]?=some y->nd[j]?=some true->y.Page.Kind=1) (b:Int):∀(n i:Nat),i+n=4->∀{m:Nat} {o:MvS},MvI m o->m+n*40<=1000->
  Ao (λs:List AS×Int×Int×List Block=>FN b r nd s.1 s.2.1 s.2.2.1 s.2.2.2) (o.2.1,o.1,(i:Int),o.2.2)=(mv b (wL b nd r n i) o).map λq=>match q with
   |some o'=> .inl o'.2.1
   |none=> .inr ([],false)
 |0,i,hi,m,o,ho,hm=>by
  rw[Aw];simp only[FN];rw[cF];rfl
 |n+1,i,hi,m,o,ho,hm=>by
  rw[Aw];simp only[FN];rw[cT];have a:=uU hr hk c hn b (i:Int) r.length 0 (by omega) ho (by omega);simp only[List.drop_zero]at a;rw[show((0:Nat):Int)=0 from rfl]at a;rw[a];have d:=z7 b (i:Int) nd r;obtain⟨v,v1,v2⟩:=AAK (b:=b) (L4 b (i:Int) nd r) ho (by omega);have es:wL b nd r (n+1) i=L4 b (i:Int) nd r++wL b nd r n (i+1):=rfl;rw[es,AAL,v1]
  cases v with
  |none=>rfl
  |some o'=>
   simp only[By,Aa,Bo];rw[ad1];exact uT hr hk c hn b n (i+1) (by omega) (v2 o' rfl)<|by omega
theorem vV (d:Ay) (b:Int) (X:List Aq) (hX:X.length<=100) (hd:0<=d.Seq/\d.Seq<=1000000001):∀(n i:Nat),i+n=X.length->∀{m:Nat} {o:MvS},MvI m o->m+n<=1000->o.1=d.Seq+i->
  Ao (λs:Int×List Block×List AS=>II d b X s.1 s.2.1 s.2.2) ((i:Int),o.2.2,o.2.1)=(mv b (X.drop i) o).map λq=>match q with
   |some o'=> .inl (o'.2.2,o'.2.1)
   |none=> .inr ([],false)
 |0,i,hi,m,o,ho,hm,hs=>by
  rw[Aw];simp only[II,FX];rw[cF,List.drop_of_length_le (by omega)];rfl
 |n+1,i,hi,m,o,ho,hm,hs=>by
  have a:i<X.length:=by omega
  have hx:=Ab a;rw[Aw];simp only[II,DW a,Au,hx,Aa];rw[Cp,<-hs,AK a];have ep:Page.mk 1 o.1 X[i].Page.Tx 0 1 X[i].Page.Text=dX o.1 X[i]:=rfl;rw[ep]
  rcases sH (b:=b) (y:=X[i]) ho (by omega)with⟨s,g',a1,a2,a3,a4,a5⟩|⟨a1,⟨w,a2⟩,_⟩
  ·rw[a5,a3];simp only[Aa,Ag,Ac];rw[ad1];exact vV d b X hX hd n (i+1) (by omega) a4 (by omega)<|by omega
  grind
theorem gC {x:Aq} (h:HH d r) (hx:x∈r) (hy:y∈r) (hb:x.Block=y.Block) (hl:x.Leaf=y.Leaf):x=y:=by
 obtain⟨b,l,g1,g2,_,g3⟩:=h.scan.page x hx;obtain⟨b',l',k1,k2,_,k3⟩:=h.scan.page y hy;rw[hb,k1]at g1
 injection g1 with g1
 subst g1;rw[hl,k2]at g2
 injection g2 with g2
 subst g2;rw[k3]at g3
 injection g3 with g3
 injection g3 with g3 _
 cases x;cases y
 grind
theorem xK (h:HH d r) (hy:y∈r):0<=y.Leaf/\y.Leaf<4:=by
 obtain⟨b,l,g1,g2,_,g3⟩:=h.scan.page y hy;obtain⟨_,k1⟩:=Cy g1;obtain⟨q0,k2⟩:=Cy g2;have:=(h.fl.blk b<|Ar k1).four
 grind
theorem cW (h:HH d r) (m:r.length<=40) {live:List Int} (l1:Fq d.Store=some live) (l2:asc live) (l3:∀x,x∈live↔DQ (Bb d.Store) x) (l4:live.length<=16777216) (b:Int):
  ∃v,mv b (PN b (C8 r live 1000000001) r) (d.Seq,[],d.Flash.Blocks)=some v/\Ho d b=some (match v with|some o=>(o.2.1,true)|none=>([],false))/\MR d b=some (match v with|some o=>(o.2.1,true)|none=>([],false))/\
  (PN b (C8 r live 1000000001) r).length=(HZ r b live).length/\(PN b (C8 r live 1000000001) r).length<=4/\∀y,y∈PN b (C8 r live 1000000001) r↔y∈HZ r b live:=by
 have n:=h.pages;have w:1<=d.Seq/\d.Seq<=1000000001:=by
  rw[h.seq];have h1:=Oj r;refine⟨h1.2.1,h1.2.2 _ (by omega) λy hy=>?_⟩;have:=(n.seq y hy).2;omega
 have hk:∀y∈r,y.Page.Kind=1->y.Page.Count=1/\y.Page.Part=0:=by
  intro y hy k1;obtain⟨_,_,_,c1,c2,_,c3⟩:=ACI h hy;omega
 have hn:∀(j:Nat) y,r[j]?=some y->(C8 r live 1000000001)[j]?=some true->y.Page.Kind=1:=λj y hy hj=>(aF h l3 hy hj).1
 have f:∀(j:Nat) y,r[j]?=some y->(C8 r live 1000000001)[j]?=some true->PL y.Page.Tx r r.length=some j/\y.Page.Tx∈live:=by
  intro j y hy hj;rw[Qa r live _ hy]at hj
  injection hj with hj
  rw[CJ]at hj
  rcases hj with hj|hj
  ·simp only[Du,Ai,Da,A4]at hj;have:=(n.tx y<|Ar hy).2;omega
  rw[Dd]at hj;obtain⟨c,c1,c2⟩:=hj;have c2':PL c r r.length=some j:=by simpa using c2
  obtain⟨_,z,z1,z2⟩:=Ob (Ax _) c2';rw[hy]at z1
  injection z1 with z1
  subst z1;simp only[Jd,Ai,Da]at z2
  grind
 have hm:∀y,y∈PN b (C8 r live 1000000001) r↔y∈HZ r b live:=by
  intro y;have e1:y∈PN b (C8 r live 1000000001) r↔(∃j:Nat,r[j]?=some y/\(C8 r live 1000000001)[j]?=some true)/\y.Block=b:=by
   unfold PN;simp only[Ap,VI];constructor
   ·grind
   rintro⟨⟨j,q1,q2⟩,q3⟩;have:=xK h<|Ar q1
   grind
  rw[e1];constructor
  ·rintro⟨⟨j,q1,q2⟩,q3⟩;obtain⟨q4,q5⟩:=f j y q1 q2;refine List.mem_filterMap.2 ⟨y.Page.Tx,q5,?_⟩;rw[q4];simp[bk,q1,q3]
  intro hy;obtain⟨c,c1,j,c2,c3,c4,c5,c6⟩:=Tm hy;refine⟨⟨j,c3,?_⟩,c4⟩;rw[Qa r live _ c3,Aj,CJ]
  grind
 have p:∀y∈HZ r b live,y∈r/\y.Block=b:=λy hy=>by
  obtain⟨c,c1,j,c2,c3,c4,c5,c6⟩:=Tm hy
  grind
 have q:∀x∈HZ r b live,∀y∈HZ r b live,x.Leaf=y.Leaf->x=y:=λx hx y hy e=>gC h (p x hx).1 (p y hy).1 (by grind) e
 have t:∀i:Int,∀y∈L4 b i (C8 r live 1000000001) r,y∈r/\y.Block=b/\y.Leaf=i:=λi y hy=>by
  obtain⟨⟨j,q1,q2⟩,q3,q4⟩:=VI.1 hy
  grind
 have h5:∀i:Int,(L4 b i (C8 r live 1000000001) r).length<=1:=by
  intro i;have hd:=nH (λj y hy hj=>(f j y hy hj).1) b i
  rcases hc:L4 b i (C8 r live 1000000001) r with _|⟨x,_|⟨y,l⟩⟩
  ·exact Ju 1
  ·exact Ax 1
  have hx:=t i x (by rw[hc];simp);have hy:=t i y (by rw[hc];simp);rw[hc]at hd;exact absurd (gC h hx.1 hy.1 (by rw[hx.2.1,hy.2.1])<|by rw[hx.2.2,hy.2.2]) λe=>(Cv.1 hd).1 y (by simp)<|by rw[e]
 have h0:(PN b (C8 r live 1000000001) r).length<=4:=by
  unfold PN
  grind
 have h2:mB (PN b (C8 r live 1000000001) r):=by
  have hd:∀i:Int,mB (L4 b i (C8 r live 1000000001) r):=λi=>nH (λj y hy hj=>(f j y hy hj).1) b i
  have cross:∀i k:Int,i≠k->∀x∈L4 b i (C8 r live 1000000001) r,∀y∈L4 b k (C8 r live 1000000001) r,x.Page.Tx≠y.Page.Tx:=by
   intro i k h3 x hx y hy e;obtain⟨⟨j,q1,q2⟩,q3,q4⟩:=VI.1 hx;obtain⟨⟨j',p1,p2⟩,p3,p4⟩:=VI.1 hy
   grind
  unfold PN mB;refine AO.2 ⟨hd 0,AO.2 ⟨hd 1,AO.2 ⟨hd 2,hd 3,cross 2 3<|by decide⟩,?_⟩,?_⟩
  ·grind
  intro x hx y hy
  rcases Ap.1 hy with hy|hy
  ·grind
  grind
 have a:BV BE (HZ r b live) (PN b (C8 r live 1000000001) r):=AAa (fN r b<|iL l2) h2 (λy=>(hm y).symm) q;have u:=a.len;have g:srt BE (PN b (C8 r live 1000000001) r):=by
  have hc:∀i:Int,srt BE (L4 b i (C8 r live 1000000001) r):=by
   intro i
   refine List.pairwise_of_forall_mem_list λx hx y hy=>?_
   show x.Leaf<=y.Leaf
   grind
  have cross:∀i k:Int,i<=k->∀x∈L4 b i (C8 r live 1000000001) r,∀y∈L4 b k (C8 r live 1000000001) r,BE x<=BE y:=by
   intro i k h3 x hx y hy;show x.Leaf<=y.Leaf
   grind
  unfold PN srt;refine AO.2 ⟨hc 0,AO.2 ⟨hc 1,AO.2 ⟨hc 2,hc 3,cross 2 3<|by decide⟩,?_⟩,?_⟩
  ·intro x hx y hy
   rcases Ap.1 hy with hy|hy
   ·exact cross 1 2 (by decide) x hx y hy
   exact cross 1 3 (by decide) x hx y hy
  intro x hx y hy
  rcases Ap.1 hy with hy|hy
  ·exact cross 0 1 (by decide) x hx y hy
  rcases Ap.1 hy with hy|hy
  ·exact cross 0 2 (by decide) x hx y hy
  exact cross 0 3 (by decide) x hx y hy
 have I0:MvI 0 (d.Seq,[],d.Flash.Blocks):=⟨h.fl.cap,Ax _,by omega,by omega⟩;obtain⟨v,v1,v2⟩:=AAK (b:=b) (PN b (C8 r live 1000000001) r) I0 (by omega);refine⟨v,v1,?_,?_,u.symm,h0,hm⟩
 ·unfold Ho;rw[h.scan.s,l1];simp only[Aa];rw[N8 r live _ h.scan.len l4];simp only[Aa];have h4:live.foldl (dY r) (r.map<|Du 1000000001)=C8 r live 1000000001:=rfl;rw[h4];have ho:=uT m hk (Kn r live 1000000001) hn b 4 0 (by omega) I0 (by omega);have eF:wL b (C8 r live 1000000001) r 4 0=PN b (C8 r live 1000000001) r:=by
   simp[wL,PN]
  grind
 unfold MR;rw[AB4 h.scan (bC h.st l1) l4 b];simp only[Aa];obtain⟨X,x1,x2,x3⟩:=fP BE (HZ r b live) (by omega);have hX:X=PN b (C8 r live 1000000001) r:=Oe BE x2 g (λk=>by rw[x3 k,<-a k]);rw[x1,hX];simp only[Aa];have ho:=vV d b (PN b (C8 r live 1000000001) r) (by omega) ⟨by omega,w.2⟩ (PN b (C8 r live 1000000001) r).length 0 (by omega) I0 (by omega)<|by omega
 grind
theorem ABs (s:Store) (hv:s.Vols.length<=1048576) (id:Int):∃w,Dk s id=some w/\(w<0↔Ld (Bb s) id=none):=by
 rcases Eb s hv id with⟨e,h⟩|⟨k,v,e,h1,h2,_⟩
 ·exact⟨_,e,⟨λ_=>LS.1 h,λ_=>by omega⟩⟩
 refine⟨_,e,⟨λhh=>by omega,λhh=>absurd h2<|LS.2 hh v<|Ar h1⟩⟩
theorem ABB (h:HH d r) (hn:d.Store.Next<1000000000) (q:RR):∃b text no,Fp d q=some (b,text,no)/\(b=[]\/∃x p,b=[x]/\Dr (Bb d.Store) d.Store.Next x=some p)/\(L text≠ []->q.Kind=1):=by
 have o:=h.st.len;have g:=h.st.nx;obtain⟨v,a1,a2⟩:=WV q
 have a:∀{P:Prop},L (bs [])≠ []->P:=λhh=>absurd (ET _) hh
 unfold Fp;rw[a1];simp only[Aa]
 cases v with
 |false=>exact⟨_,_,_,rfl,.inl rfl,a⟩
 |true=>
  have hq:=a2 rfl;simp only[Ag,Ac];have k:=hq.kind;obtain⟨w,hw,i⟩:=ABs d.Store (by omega) q.Vol;rw[hw];simp only[Aa];by_cases h34:q.Kind=3\/q.Kind=4
  ·have:(cond (q.Kind==3) (some true) (some<|q.Kind==4):Option Bool)=some true:=by grind
   rw[this];simp only[Aa,Ae];by_cases f:w<0
   ·rw[Ah (by omega:¬w>=0)];simp only[Ac];obtain⟨u,hu,s⟩:=ABs d.Store (by omega) q.Of;obtain⟨j2,l,m⟩:∃j2,(cond (q.Kind==4) ((Dk d.Store q.Of).bind λv3=>some<|decide<|v3<0) (some false):Option Bool)=some j2/\(j2=false->q.Kind=4->Ld (Bb d.Store) q.Of≠none):=by grind
    rw[l];simp only[Aa]
    cases j2 with
    |true=>exact⟨_,_,_,rfl,.inl rfl,a⟩
    |false=>
     simp only[Ac];rw[Bv];by_cases j:(d.Store.Vols.length:Int)>=3
     ·rw[Ad j];exact⟨_,_,_,rfl,.inl rfl,a⟩
     rw[Ah j];refine⟨_,_,_,rfl,.inr ⟨_,(sO (Bb d.Store) q.Vol (if 0<q.Of then(Ld (Bb d.Store) q.Of).getD Uf else Uf),d.Store.Next),rfl,?_⟩,a⟩;unfold Dr;rw[AG (by rw[ADJ hq.vol hq.of_];simp),AG (by simp),AF rfl,AG];simp only[not_or];refine⟨?_,by rw[i.1 f];simp,by rw[IL];omega⟩;rintro⟨e1,e2⟩
     rcases h34 with e|e
     ·have:=hq.no (by omega);omega
     exact m rfl e e2
   rw[Ad (by omega:w>=0)];exact⟨_,_,_,rfl,.inl rfl,a⟩
  have:(cond (q.Kind==3) (some true) (some<|q.Kind==4):Option Bool)=some false:=by grind
  rw[this];simp only[Aa,Ac];by_cases f:w<0
  ·rw[Ah (by omega:¬w>=0)];exact⟨_,_,_,rfl,.inl rfl,a⟩
  rw[Ad (by omega:w>=0)]
  have hg:Ld (Bb d.Store) q.Vol≠none:=λe=>f<|i.2 e
  have taken:∀x:C3,GM x=true->x.Kind≠1->x.Kind≠2->x.Vol=q.Vol->x.Chunk<1000000000->∃p,Dr (Bb d.Store) d.Store.Next x=some p:=by
   intro x x1 x2 x3 x4 x5;unfold Dr;have x6:¬(Ld (Bb d.Store) x.Vol=none\/x.Chunk=1000000000):=by grind
   rw[AG (by rw[x1];simp),AG x2,AG x3,AG x6];split<;>exact⟨_,rfl⟩
  simp only[Ag,Ac]
  cases k1:(q.Kind==1)with
  |true=>
   simp only[Ae];have k1':q.Kind=1:=by simpa using k1
   obtain⟨live,l1,l2,l3,l4⟩:=GD h.st;obtain⟨c,f1,f2⟩:=RF h l4 q.Text;rw[l1,Aa,f1];simp only[Aa]
   rcases f2 with⟨rfl,f2⟩|⟨f2,f3⟩
   ·obtain⟨z,z1,z2,z3⟩:=qB q.Text hq.text;rw[show((0:Int)==0)=true from rfl,z1];obtain⟨p,hp⟩:=taken (C3.mk 4 q.Vol q.Sector d.Store.Next) (AAm hq.vol (by have:=hq.sec;omega) ⟨g.1,g.2⟩) (by simp) (by simp) rfl hn;exact⟨_,_,_,rfl,.inr ⟨_,_,rfl,hp⟩,λ_=>k1'⟩
   have n:=(l3 c).1 f2;have t:=YS h.st n;rw[show(c==0)=false by grind];obtain⟨p,hp⟩:=taken (C3.mk 4 q.Vol q.Sector c) (AAm hq.vol (by have:=hq.sec;omega)<|by omega) (by simp) (by simp) rfl (by show c<_;omega);exact⟨_,_,_,rfl,.inr ⟨_,_,rfl,hp⟩,λ_=>k1'⟩
  |false=>
   simp only[Ac]
   cases k2:(q.Kind==2)with
   |true=>
    obtain⟨p,hp⟩:=taken (C3.mk 5 q.Vol q.Sector 0) (by
     have:=hq.vol;have:=hq.sec;unfold GM
     grind) (by simp) (by simp) rfl<|by grind
    exact⟨_,_,_,rfl,.inr ⟨_,_,rfl,hp⟩,a⟩
   |false=>
    simp only[Ac]
    cases k5:(q.Kind==5)with
    |true=>
     obtain⟨p,hp⟩:=taken (C3.mk 3 q.Vol 0 0) (by
      have:=hq.vol;unfold GM
      grind) (by simp) (by simp) rfl<|by grind
     exact⟨_,_,_,rfl,.inr ⟨_,_,rfl,hp⟩,a⟩
    |false=>exact⟨_,_,_,rfl,.inl rfl,a⟩
theorem zD (h:BA f):Oa f<=10000:=by
 have hl:∀l:List Leaf,(∀x∈l,lfP x)->(l.map PH).sum<=120*l.length:=by
  intro l
  induction l with
  |nil=>intro _;simp
  |cons x l ih=>
   intro hx;rw[C6,No,AA];have:=ih (λy hy=>hx y<|by simp[hy]);have h1:PH x<=120:=by
    have a:x.Text.size=(L x.Text).length:=by rfl
    unfold PH
    rcases hx x (by simp)with⟨_,e⟩|⟨_,_,e⟩|⟨_,e⟩
    ·rw[a,e];simp
    ·omega
    omega
   omega
 have hb:∀l:List Block,(∀b∈l,Ll b)->(l.map K1).sum<=500*l.length:=by
  intro l
  induction l with
  |nil=>intro _;simp
  |cons b l ih=>
   intro hx;rw[C6,No,AA];have:=ih (λy hy=>hx y<|by simp[hy]);have h1:=hx b (by simp);have h2:=hl b.Leaves h1.leaf;have h4:=h1.four;have hz:K1 b=b.Leaves.length+(b.Leaves.map PH).sum:=rfl;omega
 have:=hb f.Blocks h.blk;have hn:=h.n;unfold Oa zl;omega
theorem yV (h:code.length<=1048576):∃q,Tv code=some q/\ABL q:=by
 unfold Tv;obtain⟨c,c1,c2⟩:=ABE h;obtain⟨d,c',r,d1,d2,d3,_,d4⟩:=XX c2;obtain⟨q,c'',q1,q2,q3⟩:=ABD d2 d d3.dev.st.len λv hv=>d4.ids (v.Id,Ff d.Store.Arena.Knots v.Root)<|A9.2 ⟨v,hv,rfl⟩
 grind
theorem Tj (h:HH d r):Mh d<=1048576:=by
 have h1:=zD h.fl;have h2:=h.st.len;have h3:=h.st.small;have a:∀l:List Bz,(∀k∈l,k.Kids.length=4)->(l.map Ug).sum=4*l.length:=by
  intro l
  induction l with
  |nil=>intro _;rfl
  |cons k l ih=>
   intro hl;rw[C6,No,ih (λx hx=>hl x<|by simp[hx]),AA];have:=hl k (by simp);unfold Ug;omega
 have h4:=a d.Store.Arena.Knots (λk hk=>by
  obtain⟨i,hi,rfl⟩:=A5 hk;have:=(GI.1 h.st.ar i hi).1;rw[O2 hi]at this
  exact this)
 have e1:HS d.Store=d.Store.Vols.length+(d.Store.Arena.Knots.length+(d.Store.Arena.Knots.map Ug).sum):=rfl;have e2:Mh d=Oa d.Flash+HS d.Store:=rfl;omega
theorem qT (s:Store) (hv:s.Vols.length<=1048576) (ha:Nm s.Arena):∃l,LI s=some l/\Rv s=some l/\l.length<=1+17*s.Vols.length:=by
 unfold LI Rv;obtain⟨l,h1,h2,h3⟩:=HD (body:=λq:List C3×Int=>EH s q.1 q.2) (body':=λq:List C3×Int=>JJ s q.1 q.2) (λ(l:List C3) i=>(l,i)) s.Vols.length (λi l=>l.length<=1+17*i) (λl=>l.length<=1+17*s.Vols.length)
  (λl i hi hl=>by
   have hg:s.Vols[i]?=some s.Vols[i]:=Ab hi;obtain⟨a,a1,a2,a3⟩:=OJ s.Arena ha s.Vols[i].Root;have b:ap 32 l [C3.mk 2 s.Vols[i].Id 0 0]=some (l++ [C3.mk 2 s.Vols[i].Id 0 0]):=BD (by grind);simp only[EH,JJ,DW hi,Au,hg,Aa,b,a1,a2];obtain⟨u,u1,u2,u3⟩:=HD (body:=λq:List C3×Int=>EG s (i:Int) a q.1 q.2) (body':=λq:List C3×Int=>HQ s.Vols[i] a q.1 q.2) (λ(l:List C3) k=>(l,k)) a.length (λk o=>o.length<=l.length+1+k) (λo=>o.length<=l.length+17)
    (λo k hk ho=>by
     have c:a[k]?=some a[k]:=Ab hk;simp only[EG,HQ,DW hk,Au,c,hg,Aa];refine⟨by first|rfl|trivial,?_⟩;rw[ad1]
     cases decide (a[k]>0)with
     |true=>
      simp only[Ae];rw[BD<|by grind]
      grind
     |false=>grind)
    (λo ho=>⟨by simp only[EG,HQ,DH],o,by simp only[EG,DH],by omega⟩) (s:=l++ [C3.mk 2 s.Vols[i].Id 0 0]) (by simp)
   have u1':Ao (λq:List C3×Int=>EG s (i:Int) a q.1 q.2) (l++ [C3.mk 2 s.Vols[i].Id 0 0],0)=some u:=u1;have u2':Ao (λq:List C3×Int=>HQ s.Vols[i] a q.1 q.2) (l++ [C3.mk 2 s.Vols[i].Id 0 0],0)=some u:=u2;rw[u1',u2',Aa,ad1]
   grind)
  (λl hl=>⟨by simp only[EH,JJ,DH],l,by simp only[EH,DH],hl⟩) (s:=[C3.mk 1 0 s.Next 0]) (by simp)
 grind
theorem qS (h:HH d r):∃st ok,ME d=some (st,ok)/\Pt d=some (st,ok)/\(ok=true->1<=st.length)/\st.length<=1048576:=by
 have hf:Ka d.Flash:=h.fl.cap;obtain⟨b,r1,r2,r3⟩:=qT d.Store (by have:=h.st.len;omega)<|mC h.st;have hb:=h.st.vs;obtain⟨b1,b2⟩:=iI hb;have e:=VV h.st;rw[r1]at e
 injection e with e
 subst e;obtain⟨st,ok,w1,w2,w3⟩:=PD d hf (Lh (Bb d.Store) d.Store.Next) (by omega)<|bs [];refine⟨st,ok,?_,?_,?_,by omega⟩
 ·unfold ME;grind
 ·unfold Pt;grind
 intro ho;subst ho
 rcases RB h.fl h.seqs (Lh (Bb d.Store) d.Store.Next) (by unfold Lh;simp) b2 b1 (bs [])with w|⟨steps,T,g,c,q1,q2,q3,q4,q5,q6,q7,q8,q9⟩
 ·rw[w1]at w;cases w
 rw[w1]at q2
 injection q2 with q2
 injection q2 with q2 _
 subst q2;have a:=(FD q7).2;rw[Ak]at a;have f:(Cq (Js d<|bs []) d.Tx T).length=T.length:=by unfold Cq;grind
 omega
theorem aQ (x a b:Int):Ha x a b=some (decide (a<=x/\x<=b)):=by
 unfold Ha
 grind
theorem MW {l:List Int} (h:l.length<=1048576):I6 l=some l:=by
 unfold I6;rw[Ma<|by omega];rfl
theorem SL (a:Arena) (h:ABl a.Knots):I8 a=some a:=by
 unfold I8;have q:=SA (body:=λs:Int×List Bz=>I7 a s.1 s.2) a.Knots (λk=>k)
  (λi x b hx ho=>by
   have hi:=(Af.1 hx).1;have hk:=h.2 x<|Ar hx;simp only[I7,DW hi,Au,hx,Aa];rw[MW hk];simp only[Aa];have:=h.1;rw[BD (by simp;omega),ad1]
   rfl)
  (λb=>by simp only[I7,DH])
 rw[q];simp
theorem O6 (s:Store) (h:ABl s.Arena.Knots) (hv:s.Vols.length<=1048576):Hq s=some s:=by
 unfold Hq;rw[Ma (by omega),SL _ h];rfl
theorem Rw (a:Arena) (ha:a.Knots.length<=1048576):Jk a=some (CO a.Knots):=by rw[WH,KG a ha]
theorem SG (a:Arena) (ha:a.Knots.length<=1048576) (r:Int):GZ a r=some (decide (0<=r/\r<(a.Knots.length:Int))&&!(B6 a.Knots r).Leaf):=by
 unfold GZ;rw[aQ,Bv,Cm];simp only[Aa];by_cases h:0<=r/\r<(a.Knots.length:Int)
 ·rw[Ad (by omega:0<=r/\r<=(a.Knots.length:Int)-1),Ad h,Ae,Ic h.1 h.2];simp
 grind
theorem oO {a:Arena} {r:Int} (ha:a.Knots.length<=1048576) (hr:D6 a.Knots r=true):(cond (r !=(-1)) ((GZ a r).bind λv2=>some (!v2)) (some false):Option Bool)=some false:=by
 rcases BX hr with rfl|⟨h0,h1,hl⟩
 ·rfl
 rw[show(r !=(-1))=true by simp;omega,Ae,SG a ha,Ad ⟨h0,h1⟩,hl];rfl
theorem sV {r:Int} {s:Nat} {n:Int} (a:Arena) (ha:a.Knots.length<=1048000) (hK:CO a.Knots=true) (hr:D6 a.Knots r=true) (hs:s<16) (hn:0<=n):
  YX a r (s:Int) n=some (Arena.mk (J8 a.Knots r s n),(a.Knots.length:Int)+1):=by
 unfold YX;rw[SL _ (Lg hK<|by omega),Rw a (by omega),aQ,hK];simp only[Aa,Ag,Ac];rw[Ad (by omega:0<=(s:Int)/\(s:Int)<=15),Ah (by omega:¬n<0)];simp only[Ag,Ac,Aa];have hq:(cond (r !=(-1)) ((GZ a r).bind λv2=>cond (!v2) (some true)<|some false) (some false):Option Bool)=some false:=by
  rcases BX hr with rfl|⟨h0,h1,hl⟩
  ·rfl
  rw[show(r !=(-1))=true by simp;omega,Ae,SG a (by omega),Ad ⟨h0,h1⟩,hl];rfl
 rw[hq,mk4];simp only[Aa,Ac];have fin:∀(lf tp:List Int),lf.length=4->tp.length=4->J8 a.Knots r s n=a.Knots++ [Bz.mk true<|lf.set (s %4) n,Bz.mk false<|tp.set (s/4) (a.Knots.length:Int)]->
   ((gi lf<|Int.tmod (s:Int) 4).bind λx4=>(gi tp<|qu (s:Int) 4).bind λx5=>(ap 32 a.Knots [Bz.mk true<|si lf (Int.tmod (s:Int) 4) n,Bz.mk false<|si tp (qu (s:Int) 4)<|ln a.Knots]).bind λq2=>some (Arena.mk q2,ad (ln a.Knots) 1))=some (Arena.mk<|J8 a.Knots r s n,(a.Knots.length:Int)+1):=by
  intro lf tp h1 h2 h3;rw[qu4 hs,zL,Au,Au,Ab (by omega),Ab (by omega),Aa,BD (by simp;omega),El,El,Bv,<-h3,ad1];rfl
 rcases BX hr with rfl|⟨h0,h1,hl⟩
 ·rw[Ah (by omega:¬(-1:Int)>=0)];simp only[Ac,Aa];have hx:gi [(-1:Int),-1,-1,-1] (qu (s:Int) 4)=some (-1):=by
   rw[qu4 hs,Au];have:s/4<4:=by omega
   match s/4,this with
   |0,_=>rfl
   |1,_=>rfl
   |2,_=>rfl
   |3,_=>rfl
   |n+4,h=>omega
  rw[hx,Aa,Ah (by omega:¬(-1:Int)>=0)];simp only[Ac,Aa];have:=fin [0,0,0,0] [-1,-1,-1,-1] rfl rfl rfl
  grind
 rw[cT,Ic h0 h1];have h4:=(FP hK h0 h1).1;rw[Aa,MW<|by omega];simp only[Aa];have hx:gi (B6 a.Knots r).Kids (qu (s:Int) 4)=some (ML (B6 a.Knots r)<|s/4):=by rw[qu4 hs,pG (by omega:s/4<(B6 a.Knots r).Kids.length)]
 rw[hx];simp only[Aa]
 rcases G4 hK h0 h1 hl (show s/4<4 by omega)with e|⟨e1,e2,e3⟩
 ·rw[Ah (by omega:¬ML (B6 a.Knots r) (s/4)>=0)];simp only[Ac,Aa];have:=fin [0,0,0,0] (B6 a.Knots r).Kids rfl h4 (by unfold J8 Pm TS;simp only[AG (show¬r<0 by omega),AF<|show ML (B6 a.Knots r) (s/4)<0 by omega])
  grind
 rw[cT,Ic e1<|by omega];have h5:=(FP hK e1<|by omega).1;rw[Aa,MW<|by omega];simp only[Aa];have:=fin (B6 a.Knots<|ML (B6 a.Knots r)<|s/4).Kids (B6 a.Knots r).Kids h5 h4 (by unfold J8 Pm TS;grind)
 grind
theorem Za (l:List Int) (n:Int) (hl:l.length<=1048576):O5 l n=some (l.contains n):=by
 unfold O5;obtain⟨b,h1,h2⟩:=AJ (body:=λs:Int=>MN l n s) (λ(_:Unit) i=>i) l.length (λi _=>n∉l.take i) (λb=>(b= .inr true/\n∈l)\/(b= .inl ()/\n∉l))
  (λ_ i hi hs=>by
   have hx:=Ab hi;simp only[MN,DW hi,Au,hx,Aa];rw[ad1]
   cases e:(l[i]==n)with
   |true=>grind
   |false=>
    refine .inl ⟨(),by rfl,?_⟩;rw[Al hi,Ap,Bu]
    grind)
  (λ_ hs=>⟨.inl (),by simp only[MN,DH],.inr ⟨rfl,by grind⟩⟩) (s:=()) (by simp)
 grind
theorem Wn {r:Int} (a:Arena) (ha:a.Knots.length<=1048000) (hK:CO a.Knots=true) (hr:D6 a.Knots r=true):∃l,Qf a r=some l/\l.length<=5/\∀i:Nat,(i:Int)∈l↔OL a.Knots r i=true:=by
 unfold Qf;rw[SG a<|by omega];simp only[Aa]
 rcases BX hr with rfl|⟨h0,h1,hl⟩
 ·rw[Ah (by omega:¬((0:Int)<= -1/\(-1:Int)<(a.Knots.length:Int)))];exact⟨[],rfl,by simp,λi=>by simp[OL]⟩
 rw[Ad ⟨h0,h1⟩,hl,Ic h0 h1];simp only[AN,Nq,Ag,Ac,Aa];obtain⟨h4,hk⟩:=FP hK h0 h1;obtain⟨l,q1,q2,q3⟩:=AJ (body:=λs:List Int×Int=>KO a (B6 a.Knots r) s.1 s.2) (λ(o:List Int) i=>(o,i)) (B6 a.Knots r).Kids.length
  (λi o=>o.length<=1+i/\∀n:Nat,(n:Int)∈o↔(r=(n:Int)\/(n:Int)∈(B6 a.Knots r).Kids.take i)) (λo=>o.length<=5/\∀n:Nat,(n:Int)∈o↔(r=(n:Int)\/(n:Int)∈(B6 a.Knots r).Kids))
  (λo i hi ho=>by
   obtain⟨o1,o2⟩:=ho;have hx:=Ab hi;have et:(B6 a.Knots r).Kids.take (i+1)=(B6 a.Knots r).Kids.take i++ [(B6 a.Knots r).Kids[i]]:=Al hi;refine .inl ?_;simp only[KO,DW hi,Au,hx,Aa];rw[aQ,Bv,Cm,ad1];simp only[Aa];have b:(B6 a.Knots r).Kids[i]=ML (B6 a.Knots r) i:=by grind
   rcases G4 hK h0 h1 hl (show i<4 by omega)with e|⟨e1,e2,e3⟩
   ·grind
   rw[cT,Za o _<|by omega];simp only[Aa]
   cases hc:o.contains (B6 a.Knots r).Kids[i]with
   |true=>
    have hm:(B6 a.Knots r).Kids[i]∈o:=by simpa using hc
    refine⟨o,rfl,by omega,λn=>?_⟩
    grind
   |false=>
    simp only[AN,Ae];rw[BD (by simp;omega)];refine⟨_,rfl,by simp;omega,λn=>?_⟩
    grind)
  (λo ho=>⟨o,by simp only[KO,DH],by have:=ho.1;omega,by grind⟩) (s:=[r]) ⟨by simp,λn=>by simp[eq_comm]⟩
 rw[q1];refine⟨l,rfl,q2,λi=>?_⟩;rw[q3];unfold OL
 grind
theorem eJ (hr:GJ r):∃l,Ao (λs:List Int×Int=>Kt r s.1 s.2) ([],0)=some l/\l.Nodup/\(∀x,x∈l↔∃y∈r,y.Page.Kind=2/\y.Page.Tx=x)/\l.length<=r.length:=by
 have a:=hr.len;obtain⟨l,h1,h2,h3,h4⟩:=AJ (body:=λs:List Int×Int=>Kt r s.1 s.2) (λ(o:List Int) i=>(o,i)) r.length (λi o=>o.Nodup/\(∀x,x∈o↔∃y∈r.take i,y.Page.Kind=2/\y.Page.Tx=x)/\o.length<=i) (λo=>o.Nodup/\(∀x,x∈o↔∃y∈r,y.Page.Kind=2/\y.Page.Tx=x)/\o.length<=r.length)
  (λo i hi ho=>by
   obtain⟨o1,o2,o3⟩:=ho;have hx:=Ab hi;have et:r.take (i+1)=r.take i++ [r[i]]:=by simp
   refine .inl ?_;simp only[Kt,DW hi,Au,hx,Aa];rw[ad1,Za o _<|by omega]
   cases hk:(r[i].Page.Kind==2)with
   |false=>grind
   |true=>
    have hk':r[i].Page.Kind=2:=by simpa using hk
    simp only[Ae,Aa]
    cases hc:o.contains r[i].Page.Tx with
    |true=>grind
    |false=>
     have hc':r[i].Page.Tx∉o:=by grind
     simp only[AN,Ae];rw[BD<|by grind];refine⟨_,rfl,?_,λx=>?_,by simp;omega⟩
     ·grind
     grind)
  (λo ho=>⟨o,by simp only[Kt,DH],by grind⟩) (s:=[]) ⟨Db,by simp,by simp⟩
 grind
theorem wJ {l:List Int} (hr:GJ r) (h1:l.Nodup) (h2:∀x,x∈l↔∃y∈r,y.Page.Kind=2/\y.Page.Tx=x):Sk l=Dz r:=by
 obtain⟨n1,n2,n3⟩:=GY r λy hy=>(hr.tx y hy).1;refine W6 ?_ n1 λx=>?_
 ·have hs:(Sk l).Pairwise λx y=>x<=y:=by
   have:=List.pairwise_mergeSort (le:=λx y:Int=>decide<|x<=y) (λa b c h1 h2=>by simp at*;omega) (λa b=>by simp;omega) l;unfold Sk
   grind
  have hd:(Sk l).Nodup:=by
   unfold Sk;exact(List.mergeSort_perm l _).nodup_iff.2 h1
  unfold asc;exact(hs.and hd).imp (λh=>by omega)
 rw[n2,<-h2];unfold Sk;simp
theorem f7 (t:ByteArray) (ht:(L t).length<=20000):∀(n a:Nat) (c:List C3),(L t).length-a<=n->a<=(L t).length->c.length<=a->Ao (λs:List C3×Int=>Mr t s.1 s.2) (c,(a:Int))=Ao (λs:List C3×ByteArray×Int×Bool=>EB t s.1 s.2.1 s.2.2.1 s.2.2.2) (c,t,(a:Int),false)
 |n,a,c,hn,ha,ho=>by
  rw[Aw,Aw];simp only[EB,Mr];rw[B3];by_cases d:a<(L t).length
  ·rw[Ad (by omega:(a:Int)<((L t).length:Int))];simp only[Ae,Aa,AN];rw[Fs t d,ad1];obtain⟨r1,a1,a2,a3⟩:=IM t ((a+1:Nat):Int) (by omega) ⟨by omega,by omega⟩;have f:oI r1.2.1:=by
    rcases a3 with⟨_,_,e⟩|⟨_,_,b,_,_,e,_,_,e2,_⟩
    ·rw[e];exact⟨by omega,by omega⟩
    rw[e];exact⟨by omega,by omega⟩
   obtain⟨r2,b1,b2,b3⟩:=IM t r1.2.1 (by omega) f;rw[a2,Aa,b2];simp only[Aa];have l1:Dl (Ex.mk t ((a+1:Nat):Int) false)=some (if r1.2.2=true then(r1.1,Ex.mk t r1.2.1 false)else(0,Ex.mk t ((a+1:Nat):Int) true)):=by
    unfold Dl
    grind
   rw[l1]
   cases h1:r1.2.2 with
   |false=>
    simp only[CP,FW,Aa,AN,Ae];have l2:Dl (Ex.mk t ((a+1:Nat):Int) true)=some (0,Ex.mk t ((a+1:Nat):Int) true):=by
     unfold Dl
     grind
    grind
   |true=>
    simp only[Ce,Aa,Ag,Ac];have l2:Dl (Ex.mk t r1.2.1 false)=some (if r2.2.2=true then(r2.1,Ex.mk t r2.2.1 false)else(0,Ex.mk t r1.2.1 true)):=by
     unfold Dl
     grind
    rw[l2]
    cases h2:r2.2.2 with
    |false=>rfl
    |true=>
     simp only[Ce,Aa,Ag,Ac];obtain⟨v,c1,c2,_⟩:=cQ<|C3.mk (qu (IntKind.i64.wrap ((L t)[a].toNat:Int)) 16) (Int.tmod (IntKind.i64.wrap ((L t)[a].toNat:Int)) 16) r1.1 r2.1;rw[c1,c2];simp only[Aa]
     cases v with
     |false=>rfl
     |true=>
      simp only[Ag,Ac];rw[BD (by simp;omega)];simp only[Aa]
      rcases b3 with⟨e,_⟩|⟨_,aa,b,m,k1,k2,k3,k4,k5,_⟩
      ·rw[h2]at e;cases e
      rcases a3 with⟨e,_⟩|⟨_,aa',b',m',p1,p2,p3,p4,p5,_⟩
      ·rw[h1]at e;cases e
      rw[k2]
      match n,hn with
      |n+1,hn=>exact f7 t ht n b _ (by omega) k5 (by simp;omega)
      |0,hn=>omega
  grind
theorem eG (t:ByteArray) (ht:(L t).length<=20000):Rl t=Ix t:=by
 have h:=f7 t ht (L t).length 0 [] (by omega) (by omega) (by simp);rw[show((0:Nat):Int)=0 from rfl]at h;unfold Rl Ix;rw[h]
def AEu:Page:=Page.mk 0 0 0 0 0<|bs []
theorem gP (r:List Aq) (hl:r.length<=1048576) (t a c:Int) (h:(a=0/\c=0)\/(0<a/\0<c)):SF r t a c=some (match SY r t a c with|some y=>(y.Page,true)|none=>(AEu,false)):=by
 have hp:∀y:Aq,(cond (y.Page.Kind==2) (cond (y.Page.Tx==t) (cond (y.Page.Part==a) (cond (c==0) (some true)<|some<|y.Page.Count==c)<|some false)<|some false) (some false):Option Bool)=some (qW t a c y):=by
  intro y;unfold qW;cases y.Page.Kind==2<;>cases y.Page.Tx==t<;>cases y.Page.Part==a<;>simp only[Ae,Ac,Bool.false_and,Ig]
  rcases h with⟨rfl,rfl⟩|⟨h1,h2⟩
  ·simp
  grind
 unfold SF;obtain⟨b,h1,h2⟩:=AJ (body:=λs:Int=>MM r t a c s) (λ(_:Unit) i=>i) r.length (λi _=>∀(j:Nat) x,j<i->r[j]?=some x->qW t a c x=false) (λb=>match SY r t a c with|some y=>b= .inr (y.Page,true)|none=>b= .inl ())
  (λ_ i hi hs=>by
   have hx:=Ab hi;simp only[MM,DW hi,Au,hx,Aa];rw[hp,ad1];simp only[Aa]
   cases e:qW t a c r[i]with
   |true=>
    refine .inr ⟨_,rfl,?_⟩;unfold SY;rw[l9 r _ hs hx e]
   |false=>
    refine .inl ⟨(),by rfl,λj x hj d=>?_⟩
    grind)
  (λ_ hs=>⟨.inl (),by simp only[MM,DH],by
   unfold SY
   rw[vY r _ λj x hx=>hs j x (Af.1 hx).1 hx]⟩) (s:=()) (λj x hj=>by omega)
 rw[h1]
 cases hf:SY r t a c with
 |none=>rw[hf]at h2;simp only at h2;rw[h2];rfl
 |some y=>grind
theorem AA6 (r:List Aq) (hr:GJ r) (t:Int) (v:Page×Bool) (hv:1<=v.1.Count/\v.1.Count<=9):∀(n:Nat) (a:Int) (text:ByteArray) (seq:Int),a+n=11->1<=a->a<=v.1.Count->(L text).length<=90*a.toNat->
  ∃b,Ao (λs:ByteArray×Int×Int=>Mn r t v s.1 s.2.1 s.2.2) (text,seq,a)=some b/\(match parts r t n a v.1.Count (L text) seq with
   |none=>b= .inr (Tx.mk 0 0 [],false)
   |some (x,q)=>∃u,b= .inl (u,q)/\L u=x/\(L u).length<=1000)
 |0,a,text,seq,hn,h1,hc,ht=>by omega
 |n+1,a,text,seq,hn,h1,hc,ht=>by
  rw[Aw];simp only[Mn,parts];by_cases e:a<v.1.Count
  ·rw[Ad e,AF (.inr e)];simp only[Ae];rw[gP r hr.len t a v.1.Count (.inr ⟨by omega,by omega⟩)];simp only[Aa]
   cases hf:SY r t a v.1.Count with
   |none=>grind
   |some y=>
    simp only[Ag,Ac];have hy:=SX hf;have d:=hr.text y hy.1;have c:=vP hy.2 (by omega);rw[Ga text y.Page.Text (by omega),Aa,Cp,c];have es:QT a seq y=(if y.Page.Seq<seq then y.Page.Seq else seq):=by
     unfold QT;omega
    rw[es,<-DS];exact AA6 r hr t v hv n (a+1) _ _ (by omega) (by omega) (by omega) (by rw[DS,Ak];omega)
  rw[Ah e,AG<|by omega]
  grind
end Go.TI
