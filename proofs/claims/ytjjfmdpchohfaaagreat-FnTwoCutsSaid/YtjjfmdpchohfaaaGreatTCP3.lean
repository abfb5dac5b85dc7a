/- The power goes twice. No condition; no program is in sight. -/
import Derived.Test.YtjjfmdpchohfaaaGreatTCP2
set_option linter.unusedVariables false
set_option linter.unusedSimpArgs false
namespace Go.TI
open Go
def H0 (id:Int):Nat->List Int->List C1
 |_,[]=>[]
 |k,x::row=>(if x>0 then [C1.mk 4 id k x]else [])++H0 id (k+1) row
def Q4 (p:Int×List Int):List C1:=C1.mk 2 p.1 0 0::H0 p.1 0 p.2
def Li (l:Vs) (nx:Int):List C1:=C1.mk 1 0 nx 0::l.flatMap Q4
theorem QI (id x:Int):∀(k:Nat) (a:List Int),H0 id k (a++ [x])=H0 id k a++(if x>0 then [C1.mk 4 id (k+a.length:Nat) x]else [])
 |k,[]=>by simp[H0]
 |k,y::a=>by
  rw[BB,H0,QI id x (k+1) a,H0,AE,AB,show k+1+a.length=k+(a.length+1) by omega]
theorem XR (id:Int):∀(k:Nat) (a:List Int),(H0 id k a).length<=a.length
 |_,[]=>Ax _
 |k,x::a=>by
  rw[H0,Ak,AB];have:=XR id (k+1) a
  grind
theorem j9 (K:Ks) (r:Int):(Fi K r).length=16:=by unfold Fi;simp
theorem pF:∀(l:Vs),(∀p∈l,p.2.length=16)->(l.flatMap Q4).length<=17*l.length
 |[],_=>Ax _
 |p::l,h=>by
  have:=pF l (λq hq=>h q<|by simp[hq]);have h2:=XR p.1 0 p.2;have h3:=h p (by simp);rw[K1,Ak,AB];unfold Q4 at*
  grind
variable {r a r' b:List Aq} {d e d':Az} {n k m:Nat} {y:Aq} {c:BP} {g f:Flash} {s:Store} {nx nx':Int} {P l l':Vs} {T:List ByteArray} {p:Page} {code:List Int} {nd:List Bool} {x:C1} {K:Ks}
theorem VS (h:C9 s):LH s=some (Li (Bb s) s.Next):=by
 have hl:=h.len;unfold LH;obtain⟨b,h1,h2⟩:=AL (body:=λq:List C1×Int=>EH s q.1 q.2) (λ(o:List C1) i=>(o,i)) s.Vols.length (λi o=>o=Li ((Bb s).take i) s.Next/\o.length<=1+17*i) (λo=>o=Li (Bb s) s.Next)
  (λo i hi ho=>by
   have hx:=Ab hi;have hr:=h.root _<|AA.2 ⟨s.Vols[i],A0 hi,rfl⟩;have d:=ho.2;have et:(Bb s).take (i+1)=(Bb s).take i++ [(s.Vols[i].Id,Fi s.Arena.Knots s.Vols[i].Root)]:=by
    rw[DX];unfold Bb
    grind
   simp only[EH,DV hi,Au,hx,Aa];rw[BD (by simp;omega),Aa,Ot _ (by have:=h.few;omega) h.ar hr];simp only[Aa];obtain⟨u,u1,u2,u3⟩:=AL (body:=λq:List C1×Int=>EG s (i:Int) (Fi s.Arena.Knots s.Vols[i].Root) q.1 q.2) (λ(l:List C1) k=>(l,k)) (Fi s.Arena.Knots s.Vols[i].Root).length
    (λk u=>u=o++ [C1.mk 2 s.Vols[i].Id 0 0]++H0 s.Vols[i].Id 0 ((Fi s.Arena.Knots s.Vols[i].Root).take k)/\u.length<=o.length+1+k) (λu=>u=o++ [C1.mk 2 s.Vols[i].Id 0 0]++H0 s.Vols[i].Id 0 (Fi s.Arena.Knots s.Vols[i].Root)/\u.length<=o.length+17)
    (λu k hk hu=>by
     obtain⟨a,f⟩:=hu;have c:=Ab hk;have g:=j9 s.Arena.Knots s.Vols[i].Root;have etk:=Al hk;simp only[EG,DV hk,Au,c,hx,Aa];rw[ad1];refine .inl ?_;by_cases e:(Fi s.Arena.Knots s.Vols[i].Root)[k]>0
     ·rw[Ad e,Ae,BD (by simp;omega)];refine⟨_,rfl,?_,by simp;omega⟩;rw[etk,QI,AG e,a,B4,show 0+min k (Fi s.Arena.Knots s.Vols[i].Root).length=k by omega]
      grind
     rw[Ah e,Ac];refine⟨u,rfl,?_,by omega⟩
     rw[etk,QI,AH e,a,A9])
    (λu hu=>⟨u,by rfl,by grind,by have:=j9 s.Arena.Knots s.Vols[i].Root;have:=hu.2;omega⟩) (s:=o++ [C1.mk 2 s.Vols[i].Id 0 0]) ⟨by simp[H0],by simp⟩
   rw[u1,Aa,ad1];refine .inl ⟨u,rfl,?_,by omega⟩;rw[et,u2,ho.1];unfold Li;rw[List.flatMap_append]
   simp[Q4])
  (λo ho=>⟨o,by simp only[EH,DI],by rw[ho.1,AO (by rw[IL];exact Ax _)]⟩) (s:=[C1.mk 1 0 s.Next 0]) ⟨rfl,by simp⟩
 rw[h1,h2];rfl
structure VsP (l:Vs) (nx:Int):Prop where
 len:l.length<=3
 nxt:1<=nx/\nx<=1000000000
 ids:∀p∈l,1<=p.1/\p.1<=9
 asc:l.Pairwise λp q=>p.1<q.1
 row:∀p∈l,p.2.length=16
 num:∀p∈l,∀x∈p.2,0<=x/\x<nx
theorem pO {r:Int} (hK:CP K=true) (hr:D7 K r=true):∀x∈Fi K r,0<=x:=by
 intro x hx;unfold Fi at hx;obtain⟨s,hs,rfl⟩:=AA.1 hx;rw[Ln]at hs;unfold RO
 rcases BX hr with e|⟨h0,h1,hl⟩
 ·omega
 rw[AH<|by omega]
 rcases G3 hK h0 h1 hl (show s/4<4 by omega)with k1|⟨k1,k2,k3⟩
 ·omega
 rw[AH<|by omega];exact AAU hK k1 (by omega) k3<|by omega
theorem C9.vs (h:C9 s):VsP (Bb s) s.Next:=by
 have mem:∀p∈Bb s,∃v∈s.Vols,p=(v.Id,Fi s.Arena.Knots v.Root):=λp hp=>by
  obtain⟨v,hv,rfl⟩:=AA.1 hp
  grind
 refine⟨by rw[IL];exact h.len,h.nx,λp hp=>?_,?_,λp hp=>?_,λp hp x hx=>?_⟩
 ·obtain⟨v,hv,rfl⟩:=mem p hp;exact h.ids v hv
 ·have:=h.asc;unfold Bb
  grind
 ·obtain⟨v,hv,rfl⟩:=mem p hp;exact j9 _ _
 obtain⟨v,hv,rfl⟩:=mem p hp;have hm:v.Root∈Bw s:=AA.2 ⟨v,hv,rfl⟩;exact⟨pO h.ar (h.root _ hm) x hx,h.lt _ hm x hx⟩
theorem Up {id:Int} (h:∀p∈P,p.1<id) (Q:Vs):Le (P++Q) id=Le Q id:=by
 unfold Le
 grind
theorem AAk {id k x:Int} (h1:1<=id/\id<=9) (h2:0<=k/\k<16) (h3:1<=x/\x<=1000000000):GL (C1.mk 4 id k x)=true:=by
 unfold GL;simp;omega
theorem ADI {id a:Int} (h1:1<=id/\id<=9) (h2:0<=a/\a<=9):GL (C1.mk 2 id a 0)=true:=by
 unfold GL;simp;omega
theorem wI {id:Int} {a:List Int} (h:∀p∈P,p.1<id) (k:Nat) (x:Int):rH (P++ [(id,a)]) id k x=P++ [(id,a.set k x)]:=by
 unfold rH;rw[Ca];congr 1
 ·conv=>rhs;rw[<-Vp P]
  apply CX
  grind
 simp
theorem n8 {id nx:Int} (hP:∀p∈P,p.1<id) (a:1<=id/\id<=9) (c:nx<=1000000000):∀(todo done:List Int),done.length+todo.length=16->(∀x∈todo,0<=x/\x<nx)->CZ (P++ [(id,done++List.replicate todo.length 0)]) nx (H0 id done.length todo)=some (P++ [(id,done++todo)],nx)
 |[],done,hl,hx=>by rfl
 |x::todo,done,hl,hx=>by
  have h1:=hx x (by simp);rw[AB]at hl;have ih:=n8 hP a c todo (done++ [x]) (by simp;omega) (λy hy=>hx y<|by simp[hy]);rw[Ak,Bg]at ih;rw[H0];have b:(done++List.replicate (todo.length+1) 0).set done.length x=done++ [x]++List.replicate todo.length 0:=by grind
  by_cases e:x>0
  ·rw[AG e,Fz,Hd];have d:Dr (P++ [(id,done++List.replicate (x::todo).length 0)]) nx (C1.mk 4 id done.length x)=some (P++ [(id,done++ [x]++List.replicate todo.length 0)],nx):=by
    unfold Dr;rw[AAk a (by omega)<|by omega];simp only[JO,FU,show¬((4:Int)=1) by omega,show¬((4:Int)=2) by omega,show¬((4:Int)=3) by omega];have hg:Le (P++ [(id,done++List.replicate (x::todo).length 0)]) id≠none:=by
     rw[Up hP];simp[Le]
    rw[AH<|by grind];rw[wI hP,Bi,AB,b,show max nx (x+1)=nx by omega]
   grind
  grind
theorem yA {id:Int} {a:List Int} (h:∀p∈P,p.1<id):sK P id a=P++ [(id,a)]:=by
 unfold sK;rw[GJ.2 (λp hp=>by simpa using h p hp),Bh.2 (λp hp=>by grind),A9]
theorem fE (b:nx<=1000000000):∀(l P:Vs),(P++l).length<=3->(P++l).Pairwise (λp q=>p.1<q.1)->(∀p∈l,(1<=p.1/\p.1<=9)/\p.2.length=16/\∀x∈p.2,0<=x/\x<nx)->CZ P nx (l.flatMap Q4)=some (P++l,nx)
 |[],P,_,_,_=>by simp[CZ]
 |p::l,P,c,d,hall=>by
  obtain⟨h1,h2,h3⟩:=hall p<|by simp
  have a:∀q∈P,q.1<p.1:=λq hq=>by grind
  rw[K1,Ms];unfold Q4;rw[Hd];have f:Dr P nx (C1.mk 2 p.1 0 0)=some (P++ [(p.1,Ud)],nx):=by
   unfold Dr;rw[ADI h1<|by omega];simp only[JO,FU,Ce,show¬((2:Int)=1) by omega];have hg:Le P p.1=none:=by
    have:=Up a [];rw[A9]at this;rw[this];rfl
   rw[AH<|by grind];rw[AH (by omega),yA a]
  rw[f];simp only[Aa];have hz:Ud=[]++List.replicate p.2.length 0:=by rw[h2];rfl
  have e:=n8 a h1 b p.2 [] (by simpa using h2) h3;rw[<-hz,Fl,A7]at e;rw[e];simp only[Aa];have hP:P++ [(p.1,p.2)]=P++ [p]:=rfl;have:=fE b l (P++ [p]) (by rw[AE];exact c) (by rw[AE];exact d) (λq hq=>hall q<|by simp[hq]);rw[hP,show(l.flatMap λp=>C1.mk 2 p.1 0 0::H0 p.1 0 p.2)=l.flatMap Q4 from rfl,this,AE];rfl
theorem iL (h:VsP l nx) (l0:Vs) (n0:Int):CZ l0 n0 (Li l nx)=some (l,nx):=by
 unfold Li;rw[Hd];have a:Dr l0 n0 (C1.mk 1 0 nx 0)=some ([],nx):=by
  unfold Dr;have hb:GL (C1.mk 1 0 nx 0)=true:=by
   have:=h.nxt;unfold GL;simp;omega
  rw[hb];simp only[JO,FU,Ce];have:=h.nxt
  grind
 rw[a];simp only[Aa];have:=fE h.nxt.2 l [] (by simpa using h.len) (by simpa using h.asc) λp hp=>⟨h.ids p hp,h.row p hp,h.num p hp⟩
 grind
theorem iK (h:VsP l nx):(∀r∈Li l nx,GL r=true)/\(Li l nx).length<=1000:=by
 refine⟨λr hr=>?_,?_⟩
 ·
  cases hb:GL r with
  |true=>rfl
  |false=>
   exfalso;obtain⟨i,hi,rfl⟩:=A5 hr;have h1:=iL h [] 1;obtain⟨e1,e2⟩:=JW<|Ab hi;rw[e1,Ms]at h1
   cases hq:CZ [] 1 ((Li l nx).take i)with
   |none=>grind
   |some q=>
    rw[hq]at h1;simp only[Aa]at h1;rw[Hd]at h1;have:Dr q.1 q.2 (Li l nx)[i]=none:=by unfold Dr;rw[AG hb]
    grind
 unfold Li;rw[AB];have:=pF l h.row;have:=h.len;omega
structure AFy (d d':Az):Prop where
 ab:Bb d'.Store=Bb d.Store
 nx:d'.Store.Next=d.Store.Next
theorem N0 (h:HJ d r) {steps:List AU} (hs:Steps d.Flash steps g) (hl:steps.length<=1048576) (hm:Cs g=some (d',true)):Hy d steps=some d':=by
 unfold Hy;rw[XQ h.fl hs hl,Aa,hm];rfl
theorem W6:∀{n:Int} {ps:List Page} {p:Page},H9 n ps->(∀q∈ps,q.Seq<p.Seq)->n<=p.Seq->H9 n (ps++ [p])
 |n,[],p,_,_,h=>⟨h,trivial⟩
 |n,q::ps,p,ha,hq,h=>⟨ha.1,W6 ha.2 (λx hx=>hq x (by simp[hx])) (by grind)⟩
def sE (d:Az) (r:List Aq) (p:Page):Prop:=p.Kind=1/\DR (Bb d.Store) p.Tx/\∃y,KN r p.Tx=some y/\p.Text=y.Page.Text
theorem aH {j:Nat} (h:HJ d r) {live:List Int} (hl:∀x,x∈live↔DR (Bb d.Store) x) (hy:r[j]?=some y) (hn:(C7 r live 1000000001)[j]?=some true):y.Page.Kind=1/\DR (Bb d.Store) y.Page.Tx/\KN r y.Page.Tx=some y:=by
 rw[PZ r live _ hy]at hn
 injection hn with hn
 have a:=h.pages;have ht:=a.tx y<|Ar hy;have:Du 1000000001 y=false:=by
  unfold Du
  grind
 rw[this,WF,Dd]at hn;obtain⟨c,hc,b⟩:=hn;have e:PJ c r r.length=some j:=by simpa using b
 have h1:=ABY e;rw[hy]at h1;obtain⟨_,k1,k2⟩:=Wd h1
 grind
theorem dT (h:HJ d r) (l:r.length<=40) (b:Int):Hp d b=some ([],false)\/∃steps ps g,Hp d b=some (steps,true)/\Jo d.Flash steps ps g/\BA g/\H9 d.Seq ps/\steps.length<=160/\(∀p∈ps,sE d r p/\J8 p)/\∀p∈ps,p.Seq<d.Seq+160:=by
 obtain⟨live,l1,l2,l3,l4⟩:=GC h.st;have m:1<=d.Seq/\d.Seq<=1000000001:=by
  rw[h.seq];have h1:=Oj r;refine⟨h1.2.1,h1.2.2 _ (by omega) λy hy=>?_⟩;have:=(h.pages.seq y hy).2;omega
 unfold Hp;rw[h.scan.s,l1];simp only[Aa];rw[N8 r live _ h.scan.len l4];simp only[Aa];have e:live.foldl (d9 r) (r.map<|Du 1000000001)=C7 r live 1000000001:=rfl;rw[e]
 let I:Nat->(List AU×Int×List Block)->Prop:=λn o=>∃ps,Jo d.Flash o.1 ps (Flash.mk o.2.2)/\BA (Flash.mk o.2.2)/\H9 d.Seq ps/\(∀p∈ps,p.Seq<o.2.1)/\d.Seq<=o.2.1/\o.2.1<=d.Seq+n/\o.1.length<=n/\∀p∈ps,sE d r p/\J8 p
 have I0:I (40*0) ([],d.Seq,d.Flash.Blocks):=by
  refine⟨[],rfl,h.fl,trivial,?_,?_,?_,?_,?_⟩
  ·intro p hp;cases hp
  ·exact Jt _
  ·grind
  ·exact Ax _
  grind
 obtain⟨a,h1,h2⟩:=AL (body:=λs:List AU×Int×Int×List Block=>FL b r (C7 r live 1000000001) s.1 s.2.1 s.2.2.1 s.2.2.2) (λ(o:List AU×Int×List Block) i=>(o.1,o.2.1,i,o.2.2)) 4
  (λi o=>I (40*i) o) (λa=>a= .inr ([],false)\/∃steps sq bl,a= .inl steps/\I 160 (steps,sq,bl))
  (λo i hi ho=>by
   simp only[FL];rw[cT];obtain⟨q,q1,q2⟩:=AL (body:=λs:List AU×Int×Int×List Block=>EO b r (C7 r live 1000000001) (i:Int) s.1 s.2.1 s.2.2.1 s.2.2.2) (λ(o:List AU×Int×List Block) j=>(o.1,o.2.1,j,o.2.2)) r.length
    (λj o=>I (40*i+j) o) (λq=>q= .inr (.inr<|.inr ([],false))\/∃o,q= .inl o/\I (40*i+40) o)
    (λo j hj hs=>by
     obtain⟨ss,sq,bl⟩:=o;obtain⟨ps,p1,p2,p3,p4,p5,p6,p7,p8⟩:=hs;simp only at p1 p2 p4 p5 p6 p7;have hx:=Ab hj;have f:j<(C7 r live 1000000001).length:=by rw[Km];exact hj
     have c:=Ab f;simp only[EO,DV hj,Au,hx,c,Aa];rw[ad1];have skip:I (40*i+(j+1)) (ss,sq,bl):=⟨ps,p1,p2,p3,p4,p5,by show sq<=_;omega,by grind,p8⟩
     cases k:(C7 r live 1000000001)[j]with
     |false=>
      simp only[AQ,Ae,Aa];exact .inl ⟨(ss,sq,bl),rfl,skip⟩
     |true=>
      simp only[Ag,Ac]
      cases hb:(r[j].Block !=b)with
      |true=>
       simp only[Ae,Aa];exact .inl ⟨(ss,sq,bl),rfl,skip⟩
      |false=>
       simp only[Ac,Aa]
       cases t:(r[j].Leaf !=(i:Int))with
       |true=>
        simp only[Ae,Aa];exact .inl ⟨(ss,sq,bl),rfl,skip⟩
       |false=>
        simp only[Ac,Aa];obtain⟨m1,m2,m3⟩:=aH h l3 hx<|by rw[c,k]
        rcases AAq p2 p1 (by omega) (Page.mk r[j].Page.Kind sq r[j].Page.Tx r[j].Page.Part r[j].Page.Count r[j].Page.Text)with⟨s,g',w1,w2,w3,w4,_⟩|w
        ·rw[w1];simp only[Aa,Ag,Ac];rw[Bv,Ak,Bg,Co,show((ss.length+1:Nat):Int)-1=(ss.length:Int) by omega,F9];simp only[Aa]
         cases u:(s.Block==b)with
         |true=>simp
         |false=>
          simp only[Ac];rw[Cr];refine .inl ⟨(ss++ [s],sq+1,g'.Blocks),rfl,_,w2,w3,W6 p3 (λq hq=>p4 q hq) p5,λp hp=>?_,by grind,by grind,by simp;omega,λp hp=>?_⟩
          ·grind
          rw[Ap,Bu]at hp
          rcases hp with hp|rfl
          ·exact p8 p hp
          exact⟨⟨m1,m2,_,m3,rfl⟩,w4⟩
        rw[w]
        simp)
    (λo hs=>⟨.inl (o.1,o.2.1,o.2.2),by simp only[EO,DI],.inr ⟨o,rfl,by grind⟩⟩) (s:=o) (by omega)
   rw[q1]
   rcases q2 with rfl|⟨o',rfl,q2⟩
   ·simp
   simp only[Aa,Br];rw[ad1]
   exact .inl ⟨o',rfl,by omega⟩)
  (λo ho=>⟨.inl o.1,by rfl,.inr ⟨o.1,o.2.1,o.2.2,rfl,ho⟩⟩) (s:=([],d.Seq,d.Flash.Blocks)) I0
 grind
theorem AAM {ps:List Page} (h:HA d r) {steps:List AU} (hp:Jo d.Flash steps ps g) (ha:H9 d.Seq ps) (hl:steps.length<=160) (hm:∀p∈ps,sE d r p/\J8 p) (k:Nat):
  ∃m d',Steps d.Flash (steps.take k) m/\BA m/\Cs m=some (d',true)/\d'.Flash=m/\HA d' (r++(Cn steps ps).take k)/\AFy d d'/\d'.Base=d.Base/\Zo d.Flash m/\∀c,DR (Bb d.Store) c->BY (r++(Cn steps ps).take k) c=BY r c:=by
 have b:=(FB hp).2;have w:=h.few
 have f:∀y∈r,y.Page.Seq<d.Seq:=λy hy=>by rw[h.dev.seq];exact(Oj r).1 y hy
 obtain⟨m,a⟩:=Vi k hp;have l:=W7 h.dev.fl (FB a).1;have ascT:∀(ps:List Page) (n:Int) (k:Nat),H9 n ps->H9 n (ps.take k):=by
  intro ps
  induction ps with
  |nil=>grind
  |cons p ps ih=>
   intro n k ha
   cases k with
   |zero=>trivial
   |succ k=>exact⟨ha.1,ih _ k ha.2⟩
 have o:=cW h.dev.fl h.dev.sr a f<|ascT _ _ k ha;rw[Ye]at o;obtain⟨d',u1,u2,u3⟩:=Lg l o;have h0:=bM b;have ascG:∀(ps:List Page) (n:Int) (i:Nat) (p:Page),H9 n ps->ps[i]?=some p->n<=p.Seq/\∀j q,j<i->ps[j]?=some q->q.Seq<p.Seq:=by
  intro ps
  induction ps with
  |nil=>grind
  |cons x ps ih=>
   intro n i p ha hp
   cases i with
   |zero=>
    simp only[Jm,Aj]at hp;rw[<-hp];exact⟨ha.1,λj q hj=>by omega⟩
   |succ i=>
    obtain⟨i1,i2⟩:=ih _ i p ha.2 (by simpa using hp);have:=ha.1;refine⟨by omega,λj q hj hq=>?_⟩
    cases j with
    |zero=>grind
    |succ j=>grind
 have main:∀n,n<=(Cn steps ps).length->JN (r++(Cn steps ps).take n)/\Hg (r++(Cn steps ps).take n) (DR<|Bb d.Store)/\Bk (r++(Cn steps ps).take n)=Bk r/\∀c,DR (Bb d.Store) c->BY (r++(Cn steps ps).take n) c=BY r c:=by
  intro n
  induction n with
  |zero=>intro _;rw[Jk,A9];exact⟨h.core,h.data,rfl,λ_ _=>rfl⟩
  |succ n ih=>
   intro hn;obtain⟨i1,i2,i3,i4⟩:=ih (by omega);have hx:(Cn steps ps)[n]?=some (Cn steps ps)[n]:=Ab (by omega);have s:=LS hx;obtain⟨⟨m1,m2,y,m3,m4⟩,m5⟩:=hm _<|Ar s;obtain⟨a1,a2⟩:=ascG ps d.Seq n _ ha s;rw[Al (by omega),<-AE];have t:TR (Cn steps ps)[n].Page.Text=BY r (Cn steps ps)[n].Page.Tx:=by unfold BY;rw[m3,m4];rfl
   have u:CU (r++(Cn steps ps).take n)<=(Cn steps ps)[n].Page.Seq:=by
    refine(Oj _).2.2 _ (m5.2.1.1) (λz hz=>?_)
    rcases Ap.1 hz with hz|hz
    ·grind
    obtain⟨j,hj,rfl⟩:=A5 hz;rw[B4]at hj;rw[K0];exact a2 j _ (by omega)<|LS<|Ab<|by omega
   refine⟨JN.add i1 (by simp;omega) m5 u (λhh=>by omega),qO i2 (by rw[t,i4 _ m2]),by rw[Yd _ (by omega),i3],λc hc=>?_⟩;by_cases e:(Cn steps ps)[n].Page.Kind=1/\(Cn steps ps)[n].Page.Tx=c
   ·have:BY (r++(Cn steps ps).take n++ [(Cn steps ps)[n]]) c=TR (Cn steps ps)[n].Page.Text:=by unfold BY;rw[MI,AG e];rfl
    rw[this,t,e.2]
   rw[<-i4 c hc];unfold BY;rw[MI,AH e]
 have v:JN (r++(Cn steps ps).take k)/\Hg (r++(Cn steps ps).take k) (DR<|Bb d.Store)/\Bk (r++(Cn steps ps).take k)=Bk r/\∀c,DR (Bb d.Store) c->BY (r++(Cn steps ps).take k) c=BY r c:=by
  by_cases e:k<=(Cn steps ps).length
  ·exact main k e
  have:=main _<|Ax _
  grind
 obtain⟨k1,k2,k3,k4⟩:=v;obtain⟨e1,e2,e3⟩:=Hv h.dev u2 (by rw[k3]);exact⟨m,d',(FB a).1,l,u1,u3,⟨u2,k1,by rw[e1];exact k2⟩,⟨e1,e2⟩,e3,λ_=>Vh a,k4⟩
theorem RD (h:HJ d r) {live:List Int} (hl:live.length<=16777216) (t:ByteArray):∃v,Iz d.Flash live t=some v/\((v=0/\∀c∈live,BY r c≠some t)\/(v∈live/\BY r v=some t)):=by
 have hr:=h.pages;unfold Iz Tq;rw[h.scan.s];simp only[Aa];obtain⟨b,h1,h2⟩:=AL (body:=λs:Int=>Fw r live t s) (λ(_:Unit) i=>i) live.length (λi _=>∀c∈live.take i,BY r c≠some t) (λb=>(b= .inl ()/\∀c∈live,BY r c≠some t)\/∃v,b= .inr v/\v∈live/\BY r v=some t)
  (λ_ i hi hs=>by
   have hx:=Ab hi;simp only[Fw,DV hi,Au,hx,Aa];obtain⟨u,ok,k1,k2⟩:=ZE hr live[i];rw[k1,Aa,ad1]
   have no:BY r live[i]≠some t->∀c∈live.take (i+1),BY r c≠some t:=λe c hc=>by
    rw[Al hi,Ap,Bu]at hc
    grind
   cases ok with
   |false=>
    simp only[Ac,Aa];exact .inl ⟨(),by first|rfl|trivial,no (by rw[k2];simp)⟩
   |true=>
    simp only[Ae,Aa];rw[AG rfl]at k2
    cases a:seq u t with
    |true=>
     rw[JT,A4]at a
     grind
    |false=>
     rw[JT,E4]at a;refine .inl ⟨(),rfl,no ?_⟩
     grind)
  (λ_ hs=>⟨_,by simp only[Fw,DI],.inl ⟨rfl,by grind⟩⟩) (s:=()) (by simp)
 grind
structure AEj (q:Qx):Prop where
 kind:1<=q.Kind/\q.Kind<=6
 vol:1<=q.Vol/\q.Vol<=9
 text:(L q.Text).length<=64
 sec:0<=q.Sector/\q.Sector<=15
 of_:0<=q.Of/\q.Of<=9
 cl:q.Kind=4->1<=q.Of
 no:q.Kind≠4->q.Of=0
 tx:q.Kind≠1->L q.Text=[]
theorem WT (q:Qx):∃v,N7 q=some v/\(v=true->AEj q):=by
 unfold N7;simp only[E0,Aa];by_cases h1:1<=q.Kind/\q.Kind<=6
 ·rw[Ad h1];by_cases h2:1<=q.Vol/\q.Vol<=9
  ·rw[Ad h2];by_cases h3:FR q.Text>64
   ·rw[Ad h3];simp
   rw[Ah h3];rw[B3]at h3;simp only[Ag,Ac];have ht:(cond (q.Kind !=1) (some<|!(seq q.Text<|bs [])) (some false):Option Bool)=some (decide<|q.Kind≠1/\L q.Text≠ []):=by
    by_cases e:q.Kind=1
    ·grind
    rw[show(q.Kind !=1)=true by simpa using e,RJ,EU];by_cases e2:L q.Text=[]
    ·grind
    grind
   rw[ht];simp only[Aa];by_cases h4:q.Kind≠1/\L q.Text≠ []
   ·grind
   rw[Ah h4];simp only[Ac]
   have a:q.Kind≠1->L q.Text=[]:=λhk=>Classical.byContradiction λhh=>h4 ⟨hk,hh⟩
   by_cases h5:q.Kind=4
   ·rw[show(q.Kind==4)=true by simpa using h5];simp only[Ae];by_cases h6:q.Sector=0
    ·rw[show(q.Sector==0)=true by simpa using h6];refine⟨_,rfl,λhh=>?_⟩;rw[A4]at hh;exact⟨h1,h2,by omega,by omega,by omega,λ_=>hh.1,λhk=>absurd h5 hk,a⟩
    grind
   rw[show(q.Kind==4)=false by simpa using h5];simp only[Ac];by_cases h6:q.Of=0
   ·rw[show(q.Of !=0)=false by simp[h6]];simp only[Ac];by_cases h7:q.Kind=3\/q.Kind=5
    ·have:(cond (q.Kind==3) (some true) (some<|q.Kind==5):Option Bool)=some true:=by grind
     rw[this];refine⟨_,rfl,λhh=>?_⟩;rw[Da]at hh;exact⟨h1,h2,by omega,by omega,by omega,λhk=>absurd hk h5,λ_=>h6,a⟩
    have:(cond (q.Kind==3) (some true) (some<|q.Kind==5):Option Bool)=some false:=by grind
    rw[this];refine⟨_,rfl,λhh=>?_⟩;rw[A4]at hh;exact⟨h1,h2,by omega,hh,by omega,λhk=>absurd hk h5,λ_=>h6,a⟩
   grind
  rw[Ah h2];simp
 rw[Ah h1];simp
def u7 (d:Az) (r:List Aq) (q:Qx) (x:C1) (a:ByteArray):Prop:=GL x=true/\x.Kind≠1/\x.Vol=q.Vol/\((L a=[]/\(x.Kind=4->DR (Bb d.Store) x.Chunk/\BY r x.Chunk=some q.Text))\/(x.Kind=4/\x.Chunk=d.Store.Next/\L a≠ []/\TR a=some q.Text/\∀c,DR (Bb d.Store) c->BY r c≠some q.Text))
theorem WA (h:HJ d r) (q:Qx):∃a text no,Fq d q=some (a,text,no)/\((a=[]/\text=bs [])\/(no=0/\∃x,a=[x]/\u7 d r q x text))/\(no≠0->a=[]):=by
 have j:=h.st.len;have b:=h.st.nx;obtain⟨v,a1,a2⟩:=WT q;unfold Fq;rw[a1];simp only[Aa]
 cases v with
 |false=>exact⟨_,_,_,rfl,.inl ⟨rfl,rfl⟩,λ_=>rfl⟩
 |true=>
  have hq:=a2 rfl;simp only[Ag,Ac];have g:=hq.kind;obtain⟨w,hw⟩:∃w,Dk d.Store q.Vol=some w:=by
   rcases Eb d.Store (by omega) q.Vol with⟨e,_⟩|⟨k,_,e,_⟩<;>exact⟨_,e⟩
  rw[hw];simp only[Aa];by_cases h34:q.Kind=3\/q.Kind=4
  ·have:(cond (q.Kind==3) (some true) (some<|q.Kind==4):Option Bool)=some true:=by grind
   rw[this];simp only[Aa,Ae]
   cases decide (w>=0)with
   |true=>grind
   |false=>
    simp only[Ac];obtain⟨j2,i⟩:∃j2,(cond (q.Kind==4) ((Dk d.Store q.Of).bind λv3=>some<|decide<|v3<0) (some false):Option Bool)=some j2:=by
     cases q.Kind==4 with
     |false=>exact⟨_,rfl⟩
     |true=>
      rcases Eb d.Store (by omega) q.Of with⟨e,_⟩|⟨k,_,e,_⟩<;>rw[e]<;>exact⟨_,rfl⟩
    rw[i];simp only[Aa]
    cases j2 with
    |true=>grind
    |false=>
     simp only[Ac]
     cases decide (ln d.Store.Vols>=3)with
     |true=>grind
     |false=>
      refine⟨_,_,_,rfl,.inr ⟨rfl,_,rfl,ADI hq.vol hq.of_,by simp,rfl,.inl ⟨EU _,λhh=>by simp at hh⟩⟩,λhh=>absurd rfl hh⟩
  have:(cond (q.Kind==3) (some true) (some<|q.Kind==4):Option Bool)=some false:=by grind
  rw[this];simp only[Aa,Ac]
  cases decide (w>=0)with
  |false=>exact⟨_,_,_,rfl,.inl ⟨rfl,rfl⟩,λ_=>rfl⟩
  |true=>
   simp only[Ag,Ac]
   cases k1:(q.Kind==1)with
   |true=>
    simp only[Ae];obtain⟨live,l1,l2,l3,l4⟩:=GC h.st;obtain⟨c,f1,f2⟩:=RD h l4 q.Text;rw[l1,Aa,f1];simp only[Aa]
    rcases f2 with⟨rfl,f2⟩|⟨f2,f3⟩
    ·obtain⟨z,z1,z2,z3⟩:=pZ q.Text hq.text;rw[show((0:Int)==0)=true from rfl,z1];refine⟨_,_,_,rfl,.inr ⟨rfl,_,rfl,AAk hq.vol (by have:=hq.sec;omega) ⟨b.1,b.2⟩,by simp,rfl,.inr ⟨rfl,rfl,?_,?_,λc hc=>f2 c<|(l3 c).2 hc⟩⟩,λhh=>absurd rfl hh⟩
     ·grind
     show TR z=some q.Text;unfold TR;rw[z2]
    have f:=(l3 c).1 f2;have l:=YT h.st f;rw[show(c==0)=false by grind];refine⟨_,_,_,rfl,.inr ⟨rfl,_,rfl,AAk hq.vol (by have:=hq.sec;omega) (by omega),by simp,rfl,.inl ⟨EU _,λ_=>⟨f,f3⟩⟩⟩,λhh=>absurd rfl hh⟩
   |false=>
    simp only[Ac]
    cases k2:(q.Kind==2)with
    |true=>
     refine⟨_,_,_,rfl,.inr ⟨rfl,_,rfl,?_,by simp,rfl,.inl ⟨EU _,λhh=>by simp at hh⟩⟩,λhh=>absurd rfl hh⟩;have:=hq.vol;have:=hq.sec;unfold GL
     grind
    |false=>
     simp only[Ac]
     cases k5:(q.Kind==5)with
     |true=>
      refine⟨_,_,_,rfl,.inr ⟨rfl,_,rfl,?_,by simp,rfl,.inl ⟨EU _,λhh=>by simp at hh⟩⟩,λhh=>absurd rfl hh⟩;have:=hq.vol;unfold GL
      grind
     |false=>grind
theorem pI (h:Dr l nx x=some (l',nx')) (hk:x.Kind≠1):(∀c,DR l' c->DR l c\/c=x.Chunk)/\nx<=nx'/\nx'<=max nx (x.Chunk+1):=by
 unfold Dr at h;split at h
 ·cases h
 first
  |rw[AH hk]at h
  |skip
 split at h
 ·split at h
  ·cases h
  injection h with h
  injection h with h1 h2
  subst h1 h2;refine⟨λc hc=>?_,by omega,by omega⟩;obtain⟨h0,p,hp,hx⟩:=hc;unfold sK at hp;simp only[Ap,Be,Bu]at hp
  rcases hp with(hp|rfl)|hp
  ·exact .inl ⟨h0,p,hp.1,hx⟩
  ·simp only at hx
   have zz:c∉Ud:=λhz=>by have:=Dx hz;omega
   split at hx
   ·cases hg:Le l x.Arg with
    |none=>grind
    |some row=>
     rw[hg]at hx;unfold Le at hg;obtain⟨w,a,b⟩:=AX.1 hg;have d:=List.mem_of_find?_eq_some a;exact .inl ⟨h0,w,d,by rw[b];exact hx⟩
   exact absurd hx zz
  exact .inl ⟨h0,p,hp.1,hx⟩
 split at h
 ·cases h
 split at h
 ·injection h with h
  injection h with h1 h2
  subst h1 h2;refine⟨λc hc=>?_,by omega,by omega⟩;obtain⟨h0,p,hp,hx⟩:=hc;exact .inl ⟨h0,p,(Be.1 hp).1,hx⟩
 injection h with h
 injection h with h1 h2
 subst h1 h2;refine⟨λc hc=>?_,by omega,by omega⟩;obtain⟨h0,p,hp,hx⟩:=hc;unfold rH at hp;obtain⟨w,hw,rfl⟩:=AA.1 hp;split at hx
 ·rcases CH hx with hx|hx
  ·exact .inl ⟨h0,w,hw,hx⟩
  exact .inr hx
 exact .inl ⟨h0,w,hw,hx⟩
theorem bU (h:Dr l nx x=some (l',nx')) (hk:x.Kind≠1):∀p∈l',(∃p'∈l,p'.1=p.1)\/p.1=x.Vol:=by
 unfold Dr at h;split at h
 ·cases h
 first
  |rw[AH hk]at h
  |skip
 split at h
 ·split at h
  ·cases h
  injection h with h
  injection h with h1 h2
  subst h1 h2;intro p hp;unfold sK at hp
  grind
 split at h
 ·cases h
 split at h
 ·injection h with h
  injection h with h1 h2
  subst h1 h2
  exact λp hp=> .inl ⟨p,(Be.1 hp).1,rfl⟩
 injection h with h
 injection h with h1 h2
 subst h1 h2;intro p hp;unfold rH at hp
 grind
theorem dH (h:HJ d r):∃v,L4 d=some v:=by
 have hr:=h.pages;have ht:1<=d.Tx/\d.Tx<=1000000001:=by
  rw[h.tx];have h1:=Zt r;refine⟨h1.2.1,h1.2.2 _ (by omega) λy hy _=>?_⟩;have:=(hr.tx y hy).2;omega
 unfold L4
 cases(d.Base !=sb d.Tx 1)with
 |true=>exact⟨_,rfl⟩
 |false=>
  simp only[Ac];rw[h.scan.s,Aa,Pc r hr];simp only[Aa];obtain⟨g1,_⟩:=Rw hr;obtain⟨b,h1,_⟩:=AL (body:=λs:Int=>GB d (Bk r) s) (λ(_:Unit) i=>i) (Bk r).length (λ_ _=>True) (λ_=>True)
   (λ_ i hi _=>by
    have hx:=Ab hi;simp only[GB,DV hi,Au,hx,Aa];rw[ad1]
    cases((Bk r)[i].Num==d.Base)with
    |false=>simp
    |true=>
     simp only[Ae]
     cases a:(Bk r)[i].Recs with
     |nil=>exact .inr ⟨_,rfl,trivial⟩
     |cons q m=>
      have hg:gi (q::m) 0=some q:=Au (i:=0)
      grind)
   (λ_ _=>⟨.inl (),by simp only[GB,DI],trivial⟩) (s:=()) trivial
  rw[h1]
  cases b with
  |inl u=>exact⟨_,rfl⟩
  |inr v=>exact⟨v,rfl⟩
theorem dL (h:HJ d r):∃v,L8 d=some v:=by
 have hn:=h.fl.n;obtain⟨live,l1,_,_,l4⟩:=GC h.st;unfold L8;rw[h.scan.s,l1];simp only[Aa];rw[N8 r live d.Base h.scan.len l4,N8 r live 1000000000 h.scan.len l4];simp only[Aa]
 have a:∀b,live.foldl (d9 r) (r.map<|Du b)=C7 r live b:=λ_=>rfl
 rw[a,a];obtain⟨b,h1,_⟩:=AL (body:=λs:Int×Int×Int=>DE d r (C7 r live d.Base) (C7 r live 1000000000) s.1 s.2.1 s.2.2) (λ(o:Int×Int) i=>(o.1,o.2,i)) d.Flash.Blocks.length (λ_ _=>True) (λ_=>True)
  (λo i hi _=>by
   have hx:=Ab hi;have hP:=h.fl.blk _<|A0 hi;simp only[DE,DV hi,Au,hx,Aa];rw[aB r _ (i:Int) h.scan.len<|Km _ _ _,aB r _ (i:Int) h.scan.len<|Km _ _ _,KE _ hP.four,ad1];simp only[Aa,JJ]
   cases(bif !d.Flash.Blocks[i].Bad then _ else false)with
   |true=>simp
   |false=>grind)
  (λo _=>⟨o.1,by simp only[DE,DI],trivial⟩) (s:=(-1,4)) trivial
 grind
theorem HJ.seqs (h:HJ d r):0<=d.Seq/\d.Seq<=1000000001:=by
 rw[h.seq];have h1:=Oj r;refine⟨by omega,h1.2.2 _ (by omega) λy hy=>?_⟩;have:=(h.pages.seq y hy).2;omega
theorem iZ (h:∀y∈r',y.Page.Kind=2->y.Page.Tx<DP r+n):DP r'<=DP r+n:=(Zt r').2.2 _ (by have:=(Zt r).2.1;omega) h
theorem YI (n:Nat) (hy:y∈r) (hk:y.Page.Kind=2):y.Page.Tx<DP r+n:=by have:=(Zt r).1 y hy hk;omega
theorem gI {seq tx:Int} (h:p∈Ct seq tx T):p.Tx=tx:=by
 unfold Ct at h
 grind
theorem jE (h:∀y∈r',y.Page.Seq<CU r+n):CU r'<=CU r+n:=(Oj r').2.2 _ (by have:=(Oj r).2.1;omega) h
theorem YK (n:Nat) (hy:y∈r):y.Page.Seq<CU r+n:=by have:=(Oj r).1 y hy;omega
theorem r7 {seq tx:Int} (h:p∈Ct seq tx T):p.Seq<seq+T.length:=by
 unfold Ct at h
 grind
theorem fC {c:Int} {a:ByteArray} (h:p∈Dh d c a++Ct (Jq d a) d.Tx T):p.Seq<d.Seq+1+T.length:=by
 rcases Ap.1 h with h|h
 ·unfold Dh at h
  grind
 have h1:=r7 h;have h2:Jq d a<=d.Seq+1:=by unfold Jq;split<;>omega
 omega
theorem Pi {seq tx:Int} (h:p∈Ct seq tx T):p.Kind=2:=by
 unfold Ct at h
 grind
def zG (m:Flash) (s:AU) (g:Flash):Prop:=BA g/\Zo m g/\((s.Kind=1/\KK 0 g.Blocks=KK 0 m.Blocks)\/(s.Kind=2/\KK 0 g.Blocks=(KK 0 m.Blocks).filter λy=>y.Block !=s.Block))
def Yi (f:Flash) (ss:List AU) (k:Nat) (g:Flash):Prop:=∃m,Steps f (ss.take k) m/\(g=m\/∃s,ss[k]?=some s/\Sg m s/\zG m s g)
theorem Qs:∀{f:Flash} {a:List AU} {g m:Flash},Steps f a g->Steps f a m->g=m
 |f,[],g,m,h,k=>by rw[show g=f from h,show m=f from k]
 |f,s::a,g,m,h,k=>Qs h.2 k.2
theorem iD {m:Flash} {a b:List AU} (h:Yi f (a++b) k g) (hs:Steps f a m):(k<a.length/\Yi f a k g)\/(a.length<=k/\Yi m b (k-a.length) g):=by
 obtain⟨x,h1,h2⟩:=h;by_cases e:k<a.length
 ·left;rw[List.take_append_of_le_length<|by omega]at h1;rw[Cf e]at h2;exact⟨e,x,h1,h2⟩
 right;rw[List.take_append,AO<|by omega]at h1;rw[B8<|by omega]at h2;obtain⟨y,y1,y2⟩:=(Mb _ _ _ _).1 h1;rw[Qs y1 hs]at y2;exact⟨by omega,x,y2,h2⟩
structure Ia (n:Nat) (d:Az) (r:List Aq) (d':Az) (r':List Aq):Prop where
 good:HA d' r'
 ab:Bb d'.Store=Bb d.Store
 nx:d'.Store.Next=d.Store.Next
 pg:∀y∈r',y.Page.Kind=1->∃z∈r,z.Page.Kind=1/\z.Page.Tx=y.Page.Tx/\z.Page.Text=y.Page.Text
 tx:DP r'<=DP r+n
 wear:∀w:Int,Er d.Flash w->Er d'.Flash (w+n)
 text:∀c,DR (Bb d.Store) c->BY r' c=BY r c
 sq:CU r'<=CU r+200*n
structure As (d:Az) (r:List Aq) (d':Az) (r':List Aq):Prop where
 good:HA d' r'
 ab:Bb d'.Store=Bb d.Store
 nx:d'.Store.Next=d.Store.Next
 tx:DP r'<=DP r+1
 wear:∀w:Int,Er d.Flash w->Er d'.Flash (w+1)
 text:∀c,DR (Bb d.Store) c->BY r' c=BY r c
theorem As.torn (h:As d a e b) (hg:BA g) (hp:KK 0 g.Blocks=KK 0 e.Flash.Blocks) (hw:Zo e.Flash g):∃x,Cs g=some (x,true)/\x.Flash=g/\As d a x b:=by
 obtain⟨x,u1,u2,u3⟩:=Lg hg (r:=b) (by rw[hp];exact h.good.dev.sr);obtain⟨e1,e2,_⟩:=Hv h.good.dev u2 rfl;exact⟨x,u1,u3,⟨⟨u2,h.good.core,by rw[e1];exact h.good.data⟩,by rw[e1,h.ab],by rw[e2,h.nx],h.tx,λw hh=>by rw[u3];exact hw _<|h.wear w hh,h.text⟩⟩
theorem YF (h:Zo f g) (w:Int) (hw:Er f w):Er g (w+n):=λb hb=>by have:=h w hw b hb;omega
theorem Ia.refl (h:HA d r):Ia n d r d r:=⟨h,rfl,rfl,λy hy hk=>⟨y,hy,hk,rfl,rfl⟩,by omega,YF λ_ h=>h,λ_ _=>rfl,by omega⟩
theorem Ia.trans {g:Az} {c:List Aq} (h:Ia n d a e b) (k:Ia m e b g c):Ia (n+m) d a g c:=⟨k.good,by rw[k.ab,h.ab],by rw[k.nx,h.nx],λy hy hk=>by
 obtain⟨z,z1,z2,z3,z4⟩:=k.pg y hy hk;obtain⟨w,w1,w2,w3,w4⟩:=h.pg z z1 z2
 grind,by have:=h.tx;have:=k.tx;omega,λw hw=>by
 have:=k.wear _<|h.wear w hw
 grind,λc hc=>by rw[k.text c (by rw[h.ab];exact hc),h.text c hc],by have:=h.sq;have:=k.sq;omega⟩
theorem Ia.mono (h:Ia n d a e b) (hm:n<=m):Ia m d a e b:={h with
 tx:=by have:=h.tx;omega
 wear:=λw hw x hx=>by have:=h.wear w hw x hx;omega
 sq:=by have:=h.sq;omega}
theorem Ia.torn (h:Ia n d a e b) (hg:BA g) (hp:KK 0 g.Blocks=KK 0 e.Flash.Blocks) (hw:Zo e.Flash g):∃x,Cs g=some (x,true)/\x.Flash=g/\Ia n d a x b:=by
 obtain⟨x,u1,u2,u3⟩:=Lg hg (r:=b) (by rw[hp];exact h.good.dev.sr);obtain⟨e1,e2,_⟩:=Hv h.good.dev u2 rfl;exact⟨x,u1,u3,⟨⟨u2,h.good.core,by rw[e1];exact h.good.data⟩,by rw[e1,h.ab],by rw[e2,h.nx],h.pg,h.tx,λw hh=>by rw[u3];exact hw _<|h.wear w hh,h.text,h.sq⟩⟩
def Lt (n:Nat) (d:Az) (r:List Aq) (steps:List AU):Prop:=(∃m,Steps d.Flash steps m)/\∀k g,k<=steps.length->Yi d.Flash steps k g->∃x rx,Cs g=some (x,true)/\x.Flash=g/\Ia n d r x rx
theorem gE {steps:List AU} (h1:∀s∈steps,s.Kind=1) (hc:∀k,k<=steps.length->∃x rx,Steps d.Flash (steps.take k) x.Flash/\Cs x.Flash=some (x,true)/\Ia n d r x rx):Lt n d r steps:=by
 refine⟨?_,λk g hk hg=>?_⟩
 ·obtain⟨x,rx,c1,_⟩:=hc steps.length (Ax _)
  grind
 obtain⟨x,rx,c1,c2,c3⟩:=hc k hk;obtain⟨m,m1,m2⟩:=hg;have:=Qs m1 c1;subst this
 rcases m2 with rfl|⟨s,s1,_,s2,s3,⟨_,s4⟩|⟨s4,_⟩⟩
 ·grind
 ·obtain⟨y,y1,y2,y3⟩:=c3.torn s2 s4 s3
  grind
 grind
theorem Lt.full {steps:List AU} (h:HA d r) (hc:Lt n d r steps) (hl:steps.length<=1000000):∃x rx,Hy d steps=some x/\Steps d.Flash steps x.Flash/\Ia n d r x rx:=by
 obtain⟨⟨m,hm⟩,hk⟩:=hc;obtain⟨x,rx,x1,x2,x3⟩:=hk steps.length m (Ax _) ⟨m,by grind,.inl rfl⟩;exact⟨x,rx,N0 h.dev hm (by omega) x1,by rw[x2];exact hm,x3⟩
theorem yX {re:List Aq} {a b:List AU} (hk:Ia n d r e re) (hs:Steps d.Flash a e.Flash) (ha:Lt n d r a) (hb:Lt m e re b):Lt (n+m) d r (a++b):=by
 refine⟨?_,λk g c hg=>?_⟩
 ·obtain⟨x,hx⟩:=hb.1;exact⟨x,(Mb _ _ _ _).2 ⟨_,hs,hx⟩⟩
 rw[Ak]at c
 rcases iD hg hs with⟨e1,e2⟩|⟨e1,e2⟩
 ·obtain⟨x,rx,x1,x2,x3⟩:=ha.2 k g (by omega) e2;exact⟨x,rx,x1,x2,x3.mono<|by omega⟩
 obtain⟨x,rx,x1,x2,x3⟩:=hb.2 _ g (by omega) e2;exact⟨x,rx,x1,x2,hk.trans x3⟩
theorem aG (r m:List Aq) (c:Int) (h:∀y∈m,¬(y.Page.Kind=1/\y.Page.Tx=c)):KN (r++m) c=KN r c:=by
 unfold KN;rw[AI,Bh.2 λy hy hh=>h y hy<|SA.1 hh,A9]
theorem dB (h:HA d r) (hw:Er d.Flash 999999999):∃steps ok,LF d=some (steps,ok)/\steps.length<=200/\(ok=false->steps=[])/\(ok=true->Lt 1 d r steps):=by
 have hv:=h.dev.st.vs;obtain⟨dead,d1,d2,d3⟩:=ZS h.dev;unfold LF;rw[d1];simp only[Aa]
 cases hd:dead with
 |cons b m=>
  rw[Ad (by rw[Bv,AB];omega:ln (b::m)>0),show gi (b::m) 0=some b from Au (i:=0)];simp only[Ae,Aa];refine⟨_,_,rfl,by simp,(λhh=>by cases hh),λ_=>?_⟩;obtain⟨x,x1,x2,x3⟩:=d3 b (by rw[hd];simp);have hc:ABl d.Flash b:=⟨x,x1,x2,λe=>by have:=hw x<|Ar (Cz x1).2;omega⟩;have hs:Sg d.Flash (AU.mk 2 b 0<|bs []):= .inr ⟨rfl,hc⟩;obtain⟨w1,w2⟩:=XA h.dev.fl hc;have he:Lp d.Flash (AU.mk 2 b 0<|bs [])=Vv d.Flash b:=by rfl
  have wp:∀g,BA g->KK 0 g.Blocks=((KK 0 d.Flash.Blocks).filter λy=>y.Block !=b)->(∀w:Int,Er d.Flash w->Er g (w+1))->∃x rx,Cs g=some (x,true)/\x.Flash=g/\Ia 1 d r x rx:=by
   intro g g1 g2 g3;obtain⟨d',u1,u2,u3,u4,u5,_,u6⟩:=ABS h x3 g1 g2;exact⟨d',_,u1,u2,u3,u4,u5,λy hy hk=>⟨y,(Be.1 hy).1,hk,rfl,rfl⟩,iZ λy hy hk=>YI _ (Be.1 hy).1 hk,by rw[u2];exact g3,u6,jE (n:=200*1) λy hy=>YK _ (Be.1 hy).1⟩
  refine⟨⟨_,hs,rfl⟩,λk g hk hg=>?_⟩;obtain⟨q,q1,q2⟩:=hg
  cases k with
  |zero=>
   rw[show q=d.Flash from q1]at q2
   rcases q2 with rfl|⟨s,s1,_,s2,s3,⟨s4,_⟩|⟨_,s4⟩⟩
   ·obtain⟨x,u1,u2,u3⟩:=(Ia.refl (n:=1) h).torn h.dev.fl rfl λ_ hh=>hh
    grind
   ·grind
   simp only[Jm,Aj]at s1;rw[<-s1]at s4
   exact wp g s2 s4 λw hh y hy=>by have:=s3 w hh y hy;omega
  |succ k=>
   have q1':Steps d.Flash [AU.mk 2 b 0<|bs []] q:=by simpa using q1
   have e:q=Vv d.Flash b:=by rw[show q=Lp d.Flash (AU.mk 2 b 0<|bs [])from q1'.2,he]
   rcases q2 with rfl|⟨s,s1,_⟩
   ·rw[e]
    exact wp _ w1 w2 λw hh=>by rw[<-he];exact fO hh (by omega)<|.inr<|Jt _
   simp at s1
 |nil=>
  rw[show decide (ln ([]:List Int)>0)=false from rfl];simp only[Ac];obtain⟨v,v1⟩:=dH h.dev;rw[v1];simp only[Aa]
  cases v with
  |false=>
   simp only[AQ,Ae];unfold MD;rw[VS h.dev.st];simp only[Aa];obtain⟨b1,b2⟩:=iK hv
   rcases R9 h.dev.fl h.dev.seqs (Li (Bb d.Store) d.Store.Next) (by unfold Li;simp) b2 b1 (bs [])with w|⟨steps,T,g,f,w1,w2,w3,w4,w5,w6,w7,w8,w9⟩
   ·grind
   rw[w2];simp only[Aa];have j:=(FB w7).2;have o:(Ct (Jq d<|bs []) d.Tx T).length=T.length:=by unfold Ct;grind
   have l:Dh d f.Chunk (bs [])=[]:=by rfl
   rw[l,A7,o]at j;refine⟨_,_,rfl,by omega,(λhh=>by cases hh),λ_=>gE (RB w7) λk hk=>?_⟩;obtain⟨m,d',r',c1,c2,c3,c4,c5,rfl,cw,c6,c7,c8,c9⟩:=WI h b1 w3 w4 w5 w6 w7 w9 (λhh=>absurd (EU _) hh) k hk;have a:Bb d'.Store=Bb d.Store/\d'.Store.Next=d.Store.Next:=by
    by_cases e:k<steps.length
    ·obtain⟨e1,e2,_⟩:=Hv h.dev c4 (by rw[c8 e]);exact⟨e1,e2⟩
    obtain⟨q,hq⟩:=(c9<|by omega).1;have hB:eB (Tx.mk d.Tx q<|Li (Bb d.Store) d.Store.Next)=true:=rfl;have a:=c4.ab;rw[hq,Tn,AG hB]at a;have:LK [Tx.mk d.Tx q<|Li (Bb d.Store) d.Store.Next]=(Bb d.Store,d.Store.Next):=by
     show(CZ [] 1<|Li (Bb d.Store) d.Store.Next).getD ([],1)=_;rw[iL hv];rfl
    grind
   have hX:∀y∈(Cn steps<|Dh d f.Chunk (bs [])++Ct (Jq d<|bs []) d.Tx T).take k,y.Page.Kind=2/\y.Page.Tx=d.Tx:=λy hy=>by
    have cP:=MG _ _ _ y hy;rw[l,A7]at cP;exact⟨Pi cP,gI cP⟩
   refine⟨d',_,by rw[c5];exact c1,by rw[c5];exact c3,⟨c4,c6,by rw[a.1];exact c7⟩,a.1,a.2,λy hy hk=>?_,iZ λy hy hk=>?_,by rw[c5];exact YF (n:=1) cw,λc hc=>?_,jE (n:=200*1) λy hy=>?_⟩
   ·grind
   ·rcases Ap.1 hy with hh|hh
    ·exact YI _ hh hk
    rw[(hX y hh).2,h.dev.tx];omega
   ·unfold BY;rw[aG _ _ _ λy hy hh=>by grind]
   rcases Ap.1 hy with hh|hh
   ·exact YK _ hh
   have:=fC<|MG _ _ _ y hh;rw[h.dev.seq]at this;omega
  |true=>
   simp only[Ag,Ac];obtain⟨vi,vi1⟩:=dL h.dev;rw[vi1];simp only[Aa]
   cases decide (vi<0)with
   |true=>grind
   |false=>
    simp only[Ac]
    rcases dT h.dev h.few vi with w|⟨steps,ps,g,w1,w2,w3,w4,w5,w6,w7⟩
    ·grind
    rw[w1];refine⟨steps,true,rfl,by omega,(λhh=>by cases hh),λ_=>gE (RB w2) λk hk=>?_⟩;obtain⟨m,d',c1,c2,c3,c4,c5,c6,_,cw,c7⟩:=AAM h w2 w4 w5 w6 k;refine⟨d',_,by rw[c4];exact c1,by rw[c4];exact c3,c5,c6.ab,c6.nx,λy hy hk=>?_,iZ λy hy hk=>?_,by rw[c4];exact YF (n:=1) cw,c7,jE (n:=200*1) λy hy=>?_⟩
    ·rcases Ap.1 hy with hh|hh
     ·grind
     obtain⟨⟨_,_,z,z1,z2⟩,_⟩:=w6 _<|MG _ _ _ _ hh;obtain⟨a1,a2,a3⟩:=Wd z1
     grind
    ·rcases Ap.1 hy with hh|hh
     ·exact YI _ hh hk
     have:=(w6 _<|MG _ _ _ _ hh).1.1;omega
    rcases Ap.1 hy with hh|hh
    ·exact YK _ hh
    have:=w7 _<|MG _ _ _ _ hh;rw[h.dev.seq]at this;omega
theorem Mc (h:BA f):∃v:Int,M6 f=some v:=by
 obtain⟨v,v1,_⟩:=X5 f h.cap (by have:=h.few;omega);exact⟨v,v1⟩
theorem Vl (h:HA d r) (hw:Er d.Flash 999999000) (most:Int):∃d' all r',Hz d most=some (d',all)/\Ia 20 d r d' r'/\all.length<=4000/\Steps d.Flash all d'.Flash/\Lt 20 d r all:=by
 unfold Hz;rw[My h.dev];simp only[Aa]
 have l:∀{n:Nat} {a:List AU},n<=20->Lt n d r a->Lt 20 d r a:=λhn hc=>⟨hc.1,λk g hk hg=>by
  obtain⟨x,rx,x1,x2,x3⟩:=hc.2 k g hk hg
  exact⟨x,rx,x1,x2,x3.mono hn⟩⟩
 obtain⟨b,h1,d',all,r',h2,h3,h4,h5,h6⟩:=AL (body:=λs:List AU×Int×List Block×List Vol×List Bz×Int×Int×Int×Int=>EF most s.1 s.2.1 s.2.2.1 s.2.2.2.1 s.2.2.2.2.1 s.2.2.2.2.2.1 s.2.2.2.2.2.2.1 s.2.2.2.2.2.2.2.1 s.2.2.2.2.2.2.2.2)
  (λ(o:List AU×Az) i=>(o.1,i,o.2.Flash.Blocks,o.2.Store.Vols,o.2.Store.Arena.Knots,o.2.Store.Next,o.2.Seq,o.2.Tx,o.2.Base)) 20
  (λi o=>o.1.length<=200*i/\∃r',Ia i d r o.2 r'/\Steps d.Flash o.1 o.2.Flash/\Lt i d r o.1)
  (λb=>∃d' all r',(b= .inr (d',all)\/b= .inl (all,d'.Flash.Blocks,d'.Store.Vols,d'.Store.Arena.Knots,d'.Store.Next,d'.Seq,d'.Tx,d'.Base))/\Ia 20 d r d' r'/\all.length<=4000/\Steps d.Flash all d'.Flash/\Lt 20 d r all)
  (λo i hi hs=>by
   obtain⟨all,e⟩:=o;obtain⟨j,r',hg,c,f⟩:=hs;simp only at j hg c f;have m:Az.mk (Flash.mk e.Flash.Blocks) (Store.mk e.Store.Vols (Arena.mk e.Store.Arena.Knots) e.Store.Next) e.Seq e.Tx e.Base=e:=rfl;have p:Flash.mk e.Flash.Blocks=e.Flash:=rfl;simp only[EF];rw[m,p];obtain⟨v,v1⟩:=Mc hg.good.dev.fl;rw[v1,Ad (by omega:(i:Int)<20)];simp only[Ae,Aa,JJ]
   cases(bif decide ((i:Int)<most)then decide (v<12)else false)with
   |false=>
    simp only[Ac];exact .inr ⟨_,rfl,e,all,r',.inr rfl,hg.mono (by omega),by omega,c,l (by omega) f⟩
   |true=>
    simp only[Ae];obtain⟨steps,ok,c1,c2,_,c3⟩:=dB hg.good (λx hx=>by have:=hg.wear _ hw x hx;omega);rw[c1];simp only[Aa]
    cases ok with
    |false=>
     simp only[AQ,Ae];exact .inr ⟨_,rfl,e,all,r',.inl rfl,hg.mono (by omega),by omega,c,l (by omega) f⟩
    |true=>
     obtain⟨d',r2,k1,k2,k3⟩:=(c3 rfl).full hg.good (by omega);simp only[Ag,Ac];rw[k1,Aa,BD (by omega),ad1]
     exact .inl ⟨(all++steps,d'),rfl,by simp;omega,r2,hg.trans k3,(Mb _ _ _ _).2 ⟨_,c,k2⟩,yX hg c f<|c3 rfl⟩)
  (λo hs=>by
   obtain⟨all,e⟩:=o;obtain⟨j,r',hg,c,f⟩:=hs;refine⟨.inl (all,e.Flash.Blocks,e.Store.Vols,e.Store.Arena.Knots,e.Store.Next,e.Seq,e.Tx,e.Base),?_,e,all,r',.inr rfl,hg,by simpa using j,c,f⟩;simp only[EF]
   grind) (s:=([],d)) ⟨by simp,r,Ia.refl h,rfl,⟨⟨_,rfl⟩,λk g hk hg=>by
   obtain⟨q,q1,q2⟩:=hg;rw[List.take_nil]at q1;rw[show q=d.Flash from q1]at q2
   rcases q2 with rfl|⟨s,s1,_⟩
   ·obtain⟨x,u1,u2,u3⟩:=(Ia.refl (n:=0) h).torn h.dev.fl rfl λ_ hh=>hh
    grind
   simp at s1⟩⟩
 rw[h1]
 rcases h2 with rfl|rfl
 ·grind
 exact⟨d',all,r',rfl,h3,h4,h5,h6⟩
theorem AAe {r:Int} (h:k<16):(Fi K r)[k]?=some (RO K r k):=by unfold Fi;exact HM h
theorem nY (h:C9 s) (vol:Int) (hk:k<16):∃c,LG s vol (k:Int)=some c/\((Le (Bb s) vol=none/\c=0)\/∃a,Le (Bb s) vol=some a/\a[k]?=some c/\0<=c/\(c≠0->DR (Bb s) c)):=by
 have hl:=h.len;unfold LG
 rcases Eb s (by omega) vol with⟨e,e2⟩|⟨i,v,e,e2,e3,_⟩
 ·rw[e];exact⟨0,rfl,.inl ⟨LR.1 e2,rfl⟩⟩
 rw[e];simp only[Aa];have hm:=Ar e2;have hr:=h.root _<|AA.2 ⟨v,hm,rfl⟩;rw[cF,Au,e2,Aa,ZM _ (by have:=h.few;omega) h.ar hr hk];have hg:=NX h.asc hm;rw[e3]at hg;have h0:=pO h.ar hr _<|cC hk;exact⟨_,rfl,.inr ⟨_,hg,AAe hk,h0,λb=>⟨by omega,_,AA.2 ⟨v,hm,rfl⟩,cC hk⟩⟩⟩
theorem Sk (h:HA d r) (vol:Int) (hk:k<16):(Le (Bb d.Store) vol=none/\FG r d.Store vol (k:Int)=some (bs [],false))\/
  ∃a c,Le (Bb d.Store) vol=some a/\a[k]?=some c/\LG d.Store vol (k:Int)=some c/\((c=0/\FG r d.Store vol (k:Int)=some (bs [],true))\/(0<c/\DR (Bb d.Store) c/\∃u,BY r c=some u/\FG r d.Store vol (k:Int)=some (u,true))):=by
 have hl:=h.dev.st.len;obtain⟨c,c1,c2⟩:=nY h.dev.st vol hk;unfold FG;rw[c1]
 rcases Eb d.Store (by omega) vol with⟨e,e2⟩|⟨i,v,e,e2,e3,_⟩
 ·rw[e];exact .inl ⟨LR.1 e2,rfl⟩
 have hg:=NX h.dev.st.asc<|Ar e2;rw[e3]at hg
 rcases c2 with⟨c2,_⟩|⟨a,c2,c3,c4,c5⟩
 ·grind
 rw[e];simp only[Aa];rw[cF];right;refine⟨a,c,c2,c3,rfl,?_⟩;by_cases e0:c=0
 ·grind
 rw[show(c==0)=false by simpa using e0];simp only[Ac];have b:=c5 e0;obtain⟨u,hu⟩:=h.data.data c b;obtain⟨w,ok,t1,t2⟩:=ZE h.dev.pages c
 grind
theorem Vj (h:HJ d r) {q:Qx} {a:List C1} {b:ByteArray} (hp:Fq d q=some (a,b,0)):AEj q:=by
 obtain⟨v,a1,a2⟩:=WT q
 cases v with
 |true=>exact a2 rfl
 |false=>
  unfold Fq at hp
  grind
def qI (r r':List Aq) (c:Int) (a:ByteArray):Prop:=(∀y∈r',y.Page.Kind=1->(∃z∈r,z.Page.Kind=1/\z.Page.Tx=y.Page.Tx/\z.Page.Text=y.Page.Text)\/(L a≠ []/\y.Page.Tx=c/\y.Page.Text=a))/\DP r'<=DP r+1/\CU r'<=CU r+10
theorem uE (h:HA d r) {q:Qx} {a:ByteArray} (hx:u7 d r q x a):DK d [x] a=some ([],false)\/∃steps d' r',DK d [x] a=some (steps,true)/\steps.length<=10/\Hy d steps=some d'/\HA d' r'/\
  (Bb d'.Store,d'.Store.Next)=(Dr (Bb d.Store) d.Store.Next x).getD (Bb d.Store,d.Store.Next)/\d.Store.Next<=d'.Store.Next/\d'.Store.Next<=d.Store.Next+1/\qI r r' x.Chunk a/\Zo d.Flash d'.Flash/\Steps d.Flash steps d'.Flash/\((∀c,DR (Bb d.Store) c->BY r' c=BY r c)/\(L a≠ []->BY r' x.Chunk=TR a))/\1<=steps.length/\∀k g,k<steps.length->Yi d.Flash steps k g->∃y ry,Cs g=some (y,true)/\y.Flash=g/\As d r y ry/\qI r ry x.Chunk a:=by
 obtain⟨x1,x2,xv,x3⟩:=hx;have h7:=h.dev.st.nx
 have i:∀z∈ [x],GL z=true:=λz hz=>by grind
 rcases R9 h.dev.fl h.dev.seqs [x] (by simp) (by simp) i a with w|⟨steps,T,g,b,w1,w2,w3,w4,w5,w6,w7,w8,w9⟩
 ·exact .inl w
 right;have j:b=x:=by simpa using w1.symm
 subst j;have o:=(FB w7).2;have h2:(Ct (Jq d a) d.Tx T).length=T.length:=by unfold Ct;grind
 have h8:(Dh d b.Chunk a).length<=1:=by unfold Dh;split<;>simp
 rw[Ak,h2]at o
 have t:L a≠ []->¬DR (Bb d.Store) b.Chunk:=λht h3=>by
  rcases x3 with⟨x3,_⟩|⟨_,x4,_⟩
  ·exact ht x3
  have:=YT h.dev.st h3;omega
 have tk:∀k c,DR (Bb d.Store) c->BY (r++(Cn steps<|Dh d b.Chunk a++Ct (Jq d a) d.Tx T).take k) c=BY r c:=λk c hc=>by
  unfold BY;rw[aG _ _ _ λz hz hh=>?_];have h4:=MG _ _ _ z hz
  rcases Ap.1 h4 with hh2|hh2
  ·unfold Dh at hh2
   grind
  have:=Pi hh2;omega
 have tn:L a≠ []->BY (r++(Cn steps<|Dh d b.Chunk a++Ct (Jq d a) d.Tx T).take steps.length) b.Chunk=TR a:=λe=>by
  rw[AO (by unfold Cn;grind),show Dh d b.Chunk a=[Page.mk 1 d.Seq b.Chunk 0 1 a] by unfold Dh;rw[AH e]]
  cases steps with
  |nil=>grind
  |cons s ss=>
   show BY (r++Aq.mk s.Block s.Leaf (Page.mk 1 d.Seq b.Chunk 0 1 a)::Cn ss (Ct (Jq d a) d.Tx T)) b.Chunk=_;unfold BY;rw[List.append_cons,gO _ _ (λy hy=>by have:=Pi (MG ss _ _ y (by rw[DS];exact hy));omega),MI,AG ⟨rfl,rfl⟩];rfl
 have fw:∀k,qI r (r++(Cn steps<|Dh d b.Chunk a++Ct (Jq d a) d.Tx T).take k) b.Chunk a:=λk=>by
  have cP:∀y∈r++(Cn steps<|Dh d b.Chunk a++Ct (Jq d a) d.Tx T).take k,y∈r\/y.Page∈Dh d b.Chunk a++Ct (Jq d a) d.Tx T:=λy hy=>(Ap.1 hy).imp id<|MG _ _ _ y
  refine⟨λy hy hk=>?_,iZ (n:=1) λy hy hk=>?_,jE (n:=10) λy hy=>?_⟩
  ·rcases cP y hy with hh|hh
   ·grind
   rcases Ap.1 hh with hh|hh
   ·unfold Dh at hh;by_cases e:L a=[]
    ·grind
    grind
   have:=Pi hh;omega
  ·rcases cP y hy with hh|hh
   ·exact YI _ hh hk
   rcases Ap.1 hh with hh|hh
   ·unfold Dh at hh
    grind
   rw[gI hh,h.dev.tx];omega
  rcases cP y hy with hh|hh
  ·exact YK _ hh
  have:=fC hh;rw[h.dev.seq]at this;omega
 have cut:∀k g,k<steps.length->Yi d.Flash steps k g->∃y ry,Cs g=some (y,true)/\y.Flash=g/\As d r y ry/\qI r ry b.Chunk a:=λk g hk hg=>by
  obtain⟨m,y,ry,c1,c2,c3,c4,c5,hr',cw,c6,c7,c8,_⟩:=WI h i w3 w4 w5 w6 w7 w9 t k (by omega);obtain⟨e1,e2,_⟩:=Hv h.dev c4 (by rw[c8 hk]);subst hr';have h5:As d r y (r++(Cn steps<|Dh d b.Chunk a++Ct (Jq d a) d.Tx T).take k):=⟨⟨c4,c6,by rw[e1];exact c7⟩,e1,e2,(fw k).2.1,by rw[c5];exact YF (n:=1) cw,tk k⟩;obtain⟨q,q1,q2⟩:=hg;have:=Qs q1 c1;subst this
  rcases q2 with rfl|⟨s,s1,_,s2,s3,⟨_,s4⟩|⟨s4,_⟩⟩
  ·grind
  ·obtain⟨z,z1,z2,z3⟩:=h5.torn s2 (by rw[c5];exact s4) (by rw[c5];exact s3)
   grind
  have:=RB w7 s<|Ar s1;omega
 obtain⟨m,d',r',c1,c2,c3,c4,c5,hr',cw,c6,c7,_,c9⟩:=WI h i w3 w4 w5 w6 w7 w9 t steps.length<|Ax _;rw[<-c5]at cw;rw[DS]at c1;have u:Steps d.Flash steps d'.Flash:=by rw[c5];exact c1
 have v:qI r r' b.Chunk a:=by rw[hr'];exact fw _
 have tt:(∀c,DR (Bb d.Store) c->BY r' c=BY r c)/\(L a≠ []->BY r' b.Chunk=TR a):=by grind
 obtain⟨⟨qn,hq⟩,c10⟩:=c9 rfl;have hB:¬eB (Tx.mk d.Tx qn [b])=true:=by
  unfold eB;simpa using x2
 have f:=c4.ab;rw[hq,Tn,AH hB,aK,<-h.dev.ab]at f;have h6:CZ (Bb d.Store) d.Store.Next [b]=Dr (Bb d.Store) d.Store.Next b:=by rfl
 simp only[h6]at f;have h0:=N0 h.dev c1 (by omega) c3
 cases l:Dr (Bb d.Store) d.Store.Next b with
 |none=>
  rw[l]at f;have e1:Bb d'.Store=Bb d.Store:=BR Prod.fst f;have e2:d'.Store.Next=d.Store.Next:=BR Prod.snd f;exact⟨steps,d',r',w2,by omega,h0,⟨c4,c6,by rw[e1];exact c7⟩,by rw[e1,e2];rfl,by omega,by omega,v,cw,u,tt,by omega,cut⟩
 |some p=>
  obtain⟨l',nx'⟩:=p;rw[l]at f;have e1:Bb d'.Store=l':=BR Prod.fst f;have e2:d'.Store.Next=nx':=BR Prod.snd f;obtain⟨v1,v2,v3⟩:=pI l x2
  have hz:∀c,DR l' c->c=b.Chunk->b.Kind≠4->False:=λc hc h9 hk=>by
   have:b.Chunk=0:=by
    have hb:=x1;unfold GL at hb
    grind
   have:=hc.1;omega
  have h1:b.Chunk<=d.Store.Next:=by
   by_cases hk:b.Kind=4
   ·rcases x3 with⟨_,x4⟩|⟨_,x4,_⟩
    ·have:=YT h.dev.st (x4 hk).1;omega
    omega
   have hb:=x1;unfold GL at hb
   grind
  refine⟨steps,d',r',w2,by omega,h0,⟨c4,c6,?_⟩,by rw[e1,e2];rfl,by omega,by omega,v,cw,u,tt,by omega,cut⟩;rw[e1]
  rcases x3 with⟨x3,x4⟩|⟨x3,x4,x5,x6,x7⟩
  ·refine c7.mono λc hc=>?_
   grind
  exact(c10 _ x6 x5 x7).mono v1
def ABH (r r':List Aq) (nx:Int) (a:ByteArray):Prop:=(∀y∈r',y.Page.Kind=1->(∃z∈r,z.Page.Kind=1/\z.Page.Tx=y.Page.Tx/\z.Page.Text=y.Page.Text)\/(y.Page.Tx=nx/\TR y.Page.Text=some a))/\DP r'<=DP r+21/\CU r'<=CU r+4010
def AC2 (d d':Az) (v:Int):Prop:=∀p∈Bb d'.Store,(∃p'∈Bb d.Store,p'.1=p.1)\/p.1=v
theorem Ia.q (h:Ia n d r e r') (hn:n<=20) (nx:Int) (t:ByteArray):ABH r r' nx t:=⟨λy hy hk=> .inl (h.pg y hy hk),by have:=h.tx;omega,by have:=h.sq;omega⟩
theorem KO (h:Bb d'.Store=Bb d.Store) (v:Int):AC2 d d' v:=λp hp=> .inl ⟨p,by rw[<-h];exact hp,rfl⟩
theorem ACW (h:HA d r) (hw:Er d.Flash 999999000) (q:Qx):∃d' steps t no r',OX d q=some (d',steps,t,no)/\HA d' r'/\d.Store.Next<=d'.Store.Next/\d'.Store.Next<=d.Store.Next+1/\ABH r r' d.Store.Next q.Text/\AC2 d d' q.Vol/\∀w:Int,Er d.Flash w->Er d'.Flash (w+20):=by
 have a:Ia 20 d r d r:=Ia.refl h;unfold OX;rw[My h.dev,N4 h.dev];simp only[Aa,Ag,Ac];obtain⟨o,v,no,p1,p2,p3⟩:=WA h.dev q;rw[p1];simp only[Aa]
 cases f:(no !=0)with
 |true=>exact⟨_,_,_,_,r,rfl,h,by omega,by omega,a.q (by omega) _ _,KO rfl _,a.wear⟩
 |false=>
  have g:no=0:=by simpa using f
  subst g;have hq:=Vj h.dev p1;simp only[Ac]
  cases h0:(q.Kind==6)with
  |true=>
   simp only[Ae];obtain⟨k,hk⟩:∃k:Nat,q.Sector=(k:Int):=⟨_,(AS hq.sec.1).symm⟩;unfold M7;rw[h.dev.scan.s,hk];simp only[Aa]
   rcases Sk h q.Vol (k:=k) (by have:=hq.sec;omega)with⟨_,e⟩|⟨h1,c,_,_,_,⟨_,e⟩|⟨_,_,u,_,e⟩⟩
   ·rw[e];exact⟨_,_,_,_,r,rfl,h,by omega,by omega,a.q (by omega) _ _,KO rfl _,a.wear⟩
   ·rw[e];exact⟨_,_,_,_,r,rfl,h,by omega,by omega,a.q (by omega) _ _,KO rfl _,a.wear⟩
   rw[e];exact⟨_,_,_,_,r,rfl,h,by omega,by omega,a.q (by omega) _ _,KO rfl _,a.wear⟩
  |false=>
   simp only[Ac];obtain⟨v5,i⟩:=Mc h.dev.fl;rw[i];simp only[Aa];have clean:∃e all re,(cond (decide<|v5<12) ((Hz d 20).bind λv6=>some (v6.2,v6.1.Flash.Blocks,v6.1.Store.Vols,v6.1.Store.Arena.Knots,v6.1.Store.Next,v6.1.Seq,v6.1.Tx,v6.1.Base)) (some ([],d.Flash.Blocks,d.Store.Vols,d.Store.Arena.Knots,d.Store.Next,d.Seq,d.Tx,d.Base)):Option (List AU×List Block×List Vol×List Bz×Int×Int×Int×Int))=some (all,Flash.Blocks<|Az.Flash e,e.Store.Vols,e.Store.Arena.Knots,e.Store.Next,e.Seq,e.Tx,e.Base)/\Ia 20 d r e re/\all.length<=4000:=by
    cases decide (v5<12)with
    |false=>grind
    |true=>
     obtain⟨e,all,re,k1,k2,k3,_⟩:=Vl h hw 20
     grind
   obtain⟨e,all,re,k1,k5,k4⟩:=clean;have k2:=k5.good;rw[k1];simp only[Aa];have j:Az.mk (Flash.mk e.Flash.Blocks) (Store.mk e.Store.Vols (Arena.mk e.Store.Arena.Knots) e.Store.Next) e.Seq e.Tx e.Base=e:=rfl;have l:Flash.mk e.Flash.Blocks=e.Flash:=rfl;rw[j,l];obtain⟨recs2,text2,no2,s1,s2,_⟩:=WA k2.dev q;rw[s1];simp only[Aa];obtain⟨v9,m⟩:=Mc k2.dev.fl;rw[m];have h2:=k5.nx
   rcases s2 with⟨rfl,rfl⟩|⟨_,x,rfl,s2⟩
   ·have hw:DK e [] (bs [])=some ([],true):=rfl;rw[hw];simp only[Aa,Ag,Ac]
    cases decide (v9<8)with
    |true=>exact⟨_,_,_,_,re,rfl,k2,by omega,by omega,k5.q (by omega) _ _,KO k5.ab _,k5.wear⟩
    |false=>
     simp only[Ac];obtain⟨d',u1,u2,u3⟩:=Lg k2.dev.fl k2.dev.sr;obtain⟨e1,e2,_⟩:=Hv k2.dev u2 rfl;rw[N0 k2.dev (steps:=[]) rfl (by simp) u1,Aa,BD (by simp;omega)];exact⟨_,_,_,_,re,rfl,⟨u2,k2.core,by rw[e1];exact k2.data⟩,by omega,by omega,k5.q (by omega) _ _,KO (by rw[e1,k5.ab]) _,by rw[u3];exact k5.wear⟩
   rcases uE k2 s2 with w|⟨steps,d',r',w1,w2,w3,w4,w7,w5,w6,w8,w9,_⟩
   ·rw[w];exact⟨_,_,_,_,re,rfl,k2,by omega,by omega,k5.q (by omega) _ _,KO k5.ab _,k5.wear⟩
   rw[w1];simp only[Aa,Ag,Ac]
   cases decide (v9<8)with
   |true=>exact⟨_,_,_,_,re,rfl,k2,by omega,by omega,k5.q (by omega) _ _,KO k5.ab _,k5.wear⟩
   |false=>
    simp only[Ac];rw[w3,Aa,BD<|by omega];refine⟨_,_,_,_,r',rfl,w4,by omega,by omega,⟨λy hy hk=>?_,by have:=w8.2.1;have:=k5.tx;omega,by have:=w8.2.2;have:=k5.sq;omega⟩,λp hp=>?_,λw hh=>w9 _<|k5.wear w hh⟩
    ·rcases w8.1 y hy hk with⟨z,z1,z2,z3,z4⟩|⟨t1,t2,t3⟩
     ·obtain⟨w,a1,a2,a3,a4⟩:=k5.pg z z1 z2
      grind
     obtain⟨_,_,_,s3⟩:=s2
     grind
    have e1:=BR Prod.fst w7;simp only at e1;rw[e1]at hp
    cases b:Dr (Bb e.Store) e.Store.Next x with
    |none=>
     rw[b]at hp;exact .inl ⟨p,by rw[<-k5.ab];exact hp,rfl⟩
    |some lp=>
     rw[b]at hp;obtain⟨l',nx'⟩:=lp;have n:p∈l':=hp
     rcases bU b s2.2.1 p n with⟨p',q1,q2⟩|hh
     ·exact .inl ⟨p',by rw[<-k5.ab];exact q1,q2⟩
     exact .inr<|by rw[hh,s2.2.2.1]
structure Mf (c:BP):Prop where
 i0:0<=c.i_
 i1:c.i_<=(c.b_.length:Int)
 len:c.b_.length<=1048576
theorem ABq (a:Int):0<=ban .i64 a 255/\ban .i64 a 255<=255:=by
 unfold ban;have h:(BitVec.ofInt IntKind.i64.bits a&&&BitVec.ofInt IntKind.i64.bits 255).toNat<=255:=by
  rw[BitVec.toNat_and];refine JK Nat.and_le_right ?_;exact Nat.le_of_eq rfl
 rw[P2 (by omega)<|by omega];omega
theorem X9 (h:Mf c):∃v c',IS c=some (v,c')/\Mf c'/\0<=v/\v<=255:=by
 have:=h.i0;have:=h.i1;have:=h.len;unfold IS;by_cases e:c.i_<ln c.b_
 ·rw[Ad e,Ae,Ld h.i0 (by rw[Bv]at e;exact e)];rw[Bv]at e;rw[Aa,Cr (a:=c.i_) (by omega)<|by omega];exact⟨_,_,rfl,⟨by grind,by grind,h.len⟩,ABq _⟩
 rw[Ah e,Ac];exact⟨_,_,rfl,⟨h.i0,h.i1,h.len⟩,ABq _⟩
theorem ADG {a n:Int} (h0:0<=a) (hn:0<n):∃v,rm .i64 a n=some v/\0<=v/\v<n:=by
 unfold rm;rw[AH (by omega),Int.tmod_eq_emod_of_nonneg h0];exact⟨_,rfl,Int.emod_nonneg _ (by omega),Int.emod_lt_of_pos _ hn⟩
theorem RF (h:Mf c) (n:Int):∃v c',D4 c n=some (v,c')/\Mf c'/\0<=v/\(0<n->v<n):=by
 unfold D4;by_cases h0:n<=0
 ·rw[Ad h0]
  grind
 rw[Ah h0,Ac];by_cases h1:n<=256
 ·rw[Ad h1,Ae];obtain⟨v,c',k1,k2,k3,k4⟩:=X9 h;rw[k1];obtain⟨w,w1,w2,w3⟩:=ADG (n:=n) k3 (by omega)
  grind
 rw[Ah h1,Ac];obtain⟨v1,c1,a1,a2,a3,a4⟩:=X9 h;obtain⟨v2,c2,b1,b2,b3,b4⟩:=X9 a2;obtain⟨v3,c3,d1,d2,d3,d4⟩:=X9 b2;obtain⟨v4,c4,e1,e2,e3,e4⟩:=X9 d2;rw[a1,Aa,b1,Aa,d1,Aa,e1,Aa,Qb (by omega) (by omega),Qb (by omega) (by omega),Qb (by omega) (by omega),Cr (a:=v1*16777216) (b:=v2*65536) (by omega) (by omega),Cr (a:=v1*16777216+v2*65536) (b:=v3*256) (by omega) (by omega),Cr (a:=v1*16777216+v2*65536+v3*256) (b:=v4) (by omega)<|by omega];obtain⟨w,w1,w2,w3⟩:=ADG (a:=v1*16777216+v2*65536+v3*256+v4) (n:=n) (by omega)<|by omega
 grind
theorem NZ (h:Mf c) (hn:0<n):∃(v:Nat) (c':BP),D4 c (n:Int)=some ((v:Int),c')/\Mf c'/\v<n:=by
 obtain⟨v,c',k1,k2,k3,k4⟩:=RF h (n:Int);have:=k4 (by omega);exact⟨v.toNat,c',by grind,k2,by omega⟩
theorem yT {l:List Int} (h:Mf c) (hl:0<l.length):∃v c',Ny c l=some (v,c')/\Mf c'/\v∈l:=by
 unfold Ny;obtain⟨v,c',k1,k2,k3⟩:=NZ h hl;rw[Bv,k1,Aa,Au,Ab k3]
 grind
theorem AEa {l:List ByteArray} (h:Mf c) (hl:0<l.length):∃v c',PO c l=some (v,c')/\Mf c'/\v∈l:=by
 unfold PO;obtain⟨v,c',k1,k2,k3⟩:=NZ h hl;rw[Bv,k1,Aa,Au,Ab k3];exact⟨_,_,rfl,k2,A0 k3⟩
theorem ABB (h:Mf c) (n:Int):∃v c',Kh c n=some (v,c')/\Mf c':=by
 unfold Kh;obtain⟨v,c',k1,k2,_⟩:=RF h n;rw[k1];exact⟨_,_,rfl,k2⟩
theorem NL (h:Mf c):Mf (BP.mk c.b_ c.i_ c.h_):=h
theorem ABD (h:code.length<=1048576):∃c,PP code=some c/\Mf c:=by
 unfold PP;obtain⟨b,h1,_⟩:=AL (body:=λs:Int×Int=>M3 code s.1 s.2) (λ(o:Int) i=>(o,i)) code.length (λ_ _=>True) (λ_=>True)
  (λo i hi _=>by
   have hx:=Ab hi;simp only[M3,FV,Ad hi,Ae,Aa,Au,hx];rw[ad1 (i:=i)<|by omega]
   cases decide ((i:Int)<4000)with
   |true=>grind
   |false=>grind)
  (λo _=>⟨o,by simp only[M3,FV,Dw,EW,Ac,Aa],trivial⟩) (s:=ad 36501<|ln code) trivial
 rw[h1];exact⟨_,rfl,⟨Jt _,by grind,h⟩⟩
def ten:List ByteArray:=[bs [],bs [97],bs [98,98],bs [97,98,99,100,97,98,99,100,97,98,99,100],bs [104,101,108,108,111],bs [104,101,108,108,111,32,104,101,108,108,111,32,104,101,108,108,111],bs [122,122,122,122,122,122,122,122,122,122,122,122],bs [113,49],bs [113,50],bs [113,51]]
theorem AD5 (h:Mf c):∃v c',Tp c=some (v,c')/\Mf c'/\v∈ten:=by
 unfold Tp;obtain⟨v,c',k1,k2,k3⟩:=AEa h (l:=ten) (by simp[ten]);have e:PO c ten=some (v,c'):=k1;unfold ten at e
 grind
structure ABK (q:Qx):Prop where
 kind:1<=q.Kind/\q.Kind<=6
 vol:1<=q.Vol/\q.Vol<=3
 rest:(q.Kind=1/\q.Text∈ten/\(0<=q.Sector/\q.Sector<=15)/\q.Of=0)\/(q.Kind≠1/\L q.Text=[]/\(((q.Kind=2\/q.Kind=6)/\(0<=q.Sector/\q.Sector<=15)/\q.Of=0)\/(q.Sector=0/\((q.Kind=4/\1<=q.Of/\q.Of<=9)\/((q.Kind=3\/q.Kind=5)/\q.Of=0)))))
theorem ABC (h:Mf c) (d:Az) (hv:d.Store.Vols.length<=3) (j:∀v∈d.Store.Vols,1<=v.Id/\v.Id<=3):∃q c',PM c d=some (q,c')/\Mf c'/\ABK q:=by
  unfold PM;obtain⟨k,c1,a1,a2,a3⟩:=yT h (l:=[1,1,1,1,1,1,2,3,4,5,6]) (by simp);rw[a1];simp only[Aa];obtain⟨v2,c2,b1,b2,b3,b4⟩:=RF a2 3;have m:1<=k/\k<=6:=by simp at a3;omega
  have s:ad 1 v2=1+v2:=Cr (by omega) (by omega);have u:=b4 (by omega);rw[b1];simp only[Aa]
  have J1:∃x y c3,(cond ((ln d.Store.Vols)==0) (some (3,ad 1 v2,c2.b_,c2.i_,c2.h_)) ((cond (k !=3) (cond (k !=4) ((Kh c2 8).bind λv3=>
 some (!v3.1,v3.2.b_,v3.2.i_,v3.2.h_))<|some (false,c2.b_,c2.i_,c2.h_)) (some (false,c2.b_,c2.i_,c2.h_)):Option (Bool×List Int×Int×Int)).bind λj2=>
 cond j2.1 ((D4 (BP.mk j2.2.1 j2.2.2.1 j2.2.2.2)<|ln d.Store.Vols).bind λv4=>
 (gi d.Store.Vols v4.1).bind λx1=>
 some (k,x1.Id,v4.2.b_,v4.2.i_,v4.2.h_)) (some (k,ad 1 v2,j2.2.1,j2.2.2.1,j2.2.2.2))):Option (Int×Int×List Int×Int×Int))=some (x,y,BP.b_ c3,c3.i_,c3.h_)/\Mf c3/\(1<=x/\x<=6)/\1<=y/\y<=3:=by
   cases hz:(ln d.Store.Vols==0)with
   |true=>exact⟨_,_,c2,rfl,b2,by omega,by omega,by omega⟩
   |false=>
    simp only[Ac];have n:0<d.Store.Vols.length:=by
     rw[beq_eq_false_iff_ne,Bv]at hz;omega
    have J2:∃b c3,(cond (k !=3) (cond (k !=4) ((Kh c2 8).bind λv3=>some (!v3.1,v3.2.b_,v3.2.i_,v3.2.h_))<|some (false,c2.b_,c2.i_,c2.h_)) (some (false,c2.b_,c2.i_,c2.h_)):Option (Bool×List Int×Int×Int))=some (b,BP.b_ c3,c3.i_,c3.h_)/\Mf c3:=by
     cases(k !=3)with
     |false=>grind
     |true=>
      cases(k !=4)with
      |false=>grind
      |true=>
       obtain⟨v3,c3,d1,d2⟩:=ABB b2 8;simp only[Ae];rw[d1];exact⟨_,c3,rfl,d2⟩
    obtain⟨b,c3,e1,e2⟩:=J2;rw[e1];simp only[Aa]
    cases b with
    |false=>exact⟨_,_,c3,rfl,e2,m,by omega,by omega⟩
    |true=>
     simp only[Ae];obtain⟨v4,c4,f1,f2,f3⟩:=NZ (NL e2) n;rw[Bv,f1,Aa,Au,Ab f3];exact⟨_,_,c4,rfl,f2,m,j _<|A0 f3⟩
  obtain⟨x,y,c3,j1,j1c,jx,jy⟩:=J1;rw[j1];simp only[Aa];have J3:∃b c4,(cond (x==5) ((Kh (BP.mk c3.b_ c3.i_ c3.h_) 3).bind λv8=>some (!v8.1,v8.2.b_,v8.2.i_,v8.2.h_)) (some (false,c3.b_,c3.i_,c3.h_)):Option (Bool×List Int×Int×Int))=some (b,BP.b_ c4,c4.i_,c4.h_)/\Mf c4:=by
   cases(x==5)with
   |false=>grind
   |true=>
    obtain⟨v8,c4,d1,d2⟩:=ABB (NL j1c) 3;simp only[Ae];rw[d1];exact⟨_,c4,rfl,d2⟩
  obtain⟨b,c4,j3,j3c⟩:=J3;rw[j3];simp only[Aa,JJ];have a:1<=(bif b then(1:Int)else x)/\(bif b then(1:Int)else x)<=6:=by grind
  generalize (bif b then(1:Int)else x)=j4 at a
  cases o:(j4==1)with
  |true=>
   simp only[Ae];obtain⟨t,c5,t1,t2,t3⟩:=AD5<|NL j3c;rw[t1];simp only[Aa];obtain⟨v10,c6,u1,u2,u3,u4⟩:=RF t2 16;rw[u1];have:=u4 (by omega);have hj:=Da.1 o;exact⟨_,_,rfl,u2,⟨a,jy,.inl ⟨hj,t3,by grind,rfl⟩⟩⟩
  |false=>
   simp only[Ac];have e:j4≠1:=by simpa using o
   have p:(cond (j4==2) (j4==2)<|j4==6)=decide (j4=2\/j4=6):=by grind
   rw[p];by_cases g:j4=2\/j4=6
   ·rw[Ad g];simp only[Ae];obtain⟨v11,c6,u1,u2,u3,u4⟩:=RF (NL j3c) 16;rw[u1];have:=u4 (by omega);exact⟨_,_,rfl,u2,⟨a,jy,.inr ⟨e,EU _,.inl ⟨g,by grind,rfl⟩⟩⟩⟩
   rw[Ah g];simp only[Ac]
   cases f:(j4==4)with
   |true=>
    simp only[Ae];obtain⟨v12,c6,u1,u2,u3,u4⟩:=RF (NL j3c) 3;have h44:=Da.1 f;have:=u4 (by omega);rw[u1];simp only[Aa]
    cases r:d.Store.Vols with
    |nil=>
     rw[show decide (ln ([]:List Vol)>0)=false from rfl];exact⟨_,_,rfl,u2,⟨a,jy,.inr ⟨e,EU _,.inr ⟨rfl,.inl ⟨h44,by show 1<=ad 1 v12/\ad 1 v12<=9;rw[Cr];omega⟩⟩⟩⟩⟩
    |cons v vs=>
     rw[Ad (by rw[Bv,AB];omega:ln (v::vs)>0),show gi (v::vs) 0=some v from Au (i:=0)];have:=j v (by rw[r];simp);exact⟨_,_,rfl,u2,⟨a,jy,.inr ⟨e,EU _,.inr ⟨rfl,.inl ⟨h44,by grind⟩⟩⟩⟩⟩
   |false=>
    have h44:j4≠4:=by simpa using f
    exact⟨_,_,rfl,NL j3c,⟨a,jy,.inr ⟨e,EU _,.inr ⟨rfl,.inr ⟨by grind,rfl⟩⟩⟩⟩⟩
theorem ABn (h:3<=n/\n<=10):BA (Flash.mk (List.replicate n (Block.mk false 0 OD))):=by
 refine⟨by simpa using h,λb hb=>?_⟩;rw[Dx hb];exact pU ⟨by omega,by omega⟩
theorem jV (h:3<=n/\n<=10):QE (n:Int)=some (Flash.mk (List.replicate n (Block.mk false 0 OD)),true):=by
 unfold QE;rw[E0,Ad<|by omega];simp only[Aa,Ag,Ac];have q:=sH (body:=λs:Int×List Block=>J0 (n:Int) s.1 s.2) n (λ_=>Block.mk false 0 OD)
  (λi a hi ho=>by
   simp only[J0]
   rw[cT,Xc,Aa,BD (by simp;omega),Aa,ad1])
  (λa=>by simp only[J0];rw[cF])
 rw[q,Aa,Np,DY]
theorem gG:∀(n:Nat) (i:Int),KK i (List.replicate n (Block.mk false 0 OD))=[]
 |0,i=>rfl
 |n+1,i=>by
  rw[MZ,KK,gG n (i+1),VZ i 0 _ (λy hy=>by rw[Dx hy];simp)];rfl
theorem qM (h:3<=n/\n<=10):∃d,Pe (n:Int)=some (d,true)/\HA d []/\Bb d.Store=[]/\d.Store.Next=1/\d.Flash=Flash.mk (List.replicate n (Block.mk false 0 OD)):=by
 have hP:=ABn h;have b:SR (KK 0 (Flash.mk<|List.replicate n<|Block.mk false 0 OD).Blocks) []:=by
  rw[gG];exact⟨List.Pairwise.nil,λ_=>rfl⟩
 obtain⟨d,u1,u2,u3⟩:=Lg hP b;have a:=u2.ab;have:LK (CT<|Bk [])=([],1):=rfl;rw[this]at a
 injection a with e1 e2
 refine⟨d,?_,⟨u2,⟨⟨by simp,by simp,by simp,by simp,by simp,by simp⟩,List.Pairwise.nil,⟨λy hy=>by cases hy⟩⟩,?_⟩,e1,e2,u3⟩
 ·unfold Pe;rw[jV h]
  grind
 rw[e1];refine⟨λc hc=>?_,λc c' hc=>?_⟩
 ·obtain⟨_,p,hp,_⟩:=hc;cases hp
 obtain⟨_,p,hp,_⟩:=hc;cases hp
theorem mR (h:code.length<=1048576):∃p,N2 code=some p/\p.length=12/\∀x∈p,0<=x/\x<10000:=by
 unfold N2;obtain⟨c,c1,c2⟩:=ABD h;rw[c1];simp only[Aa];obtain⟨v,c',b1,b2,_⟩:=X9 c2;rw[b1];simp only[Aa];obtain⟨a,h1,h2,h3⟩:=AL (body:=λs:List Int×Int×List Int×Int×Int=>JQ s.1 s.2.1 s.2.2.1 s.2.2.2.1 s.2.2.2.2) (λ(o:List Int×BP) i=>(o.1,i,o.2.b_,o.2.i_,o.2.h_)) 12
  (λi o=>Mf o.2/\o.1.length=i/\∀x∈o.1,0<=x/\x<10000) (λa=>a.length=12/\∀x∈a,0<=x/\x<10000)
  (λo i hi hs=>by
   obtain⟨p,cu⟩:=o;obtain⟨k1,k2,k3⟩:=hs;simp only at k1 k2 k3;simp only[JQ];rw[cT];obtain⟨w,c3,w1,w2,w3,w4⟩:=RF (NL k1) 10000;rw[w1,Aa,BD (by simp;omega),Aa,ad1];refine .inl ⟨(p++ [w],c3),rfl,w2,by simp;omega,λx hx=>?_⟩
   grind)
  (λo hs=>⟨o.1,by rfl,hs.2⟩) (s:=([],c')) ⟨b2,rfl,λx hx=>by cases hx⟩
 grind
structure ABI (d:Az) (r:List Aq):Prop where
 ids:∀p∈Bb d.Store,1<=p.1/\p.1<=3
 pg:∀y∈r,y.Page.Kind=1->y.Page.Tx<=13/\∃s∈ten,TR y.Page.Text=some s
structure Ext (d:Az) (r:List Aq):Prop extends ABI d r where
 tx:DP r<=1000
 sq:CU r<=100000
 wear:Er d.Flash 1000
theorem ABK.text {q:Qx} (h:ABK q):q.Text∈ten:=by
 rcases h.rest with⟨_,h2,_⟩|⟨_,h2,_⟩
 ·exact h2
 rw[show q.Text=bs []from Ll (by rw[h2,EU])];simp[ten]
theorem ABI.step {q:Qx} (h:ABI d r) (hq:ABK q) (hn:d.Store.Next<=13) (hf:ABH r r' d.Store.Next q.Text) (hi:AC2 d d' q.Vol):ABI d' r':=by
 refine⟨λp hp=>?_,λy hy hk=>?_⟩
 ·rcases hi p hp with⟨p',h1,h2⟩|h1
  ·rw[<-h2];exact h.ids p' h1
  rw[h1];exact hq.vol
 rcases hf.1 y hy hk with⟨z,z1,z2,z3,z4⟩|⟨h1,h2⟩
 ·have:=h.pg z z1 z2
  grind
 exact⟨by omega,_,hq.text,h2⟩
theorem XX (h:Mf c):∃d c' r,M0 c=some (d,c')/\Mf c'/\HA d r/\d.Store.Next<=13/\Ext d r:=by
 unfold M0;obtain⟨v,c1,a1,a2,a3⟩:=NZ h (n:=4) (by omega);rw[show((4:Nat):Int)=4 from rfl]at a1;rw[a1,Aa,Cr,show(5:Int)+(v:Int)=((5+v:Nat):Int) by omega];obtain⟨d0,b1,b2,b3,b4,b5⟩:=qM (n:=5+v) (by omega);rw[b1];simp only[Aa];obtain⟨a,h1,d,cc,r,h2,h3,h4,h5,h6⟩:=AL (body:=λs:Int×List Block×List Vol×List Bz×Int×Int×Int×Int×List Int×Int×Int=>It s.1 s.2.1 s.2.2.1 s.2.2.2.1 s.2.2.2.2.1 s.2.2.2.2.2.1 s.2.2.2.2.2.2.1 s.2.2.2.2.2.2.2.1 s.2.2.2.2.2.2.2.2.1 s.2.2.2.2.2.2.2.2.2.1 s.2.2.2.2.2.2.2.2.2.2)
  (λ(o:Az×BP) i=>(i,o.1.Flash.Blocks,o.1.Store.Vols,o.1.Store.Arena.Knots,o.1.Store.Next,o.1.Seq,o.1.Tx,o.1.Base,o.2.b_,o.2.i_,o.2.h_)) 12
  (λi o=>Mf o.2/\(∃r,HA o.1 r/\ABI o.1 r/\DP r<=1+21*i/\CU r<=1+4010*i/\Er o.1.Flash (20*i))/\o.1.Store.Next<=1+i)
  (λa=>∃d cc r,a=(d.Flash.Blocks,d.Store.Vols,d.Store.Arena.Knots,d.Store.Next,d.Seq,d.Tx,d.Base,BP.b_ cc,cc.i_,cc.h_)/\Mf cc/\HA d r/\d.Store.Next<=13/\Ext d r)
  (λo i hi hs=>by
   obtain⟨e,cu⟩:=o;obtain⟨k1,⟨r,k2,kx,kt,kq,kw⟩,k3⟩:=hs;simp only at k1 k2 k3 kx kw;have f:Az.mk (Flash.mk e.Flash.Blocks) (Store.mk e.Store.Vols (Arena.mk e.Store.Arena.Knots) e.Store.Next) e.Seq e.Tx e.Base=e:=rfl;simp only[It];rw[f];obtain⟨w,c3,w1,w2,w3⟩:=NZ (NL k1) (n:=12) (by omega);rw[show((12:Nat):Int)=12 from rfl]at w1;rw[w1];simp only[Aa];by_cases b:(i:Int)<(w:Int)
   ·rw[Ad b,Ae];obtain⟨q,c4,q1,q2,q3⟩:=ABC w2 e k2.dev.st.len λv hv=>kx.ids (v.Id,Fi e.Store.Arena.Knots v.Root)<|AA.2 ⟨v,hv,rfl⟩;rw[q1];simp only[Aa];obtain⟨d',steps,t,no,r',s1,s2,s3,s4,s5,s6,s7⟩:=ACW k2 (λx hx=>by have:=kw x hx;omega) q;rw[s1,Aa,ad1];exact .inl ⟨(d',c4),rfl,q2,⟨r',s2,kx.step q3 (by omega) s5 s6,by have:=s5.2.1;omega,by have:=s5.2.2;omega,λx hx=>by have:=s7 _ kw x hx;omega⟩,by grind⟩
   rw[Ah b,Ac]
   exact .inr ⟨_,rfl,e,c3,r,rfl,w2,k2,by omega,⟨kx,by omega,by omega,λx hx=>by have:=kw x hx;omega⟩⟩)
  (λo hs=>by
   obtain⟨e,cu⟩:=o;obtain⟨k1,⟨r,k2,kx,kt,kq,kw⟩,k3⟩:=hs;simp only at k1 k2 k3 kx kw;simp only[It];obtain⟨w,c3,w1,w2,w3⟩:=NZ (NL k1) (n:=12) (by omega);rw[show((12:Nat):Int)=12 from rfl]at w1;rw[show((12:Nat):Int)=12 from rfl,w1,Aa,cF]
   exact⟨_,rfl,e,c3,r,rfl,w2,k2,by omega,⟨kx,by omega,by omega,λx hx=>by have:=kw x hx;omega⟩⟩) (s:=(d0,c1)) ⟨a2,⟨[],b2,⟨λp hp=>(by grind),λy hy=>by cases hy⟩,by simp[DP],by simp[CU],λx hx=>by grind⟩,by grind⟩
 rw[h1,h2];exact⟨d,cc,r,rfl,h3,h4,h5,h6⟩
theorem mS (h:code.length<=1048576):∃d r,N3 code=some d/\HA d r/\d.Store.Next<=13/\Ext d r:=by
 unfold N3;obtain⟨c,c1,c2⟩:=ABD h;obtain⟨d,c',r,d1,d2,d3,d4⟩:=XX c2
 grind
def rD (a:List Shelf):Prop:=a.length<=1048576/\∀x∈a,x.Texts.length<=1048576
theorem SL (a b:List Shelf) (h:rD a):ADu (Kp a b) a b:=by
 have n:=h.1;by_cases hl:a.length=b.length
 ·have f:(ln a !=ln b)=false:=by simp[ln,hl]
  have j:∀(i:Nat) (x y:Shelf),a[i]?=some x->b[i]?=some y->x.Texts.length=y.Texts.length->x.Texts.length<=1048576->
    Ao (λs:Int=>Hc a b (i:Int) x s) 0=some (bif(x.Texts.zip y.Texts).all (λz=>seq z.1 z.2)then .inl ()else .inr<|.inr<|.inr false):=by
   intro i x y hx hy l hM;have:=O0 (body:=λs:Int=>Hc a b (i:Int) x s) (λ(_:Unit) i=>i) (x.Texts.zip y.Texts) (λ_ _ z=>bif seq z.1 z.2 then .inl ()else .inr<|.inr<|.inr<|.inr false) (λ_=> .inl ()) (λ_ _=>True)
    (λs k z hz _=>by
     refine⟨?_,λ_ _=>trivial⟩;obtain⟨z1,z2⟩:=z;obtain⟨c,hz'⟩:=Af.1 hz;rw[List.getElem_zip]at hz'
     injection hz' with e1 e2
     have k1:k<x.Texts.length:=by simp at c;omega
     have k2:k<y.Texts.length:=by simp at c;omega
     simp only[Hc,FV,Ad k1,Ae,Au,hx,hy,Aa,Ab k1,Ab k2,e1,e2];cases seq z1 z2
     ·rfl
     simp only[Ag,Ac,Ae]
     rw[ad1])
    (λs _=>by
     have:(x.Texts.zip y.Texts).length=x.Texts.length:=by simp[l]
     rw[this]
     simp only[Hc,DI]) (s:=()) trivial
   rw[this];have g:∀(m:List (ByteArray×ByteArray)) (i:Nat),O9 (λ(_:Unit) _ z=>bif seq z.1 z.2 then .inl ()else .inr<|.inr<|.inr<|.inr false) (λ_=>(.inl ():Unit⊕Int⊕Unit⊕Bool)) m i ()=bif m.all (λz=>seq z.1 z.2)then .inl ()else .inr (.inr<|.inr false):=by
    intro m
    induction m with
    |nil=>intro i;rfl
    |cons z m ih=>
     intro i;simp only[O9,EV]
     cases seq z.1 z.2 with
     |false=>rfl
     |true=>simp only[Ae,Ii];exact ih _
   rw[g]
  have hp:∀(x y:Shelf),(bif x.Vol !=y.Vol then false else bif x.Texts.length !=y.Texts.length then false else(x.Texts.zip y.Texts).all λz=>seq z.1 z.2)=true↔x=y:=by
   intro x y
   cases x with
   |mk av at_=>
   cases y with
   |mk bv bt=>
   by_cases hv:av=bv
   ·subst hv;by_cases hl:at_.length=bt.length
    ·simp only[Vn,Ac,hl,Shelf.mk.injEq,true_and];exact YD (p:=seq) (λx _ y _=>by rw[JT,A4]) hl
    have:(at_.length !=bt.length)=true:=by simpa using hl
    exact iff_of_false (by simp[this]) λe=>hl (by injection e with _ e;rw[e])
   have:(av !=bv)=true:=by simpa using hv
   simp[this,hv]
  have:=mA (body:=λs:Int=>IG a b s) a b (λx y=>bif x.Vol !=y.Vol then false else bif x.Texts.length !=y.Texts.length then false else(x.Texts.zip y.Texts).all λz=>seq z.1 z.2) hl (by omega)
   (λi x y hx hy=>by
    have c:=(Af.1 hx).1;have hz:=h.2 x<|Ar hx;simp only[IG,DV c,Au,hx,hy,Aa];by_cases hv:x.Vol=y.Vol
    ·have e1:(x.Vol !=y.Vol)=false:=by simp[hv]
     simp only[e1,Ac,Aa];by_cases d:x.Texts.length=y.Texts.length
     ·have e2:(ln x.Texts !=ln y.Texts)=false:=by simp[ln,d]
      have e3:(x.Texts.length !=y.Texts.length)=false:=by simp[d]
      simp only[e2,e3,Ac];rw[j i x y hx hy d<|by omega]
      cases(x.Texts.zip y.Texts).all (λz=>seq z.1 z.2)with
      |false=>rfl
      |true=>
       simp only[Ae,Aa,Br];rw[ad1]
     have e2:(ln x.Texts !=ln y.Texts)=true:=by simp[ln];omega
     have e3:(x.Texts.length !=y.Texts.length)=true:=by simpa using d
     simp only[e2,e3,Ae,Ac]
    have e1:(x.Vol !=y.Vol)=true:=by simpa using hv
    simp only[e1,Ae,Aa,Ac])
   (by simp only[IG,DI])
  refine⟨(a.zip b).all λz=>bif z.1.Vol !=z.2.Vol then false else bif z.1.Texts.length !=z.2.Texts.length then false else(z.1.Texts.zip z.2.Texts).all λz=>seq z.1 z.2,?_,YD (p:=λx y=>bif x.Vol !=y.Vol then false else bif x.Texts.length !=y.Texts.length then false else(x.Texts.zip y.Texts).all λz=>seq z.1 z.2) (λx _ y _=>hp x y) hl⟩;unfold Kp;rw[f,Ac,this];cases(a.zip b).all _<;>rfl
 have f:(ln a !=ln b)=true:=by simp[ln];omega
 unfold Kp;rw[f,Ae];exact⟨false,rfl,by simp;intro e;exact hl<|by rw[e]⟩
theorem iR (d:Az) (h:eY d.Flash r) (hs:HU d.Store<=1048576) (id:Int) (k:Nat) (hk:k<16):∃u ok,FG r d.Store id (k:Int)=some (u,ok)/\Qh d id (k:Int)=some (u,ok):=by
 unfold HU WH at hs;have hl:=Qz (z:=Ue) (l:=d.Store.Arena.Knots);have ha:Nk d.Store.Arena:=by unfold Nk;omega
 unfold FG Qh;obtain⟨v,h1,h2,h3⟩:=Vx d.Store id (by omega);rw[h1,h2];simp only[Aa]
 cases decide (v<0)with
 |true=>grind
 |false=>
  simp only[Ac];obtain⟨c,c1,c2⟩:=uC d.Store (by omega) ha id k hk;rw[c1,c2];simp only[Aa]
  cases c==0 with
  |true=>grind
  |false=>
   simp only[Ac];obtain⟨u,ok,t1,t2⟩:=RE h c
   grind
theorem X6 (d:Az) (hz:Mh d<=1048576):∃m,CI d=some m/\Ni d=some m:=by
 unfold Mh at hz;obtain⟨r,hr⟩:=Zh d.Flash (by omega);have hs:HU d.Store<=1048576:=by omega
 have hv:d.Store.Vols.length<=1048576:=by unfold HU at hs;omega
 unfold CI Ni;rw[hr.s];simp only[Aa];obtain⟨m,h1,h2,_⟩:=MJ (body:=λs:List Shelf×Int=>Dm d r s.1 s.2) (body':=λs:List Shelf×Int=>H8 d s.1 s.2) (λ(o:List Shelf) i=>(o,i)) (λ(o:List Shelf) i=>(o,i)) d.Store.Vols.length (λi o=>o.length=i) (λ_=>True)
  (λo i hi ho=>by
   have hg:d.Store.Vols[i]?=some d.Store.Vols[i]:=Ab hi;simp only[Dm,H8,FV,Ad hi,Ae,Au,hg,Aa];obtain⟨l,q1,q2,q3⟩:=MJ (body:=λs:Int×List ByteArray=>Ey d r d.Store.Vols[i] s.1 s.2) (body':=λs:Int×List ByteArray=>JX d d.Store.Vols[i] s.1 s.2) (λ(o:List ByteArray) k=>(k,o)) (λ(o:List ByteArray) k=>(k,o)) 16 (λk o=>o.length=k) (λ_=>True)
    (λu k hk hu=>by
     obtain⟨t,ok,g1,g2⟩:=iR d hr hs d.Store.Vols[i].Id k hk;simp only[Ey,JX];rw[Ad (by omega:(k:Int)<16),Ae,Ae,g1,g2,Aa,BD (by grind),ad1]
     exact .inl ⟨_,rfl,rfl,by grind⟩)
    (λu hu=>⟨u,by rfl,by rfl,trivial⟩) (s:=[]) rfl
   rw[q1,q2,Aa,BD (by grind),ad1]
   grind)
  (λo ho=>⟨o,by simp only[Dm,FV,Dw,EW,Ac],by simp only[H8,FV,Dw,EW,Ac],trivial⟩) (s:=[]) rfl
 grind
theorem zB (h:C9 s):HU s<=1048576:=by
 have h1:=h.len;have h2:=h.small;have a:∀l:List Bz,(∀k∈l,k.Kids.length=4)->(l.map Ue).sum=4*l.length:=by
  intro l
  induction l with
  |nil=>intro _;rfl
  |cons k l ih=>
   intro hl;rw[C6,Nm,ih (λx hx=>hl x<|by simp[hx]),AB];have:=hl k (by simp);unfold Ue;omega
 have:=a s.Arena.Knots (λk hk=>by
  obtain⟨i,hi,rfl⟩:=A5 hk;have:=(GH.1 h.ar i hi).1;rw[O1 hi]at this
  exact this)
 unfold HU WH zl;omega
theorem sP (h:HA d r) (vol:Int) (hk:k<16):Qh d vol (k:Int)=FG r d.Store vol (k:Int):=by
 obtain⟨u,ok,h1,h2⟩:=iR d h.dev.scan (zB h.dev.st) vol k hk;rw[h1,h2]
theorem bD (h:C9 s) {live:List Int} (hl:Fs s=some live):JE s=some live:=by
 obtain⟨l,e1,e2,_,_⟩:=Qu s (by have:=h.len;omega)<|mC h
 grind
theorem qF (h:HJ d r) {live:List Int} (hl:Fs d.Store=some live) (l2:asc live) (l4:live.length<=16777216) (a b:Int):ZK d.Flash d.Store a b=some ((cn r.length (λj=>(C7 r live a)[j]?.getD false&&bk r b j):Nat):Int)/\H7 d.Flash d.Store a b=some ((cn r.length (λj=>(C7 r live a)[j]?.getD false&&bk r b j):Nat):Int):=by
 obtain⟨n,n1,n2⟩:=Yx h.scan d.Store (bD h.st hl) l2 l4 a b;have c:=aB r (C7 r live a) b h.scan.len<|Km _ _ _;have e:C7 r live a=live.foldl (d9 r) (r.map<|Du a):=rfl;rw[e]at c;rw[n1]at c
 injection c with c
 refine⟨?_,by rw[n2,c];rfl⟩;unfold ZK;rw[h.scan.s,hl];simp only[Aa];rw[N8 r live _ h.scan.len l4]
 grind
theorem ACH (h:HJ d r) (hy:y∈r):J8 y.Page:=by
 obtain⟨b,x,g1,g2,_,g3⟩:=h.scan.page y hy;obtain⟨_,k1⟩:=Cz g1;obtain⟨_,k2⟩:=Cz g2;have hx:=h.fl.text b (Ar k1) x<|Ar k2;obtain⟨p,ok,m1,_,_,m2⟩:=IN x.Text (by omega);rw[g3]at m1
 injection m1 with m1
 injection m1 with m1 m3
 obtain⟨v,q1,q2⟩:=UG p
 grind
theorem AFc (hc:JZ g) (ss:List AU) (hs:ss.length<=1000) (p:Page) (b:Int):
  (∃s g',DQ g ss p=some (g',ss++ [s],true)/\JZ g'/\CV (Gp.mk g ss) p b=some (if(s.Block==b)=true then(false,Gp.mk g ss)else(true,Gp.mk g' (ss++ [s]))))\/
  (∃g' st,DQ g ss p=some (g',st,false)/\∃w,CV (Gp.mk g ss) p b=some (false,w)):=by
 obtain⟨t,ok,t1,t2⟩:=Yt p;obtain⟨bb,l,room,p1,p2,p3⟩:=cX g hc;unfold DQ CV;rw[t1,t2,p1,p2];simp only[Aa]
 cases ok with
 |false=>simp
 |true=>
  cases room with
  |false=>simp
  |true=>
   obtain⟨g2,v,g1,g3,g4⟩:=X8 g (AU.mk 1 bb l t) hc;have a:JZ g2:=by
    rcases g4 with⟨_,rfl⟩|⟨_,g4⟩
    ·exact hc
    exact g4.cap
   simp only[Ag,Ac,Aa,g1,g3];rw[BD<|by grind]
   cases v with
   |true=>
    refine .inl ⟨AU.mk 1 bb l t,g2,rfl,a,?_⟩
    cases hb:(bb==b)with
    |true=>rfl
    |false=>rfl
   |false=>
    refine .inr ⟨g2,_,rfl,?_⟩
    cases hb:(bb==b)with
    |true=>grind
    |false=>simp
abbrev MvS:=Int×List AU×List Block
def d8 (sq:Int) (y:Aq):Page:=Page.mk 1 sq y.Page.Tx 0 1 y.Page.Text
noncomputable def mv (b:Int):List Aq->MvS->Option (Option MvS)
 |[],o=>some (some o)
 |y::ys,o=>(DQ (Flash.mk o.2.2) o.2.1 (d8 o.1 y)).bind λv=>if v.2.2=true then(match v.2.1.getLast? with
  |some s=>if(s.Block==b)=true then some none else mv b ys (o.1+1,v.2.1,v.1.Blocks)
  |none=>some none)else some none
theorem AAK (b:Int):∀(xs ys:List Aq) (o:MvS),mv b (xs++ys) o=(mv b xs o).bind λq=>match q with
  |some o'=>mv b ys o'
  |none=>some none
 |[],ys,o=>rfl
 |x::xs,ys,o=>by
  simp only[BB,mv]
  cases DQ (Flash.mk o.2.2) o.2.1 (d8 o.1 x)with
  |none=>rfl
  |some v=>
   simp only[Aa];split
   ·split
    ·split
     ·rfl
     exact AAK b xs ys _
    rfl
   rfl
def MvI (m:Nat) (o:MvS):Prop:=JZ (Flash.mk o.2.2)/\o.2.1.length<=m/\0<=o.1/\o.1<=1000000001+m
theorem sD {b:Int} {o:MvS} (h:MvI m o) (hm:m<=1000):
  (∃s g',DQ (Flash.mk o.2.2) o.2.1 (d8 o.1 y)=some (g',o.2.1++ [s],true)/\(s.Block==b)=false/\(∀ys,mv b (y::ys) o=mv b ys (o.1+1,o.2.1++ [s],g'.Blocks))/\MvI (m+1) (o.1+1,o.2.1++ [s],g'.Blocks)/\CV (Gp.mk (Flash.mk o.2.2) o.2.1) (d8 o.1 y) b=some (true,Gp.mk g' (o.2.1++ [s])))\/
  ((∀ys,mv b (y::ys) o=some none)/\(∃w,CV (Gp.mk (Flash.mk o.2.2) o.2.1) (d8 o.1 y) b=some (false,w))/\((∃s g',DQ (Flash.mk o.2.2) o.2.1 (d8 o.1 y)=some (g',o.2.1++ [s],true)/\(s.Block==b)=true)\/∃g' st,DQ (Flash.mk o.2.2) o.2.1 (d8 o.1 y)=some (g',st,false))):=by
 obtain⟨h1,h2,h3,h4⟩:=h
 rcases AFc h1 o.2.1 (by omega) (d8 o.1 y) b with⟨s,g',a1,a2,a3⟩|⟨g',st,a1,w,a2⟩
 ·cases hb:(s.Block==b)with
  |true=>
   rw[hb]at a3;exact .inr ⟨λys=>by simp only[mv,a1,Aa,Ce,List.getLast?_concat,hb],⟨_,a3⟩,.inl ⟨s,g',a1,hb⟩⟩
  |false=>
   rw[hb]at a3;refine .inl ⟨s,g',a1,hb,λys=>by simp only[mv,a1,Aa,Ce,List.getLast?_concat,hb,CQ,FU],⟨a2,?_,?_,?_⟩,by rw[a3];rfl⟩
   ·grind
   ·omega
   omega
 exact .inr ⟨λys=>by simp[mv,a1],⟨w,a2⟩,.inr ⟨g',st,a1⟩⟩
theorem AAJ {b:Int}:∀(xs:List Aq) {m:Nat} {o:MvS},MvI m o->m+xs.length<=1000->∃v,mv b xs o=some v/\∀o',v=some o'->MvI (m+xs.length) o'
 |[],m,o,h,_=>⟨some o,rfl,λo' e=>by grind⟩
 |x::xs,m,o,h,hm=>by
  rw[AB]at hm
  rcases sD (b:=b) (y:=x) h (by omega)with⟨s,g',a1,a2,a3,a4,a5⟩|⟨a1,_⟩
  ·obtain⟨v,v1,v2⟩:=AAJ xs a4 (by omega);exact⟨v,by rw[a3,v1],λo' e=>by grind⟩
  exact⟨none,a1 xs,λo' e=>by cases e⟩
def L3 (b i:Int) (nd:List Bool) (r:List Aq):List Aq:=((nd.zip r).filter λq=>q.1&&(q.2.Block==b)&&(q.2.Leaf==i)).map Prod.snd
theorem uP (hr:r.length<=40) (hk:∀y∈r,y.Page.Kind=1->y.Page.Count=1/\y.Page.Part=0) (d:nd.length=r.length) (hn:∀(j:Nat) y,r[j]?=some y->nd[j]?=some true->y.Page.Kind=1) (b i:Int):∀(n j:Nat),j+n=r.length->∀{m:Nat} {o:MvS},MvI m o->m+n<=1000->
  Ao (λs:List AU×Int×Int×List Block=>EO b r nd i s.1 s.2.1 s.2.2.1 s.2.2.2) (o.2.1,o.1,(j:Int),o.2.2)=(mv b (L3 b i (nd.drop j) (r.drop j)) o).map λq=>match q with
   |some o'=> .inl (o'.2.1,o'.1,o'.2.2)
   |none=> .inr (.inr (.inr ([],false)))
 |0,j,hj,m,o,ho,hm=>by
  rw[Aw];simp only[EO,FV];rw[cF,List.drop_of_length_le (by omega),List.drop_of_length_le (by omega)];rfl
 |n+1,j,hj,m,o,ho,hm=>by
  have a:j<r.length:=by omega
  have hx:=Ab a;have c:=Ab (show j<nd.length by omega);have hd:nd.drop j=nd[j]::nd.drop (j+1):=AM (by omega);have e:r.drop j=r[j]::r.drop (j+1):=AM a
  have go:∀{m':Nat} {o':MvS},MvI m' o'->m'+n<=1000->_:=λ{m' o'} h1 h2=>uP hr hk d hn b i n (j+1) (by omega) (m:=m') (o:=o') h1 h2
  rw[Aw];simp only[EO,DV a,Au,hx,c,Aa];rw[ad1,hd,e];have es:L3 b i (nd[j]::nd.drop (j+1)) (r[j]::r.drop (j+1))=if(nd[j]&&(r[j].Block==b)&&(r[j].Leaf==i))=true then r[j]::L3 b i (nd.drop<|j+1) (r.drop<|j+1)else L3 b i (nd.drop<|j+1) (r.drop<|j+1):=by
   simp only[L3,List.zip_cons_cons,List.filter_cons];split<;>simp
  rw[es]
  cases f:nd[j]with
  |false=>
   simp only[AQ,Ae,Aa,Bool.false_and,CQ,FU];exact go ho<|by omega
  |true=>
   simp only[Ag,Ac,Ii]
   cases hb:(r[j].Block==b)with
   |false=>
    simp only[bne,hb,AQ,Ae,Aa,Bool.false_and,CQ,FU];exact go ho<|by omega
   |true=>
    simp only[bne,hb,Ag,Ac,Aa,Ii]
    cases g:(r[j].Leaf==i)with
    |false=>
     simp only[AQ,Ae,CQ,FU];exact go ho<|by omega
    |true=>
     simp only[Ag,Ac,Ce];have h1:=hn j r[j] hx (by rw[c,f]);obtain⟨h2,h3⟩:=hk r[j] (A0 a) h1;have ep:Page.mk r[j].Page.Kind o.1 r[j].Page.Tx r[j].Page.Part r[j].Page.Count r[j].Page.Text=d8 o.1 r[j]:=by rw[h1,h2,h3];rfl
     rw[ep];obtain⟨c1,c2,c3,c4⟩:=ho
     rcases sD (b:=b) (y:=r[j]) ⟨c1,c2,c3,c4⟩ (by omega)with⟨s,g',a1,a2,a3,a4,_⟩|⟨a1,_,⟨s,g',a2,a3⟩|⟨g',st,a2⟩⟩
     ·rw[a1,a3];simp only[Aa,Ag,Ac];rw[Bv,Ak,Bg,Co,show((o.2.1.length+1:Nat):Int)-1=(o.2.1.length:Int) by omega,F9];simp only[Aa,a2,Ac];rw[Cr];exact go a4<|by omega
     ·rw[a2,a1];simp only[Aa,Ag,Ac];rw[Bv,Ak,Bg,Co,show((o.2.1.length+1:Nat):Int)-1=(o.2.1.length:Int) by omega,F9]
      grind
     grind
theorem Zk (k:IntKind) (n:Nat) (h:n<=12) (hk:k= .u8\/k= .u64):k.wrap (n:Int)=(n:Int):=by
 have:n=0\/n=1\/n=2\/n=3\/n=4\/n=5\/n=6\/n=7\/n=8\/n=9\/n=10\/n=11\/n=12:=by omega
 rcases hk with rfl|rfl<;>rcases this with rfl|rfl|rfl|rfl|rfl|rfl|rfl|rfl|rfl|rfl|rfl|rfl|rfl<;>rfl
set_option maxRecDepth 20000 in
theorem eV (n:Nat) (h:n<=12):∃v,Xd (IntKind.u64.wrap (n:Int))=some v:=by
 rw[Zk _ n h<|.inr rfl];unfold Xd aM;generalize hT:(bs _)=T;have a:13<=(L T).length:=by rw[<-hT,EU];decide
 rw[cF,Aa,cF,Aa,cF,Aa,Zk _ n h<|.inl rfl,Ft (i:=n) _<|by omega];exact⟨_,rfl⟩
theorem fT {γ:Type} (a:γ->Int) (l:List γ) (hl:l.length<=12):∃r,Lz (NV a) l=some r/\srt a r/\BT a l r:=by
 obtain⟨v,hv⟩:=eV l.length hl;obtain⟨r,h1,h2,h3⟩:=Jc a [] l [] (by simp;omega);refine⟨r,?_,h2,h3⟩;unfold Lz;rw[Bv,hv];simp only[Aa];unfold Fc;rw[Aw];simp only[Gr];rw[Co,cT]
 grind
def mB (l:List Aq):Prop:=l.Pairwise λx y=>x.Page.Tx≠y.Page.Tx
theorem bP {l:List Aq} {p:Aq->Bool} (hl:mB l) (hu:∀x∈l,∀y∈l,p x=true->p y=true->x=y) (hy:y∈l) (hp:p y=true):l.filter p=[y]:=by
 induction l with
 |nil=>cases hy
 |cons x l ih=>
  have h1:=Cy.1 hl
  have hu':∀a∈l,∀c∈l,p a=true->p c=true->a=c:=λa ha c hc=>hu a (Lo _ ha) c<|Lo _ hc
  cases hx:p x with
  |true=>
   have e:x=y:=hu x (by simp) y hy hx hp;subst e;rw[DB hx,Bh.2]
   grind
  |false=>
   rw[E5<|by simp[hx]]
   rcases DO.1 hy with rfl|hy
   ·grind
   exact ih h1.2 hu' hy
theorem z7 {c:List Aq} (ha:mB a) (hc:mB c) (hm:∀y,y∈a↔y∈c) (hu:∀x∈a,∀y∈a,x.Leaf=y.Leaf->x=y):BT BE a c:=by
 intro k
 have e1:∀x,(BE x==k)=true↔x.Leaf=k:=λx=>by rw[Da];rfl
 by_cases h:∃y∈a,y.Leaf=k
 ·obtain⟨y,y1,y2⟩:=h
  rw[bP ha (λx hx z hz p q=>hu x hx z hz<|by grind) y1<|(e1 y).2 y2,
   bP hc (λx hx z hz p q=>hu x ((hm x).2 hx) z ((hm z).2 hz)<|by grind) ((hm y).1 y1) ((e1 y).2 y2)]
 rw[Bh.2 λx hx p=>h ⟨x,hx,(e1 x).1 p⟩,Bh.2 λx hx p=>h ⟨x,(hm x).2 hx,(e1 x).1 p⟩]
def Ib (r:List Aq) (b:Int) (live:List Int):List Aq:=live.filterMap λc=>match PJ c r r.length with
 |some j=>if bk r b j=true then r[j]? else none
 |none=>none
theorem WO (r:List Aq) (b:Int) (a:List Int) (c:Int):Ib r b (a++ [c])=Ib r b a++Ib r b [c]:=by unfold Ib;grind
theorem AB3 (h:eY f r) {live:List Int} (a:JE s=some live) (hl:live.length<=16777216) (b:Int):T5 f s b=some (Ib r b live):=by
 unfold T5;rw[a];simp only[Aa];obtain⟨u,h1,h2⟩:=AL (body:=λq:List Aq×Int=>H3 f b live q.1 q.2) (λ(u:List Aq) i=>(u,i)) live.length (λi u=>u=Ib r b (live.take i)) (λu=>u=Ib r b live)
  (λu i hi hu=>by
   have hg:live[i]?=some live[i]:=Ab hi;obtain⟨o,o1,o2⟩:=Xt f r h.i h.len h.srt live[i];have ho:o=PJ live[i] r r.length:=Xh o2<|PI _ _ _<|Ax _;have d:u.length<=i:=by
    rw[hu];have:=List.length_filterMap_le (λc=>match PJ c r r.length with|some j=>if bk r b j=true then r[j]? else none|none=>none)<|live.take i;rw[B4]at this;unfold Ib;omega
   have et:live.take (i+1)=live.take i++ [live[i]]:=by simp
   refine .inl ?_;simp only[H3,DV hi,Au,hg,Aa,o1]
   cases ht:PJ live[i] r r.length with
   |none=>
    rw[ht]at ho;subst ho;simp only[FJ,Ac,Aa];rw[ad1];refine⟨_,rfl,?_⟩;rw[et,WO,<-hu];simp[Ib,ht]
   |some j=>
    rw[ht]at ho;subst ho;obtain⟨hj,_⟩:=Oc (Ax _) ht;have hr:=Ab hj;simp only[TY,Ae,Aa,Lf]
    cases hb:bk r b j with
    |true=>
     have hb':((r[j]?.getD PA).Block==b)=true:=hb;rw[hb'];simp only[Ae];rw[BD (by grind),ad1];refine⟨_,rfl,?_⟩;rw[et,WO,<-hu];simp[Ib,ht,hb,hr]
    |false=>
     have hb':((r[j]?.getD PA).Block==b)=false:=hb;rw[hb'];simp only[Ac];rw[ad1];refine⟨_,rfl,?_⟩;rw[et,WO,<-hu]
     simp[Ib,ht,hb])
  (λu hu=>⟨u,by simp only[H3,DI],by grind⟩) (s:=[]) (by simp[Ib])
 rw[h1,h2];rfl
theorem Tl {b:Int} {live:List Int} (hy:y∈Ib r b live):∃c∈live,∃j,PJ c r r.length=some j/\r[j]?=some y/\y.Block=b/\y.Page.Kind=1/\y.Page.Tx=c:=by
 obtain⟨c,c1,c2⟩:=List.mem_filterMap.1 hy
 cases ht:PJ c r r.length with
 |none=>grind
 |some j=>
  rw[ht]at c2;simp only at c2;split at c2
  ·rename_i hb;obtain⟨_,z,z1,z2⟩:=Oc (Ax _) ht;rw[z1]at c2
   injection c2 with c2
   subst c2;simp only[bk,z1,AT,Da]at hb;simp only[Jb,Ai,Da]at z2
   grind
  cases c2
theorem fR (r:List Aq) (b:Int):∀{live:List Int},live.Nodup->mB (Ib r b live)
 |[],_=>List.Pairwise.nil
 |c::live,h=>by
  obtain⟨h1,h2⟩:=CY.1 h;have ih:=fR r b h2;unfold Ib;rw[List.filterMap_cons];split
  ·exact ih
  rename_i y hy;refine Cy.2 ⟨λz hz e=>?_,ih⟩;obtain⟨c',q1,j,q2,q3,q4,q5,q6⟩:=Tl (r:=r) (b:=b) (live:=live) hz
  obtain⟨c'',p1,j2,p2,p3,p4,p5,p6⟩:=Tl (r:=r) (b:=b) (live:=[c]) (y:=y) (by
   unfold Ib
   grind)
  grind
def PL (b:Int) (nd:List Bool) (r:List Aq):List Aq:=L3 b 0 nd r++(L3 b 1 nd r++(L3 b 2 nd r++L3 b 3 nd r))
theorem VG {b i:Int}:y∈L3 b i nd r↔(∃j:Nat,r[j]?=some y/\nd[j]?=some true)/\y.Block=b/\y.Leaf=i:=by
 unfold L3;simp only[AA,Be,Ai,Da];constructor
 ·rintro⟨⟨n,z⟩,⟨h1,⟨h2,h3⟩,h4⟩,rfl⟩;obtain⟨j,hj⟩:=List.getElem?_of_mem h1;rw[List.getElem?_zip_eq_some]at hj
  grind
 rintro⟨⟨j,h1,h2⟩,h3,h4⟩;exact⟨(true,y),⟨Ar<|List.getElem?_zip_eq_some.2 ⟨h2,h1⟩,⟨rfl,h3⟩,h4⟩,rfl⟩
theorem nF (hn:∀(j:Nat) y,r[j]?=some y->nd[j]?=some true->PJ y.Page.Tx r r.length=some j) (b i:Int):mB (L3 b i nd r):=by
 unfold L3 mB;rw[OM]
 have h0:(nd.zip r).Pairwise λp q=>p.1=true->q.1=true->p.2.Page.Tx≠q.2.Page.Tx:=by
  rw[CG];intro x y hx hy a p q e;have a1:=(List.getElem?_zip_eq_some (l₁:=nd) (l₂:=r)).1<|Ab hx;have a2:=(List.getElem?_zip_eq_some (l₁:=nd) (l₂:=r)).1<|Ab hy
  grind
 have h1:=h0.filter λq=>q.1&&(q.2.Block==b)&&(q.2.Leaf==i);refine(List.pairwise_iff_forall_sublist.2 λ{p q} hs=>?_)
 grind
def wJ (b:Int) (nd:List Bool) (r:List Aq):Nat->Nat->List Aq
 |0,_=>[]
 |n+1,i=>L3 b (i:Int) nd r++wJ b nd r n (i+1)
theorem zY (b i:Int) (nd:List Bool) (r:List Aq):(L3 b i nd r).length<=r.length:=by
 unfold L3
 grind
theorem uO (hr:r.length<=40) (hk:∀y∈r,y.Page.Kind=1->y.Page.Count=1/\y.Page.Part=0) (c:nd.length=r.length) (hn:∀(j:Nat) y,r[j]?=some y->nd[j]?=some true->y.Page.Kind=1) (b:Int):∀(n i:Nat),i+n=4->∀{m:Nat} {o:MvS},MvI m o->m+n*40<=1000->
  Ao (λs:List AU×Int×Int×List Block=>FL b r nd s.1 s.2.1 s.2.2.1 s.2.2.2) (o.2.1,o.1,(i:Int),o.2.2)=(mv b (wJ b nd r n i) o).map λq=>match q with
   |some o'=> .inl o'.2.1
   |none=> .inr ([],false)
 |0,i,hi,m,o,ho,hm=>by
  rw[Aw];simp only[FL];rw[cF];rfl
 |n+1,i,hi,m,o,ho,hm=>by
  rw[Aw];simp only[FL];rw[cT];have a:=uP hr hk c hn b (i:Int) r.length 0 (by omega) ho (by omega);simp only[List.drop_zero]at a;rw[show((0:Nat):Int)=0 from rfl]at a;rw[a];have d:=zY b (i:Int) nd r;obtain⟨v,v1,v2⟩:=AAJ (b:=b) (L3 b (i:Int) nd r) ho (by omega);have es:wJ b nd r (n+1) i=L3 b (i:Int) nd r++wJ b nd r n (i+1):=rfl;rw[es,AAK,v1]
  cases v with
  |none=>rfl
  |some o'=>
   simp only[By,Aa,Br];rw[ad1];exact uO hr hk c hn b n (i+1) (by omega) (v2 o' rfl)<|by omega
theorem vR (d:Az) (b:Int) (X:List Aq) (hX:X.length<=100) (hd:0<=d.Seq/\d.Seq<=1000000001):∀(n i:Nat),i+n=X.length->∀{m:Nat} {o:MvS},MvI m o->m+n<=1000->o.1=d.Seq+i->
  Ao (λs:Int×List Block×List AU=>II d b X s.1 s.2.1 s.2.2) ((i:Int),o.2.2,o.2.1)=(mv b (X.drop i) o).map λq=>match q with
   |some o'=> .inl (o'.2.2,o'.2.1)
   |none=> .inr ([],false)
 |0,i,hi,m,o,ho,hm,hs=>by
  rw[Aw];simp only[II,FV];rw[cF,List.drop_of_length_le (by omega)];rfl
 |n+1,i,hi,m,o,ho,hm,hs=>by
  have a:i<X.length:=by omega
  have hx:=Ab a;rw[Aw];simp only[II,DV a,Au,hx,Aa];rw[Cr,<-hs,AM a];have ep:Page.mk 1 o.1 X[i].Page.Tx 0 1 X[i].Page.Text=d8 o.1 X[i]:=rfl;rw[ep]
  rcases sD (b:=b) (y:=X[i]) ho (by omega)with⟨s,g',a1,a2,a3,a4,a5⟩|⟨a1,⟨w,a2⟩,_⟩
  ·rw[a5,a3];simp only[Aa,Ag,Ac];rw[ad1];exact vR d b X hX hd n (i+1) (by omega) a4 (by omega)<|by omega
  grind
theorem gF {x:Aq} (h:HJ d r) (hx:x∈r) (hy:y∈r) (hb:x.Block=y.Block) (hl:x.Leaf=y.Leaf):x=y:=by
 obtain⟨b,l,g1,g2,_,g3⟩:=h.scan.page x hx;obtain⟨b',l',k1,k2,_,k3⟩:=h.scan.page y hy;rw[hb,k1]at g1
 injection g1 with g1
 subst g1;rw[hl,k2]at g2
 injection g2 with g2
 subst g2;rw[k3]at g3
 injection g3 with g3
 injection g3 with g3 _
 cases x;cases y
 grind
theorem xJ (h:HJ d r) (hy:y∈r):0<=y.Leaf/\y.Leaf<4:=by
 obtain⟨b,l,g1,g2,_,g3⟩:=h.scan.page y hy;obtain⟨_,k1⟩:=Cz g1;obtain⟨q0,k2⟩:=Cz g2;have:=(h.fl.blk b<|Ar k1).four
 grind
theorem cY (h:HJ d r) (m:r.length<=40) {live:List Int} (l1:Fs d.Store=some live) (l2:asc live) (l3:∀x,x∈live↔DR (Bb d.Store) x) (l4:live.length<=16777216) (b:Int):
  ∃v,mv b (PL b (C7 r live 1000000001) r) (d.Seq,[],d.Flash.Blocks)=some v/\Hp d b=some (match v with|some o=>(o.2.1,true)|none=>([],false))/\MQ d b=some (match v with|some o=>(o.2.1,true)|none=>([],false))/\
  (PL b (C7 r live 1000000001) r).length=(Ib r b live).length/\(PL b (C7 r live 1000000001) r).length<=4/\∀y,y∈PL b (C7 r live 1000000001) r↔y∈Ib r b live:=by
 have n:=h.pages;have w:1<=d.Seq/\d.Seq<=1000000001:=by
  rw[h.seq];have h1:=Oj r;refine⟨h1.2.1,h1.2.2 _ (by omega) λy hy=>?_⟩;have:=(n.seq y hy).2;omega
 have hk:∀y∈r,y.Page.Kind=1->y.Page.Count=1/\y.Page.Part=0:=by
  intro y hy k1;obtain⟨_,_,_,c1,c2,_,c3⟩:=ACH h hy;omega
 have hn:∀(j:Nat) y,r[j]?=some y->(C7 r live 1000000001)[j]?=some true->y.Page.Kind=1:=λj y hy hj=>(aH h l3 hy hj).1
 have f:∀(j:Nat) y,r[j]?=some y->(C7 r live 1000000001)[j]?=some true->PJ y.Page.Tx r r.length=some j/\y.Page.Tx∈live:=by
  intro j y hy hj;rw[PZ r live _ hy]at hj
  injection hj with hj
  rw[CJ]at hj
  rcases hj with hj|hj
  ·simp only[Du,Ai,Da,A4]at hj;have:=(n.tx y<|Ar hy).2;omega
  rw[Dd]at hj;obtain⟨c,c1,c2⟩:=hj;have c2':PJ c r r.length=some j:=by simpa using c2
  obtain⟨_,z,z1,z2⟩:=Oc (Ax _) c2';rw[hy]at z1
  injection z1 with z1
  subst z1;simp only[Jb,Ai,Da]at z2
  grind
 have hm:∀y,y∈PL b (C7 r live 1000000001) r↔y∈Ib r b live:=by
  intro y;have e1:y∈PL b (C7 r live 1000000001) r↔(∃j:Nat,r[j]?=some y/\(C7 r live 1000000001)[j]?=some true)/\y.Block=b:=by
   unfold PL;simp only[Ap,VG];constructor
   ·grind
   rintro⟨⟨j,q1,q2⟩,q3⟩;have:=xJ h<|Ar q1
   grind
  rw[e1];constructor
  ·rintro⟨⟨j,q1,q2⟩,q3⟩;obtain⟨q4,q5⟩:=f j y q1 q2;refine List.mem_filterMap.2 ⟨y.Page.Tx,q5,?_⟩;rw[q4];simp[bk,q1,q3]
  intro hy;obtain⟨c,c1,j,c2,c3,c4,c5,c6⟩:=Tl hy;refine⟨⟨j,c3,?_⟩,c4⟩;rw[PZ r live _ c3,Aj,CJ]
  grind
 have p:∀y∈Ib r b live,y∈r/\y.Block=b:=λy hy=>by
  obtain⟨c,c1,j,c2,c3,c4,c5,c6⟩:=Tl hy
  grind
 have q:∀x∈Ib r b live,∀y∈Ib r b live,x.Leaf=y.Leaf->x=y:=λx hx y hy e=>gF h (p x hx).1 (p y hy).1 (by grind) e
 have t:∀i:Int,∀y∈L3 b i (C7 r live 1000000001) r,y∈r/\y.Block=b/\y.Leaf=i:=λi y hy=>by
  obtain⟨⟨j,q1,q2⟩,q3,q4⟩:=VG.1 hy
  grind
 have h5:∀i:Int,(L3 b i (C7 r live 1000000001) r).length<=1:=by
  intro i;have hd:=nF (λj y hy hj=>(f j y hy hj).1) b i
  rcases hc:L3 b i (C7 r live 1000000001) r with _|⟨x,_|⟨y,l⟩⟩
  ·exact Js 1
  ·exact Ax 1
  have hx:=t i x (by rw[hc];simp);have hy:=t i y (by rw[hc];simp);rw[hc]at hd;exact absurd (gF h hx.1 hy.1 (by rw[hx.2.1,hy.2.1])<|by rw[hx.2.2,hy.2.2]) λe=>(Cy.1 hd).1 y (by simp)<|by rw[e]
 have h0:(PL b (C7 r live 1000000001) r).length<=4:=by
  unfold PL
  grind
 have h2:mB (PL b (C7 r live 1000000001) r):=by
  have hd:∀i:Int,mB (L3 b i (C7 r live 1000000001) r):=λi=>nF (λj y hy hj=>(f j y hy hj).1) b i
  have cross:∀i k:Int,i≠k->∀x∈L3 b i (C7 r live 1000000001) r,∀y∈L3 b k (C7 r live 1000000001) r,x.Page.Tx≠y.Page.Tx:=by
   intro i k h3 x hx y hy e;obtain⟨⟨j,q1,q2⟩,q3,q4⟩:=VG.1 hx;obtain⟨⟨j',p1,p2⟩,p3,p4⟩:=VG.1 hy
   grind
  unfold PL mB;refine AR.2 ⟨hd 0,AR.2 ⟨hd 1,AR.2 ⟨hd 2,hd 3,cross 2 3<|by decide⟩,?_⟩,?_⟩
  ·grind
  intro x hx y hy
  rcases Ap.1 hy with hy|hy
  ·grind
  grind
 have a:BT BE (Ib r b live) (PL b (C7 r live 1000000001) r):=z7 (fR r b<|iN l2) h2 (λy=>(hm y).symm) q;have u:=a.len;have g:srt BE (PL b (C7 r live 1000000001) r):=by
  have hc:∀i:Int,srt BE (L3 b i (C7 r live 1000000001) r):=by
   intro i
   refine List.pairwise_of_forall_mem_list λx hx y hy=>?_
   show x.Leaf<=y.Leaf
   grind
  have cross:∀i k:Int,i<=k->∀x∈L3 b i (C7 r live 1000000001) r,∀y∈L3 b k (C7 r live 1000000001) r,BE x<=BE y:=by
   intro i k h3 x hx y hy;show x.Leaf<=y.Leaf
   grind
  unfold PL srt;refine AR.2 ⟨hc 0,AR.2 ⟨hc 1,AR.2 ⟨hc 2,hc 3,cross 2 3<|by decide⟩,?_⟩,?_⟩
  ·intro x hx y hy
   rcases Ap.1 hy with hy|hy
   ·exact cross 1 2 (by decide) x hx y hy
   exact cross 1 3 (by decide) x hx y hy
  intro x hx y hy
  rcases Ap.1 hy with hy|hy
  ·exact cross 0 1 (by decide) x hx y hy
  rcases Ap.1 hy with hy|hy
  ·exact cross 0 2 (by decide) x hx y hy
  exact cross 0 3 (by decide) x hx y hy
 have I0:MvI 0 (d.Seq,[],d.Flash.Blocks):=⟨h.fl.cap,Ax _,by omega,by omega⟩;obtain⟨v,v1,v2⟩:=AAJ (b:=b) (PL b (C7 r live 1000000001) r) I0 (by omega);refine⟨v,v1,?_,?_,u.symm,h0,hm⟩
 ·unfold Hp;rw[h.scan.s,l1];simp only[Aa];rw[N8 r live _ h.scan.len l4];simp only[Aa];have h4:live.foldl (d9 r) (r.map<|Du 1000000001)=C7 r live 1000000001:=rfl;rw[h4];have ho:=uO m hk (Km r live 1000000001) hn b 4 0 (by omega) I0 (by omega);have eF:wJ b (C7 r live 1000000001) r 4 0=PL b (C7 r live 1000000001) r:=by
   simp[wJ,PL]
  grind
 unfold MQ;rw[AB3 h.scan (bD h.st l1) l4 b];simp only[Aa];obtain⟨X,x1,x2,x3⟩:=fT BE (Ib r b live) (by omega);have hX:X=PL b (C7 r live 1000000001) r:=Og BE x2 g (λk=>by rw[x3 k,<-a k]);rw[x1,hX];simp only[Aa];have ho:=vR d b (PL b (C7 r live 1000000001) r) (by omega) ⟨by omega,w.2⟩ (PL b (C7 r live 1000000001) r).length 0 (by omega) I0 (by omega)<|by omega
 grind
theorem ABr (s:Store) (hv:s.Vols.length<=1048576) (id:Int):∃w,Dk s id=some w/\(w<0↔Le (Bb s) id=none):=by
 rcases Eb s hv id with⟨e,h⟩|⟨k,v,e,h1,h2,_⟩
 ·exact⟨_,e,⟨λ_=>LR.1 h,λ_=>by omega⟩⟩
 refine⟨_,e,⟨λhh=>by omega,λhh=>absurd h2<|LR.2 hh v<|Ar h1⟩⟩
theorem ABA (h:HJ d r) (hn:d.Store.Next<1000000000) (q:Qx):∃b text no,Fq d q=some (b,text,no)/\(b=[]\/∃x p,b=[x]/\Dr (Bb d.Store) d.Store.Next x=some p)/\(L text≠ []->q.Kind=1):=by
 have o:=h.st.len;have g:=h.st.nx;obtain⟨v,a1,a2⟩:=WT q
 have a:∀{P:Prop},L (bs [])≠ []->P:=λhh=>absurd (EU _) hh
 unfold Fq;rw[a1];simp only[Aa]
 cases v with
 |false=>exact⟨_,_,_,rfl,.inl rfl,a⟩
 |true=>
  have hq:=a2 rfl;simp only[Ag,Ac];have k:=hq.kind;obtain⟨w,hw,i⟩:=ABr d.Store (by omega) q.Vol;rw[hw];simp only[Aa];by_cases h34:q.Kind=3\/q.Kind=4
  ·have:(cond (q.Kind==3) (some true) (some<|q.Kind==4):Option Bool)=some true:=by grind
   rw[this];simp only[Aa,Ae];by_cases f:w<0
   ·rw[Ah (by omega:¬w>=0)];simp only[Ac];obtain⟨u,hu,s⟩:=ABr d.Store (by omega) q.Of;obtain⟨j2,l,m⟩:∃j2,(cond (q.Kind==4) ((Dk d.Store q.Of).bind λv3=>some<|decide<|v3<0) (some false):Option Bool)=some j2/\(j2=false->q.Kind=4->Le (Bb d.Store) q.Of≠none):=by grind
    rw[l];simp only[Aa]
    cases j2 with
    |true=>exact⟨_,_,_,rfl,.inl rfl,a⟩
    |false=>
     simp only[Ac];rw[Bv];by_cases j:(d.Store.Vols.length:Int)>=3
     ·rw[Ad j];exact⟨_,_,_,rfl,.inl rfl,a⟩
     rw[Ah j];refine⟨_,_,_,rfl,.inr ⟨_,(sK (Bb d.Store) q.Vol (if 0<q.Of then(Le (Bb d.Store) q.Of).getD Ud else Ud),d.Store.Next),rfl,?_⟩,a⟩;unfold Dr;rw[AH (by rw[ADI hq.vol hq.of_];simp),AH (by simp),AG rfl,AH];simp only[not_or];refine⟨?_,by rw[i.1 f];simp,by rw[IL];omega⟩;rintro⟨e1,e2⟩
     rcases h34 with e|e
     ·have:=hq.no (by omega);omega
     exact m rfl e e2
   rw[Ad (by omega:w>=0)];exact⟨_,_,_,rfl,.inl rfl,a⟩
  have:(cond (q.Kind==3) (some true) (some<|q.Kind==4):Option Bool)=some false:=by grind
  rw[this];simp only[Aa,Ac];by_cases f:w<0
  ·rw[Ah (by omega:¬w>=0)];exact⟨_,_,_,rfl,.inl rfl,a⟩
  rw[Ad (by omega:w>=0)]
  have hg:Le (Bb d.Store) q.Vol≠none:=λe=>f<|i.2 e
  have taken:∀x:C1,GL x=true->x.Kind≠1->x.Kind≠2->x.Vol=q.Vol->x.Chunk<1000000000->∃p,Dr (Bb d.Store) d.Store.Next x=some p:=by
   intro x x1 x2 x3 x4 x5;unfold Dr;have x6:¬(Le (Bb d.Store) x.Vol=none\/x.Chunk=1000000000):=by grind
   rw[AH (by rw[x1];simp),AH x2,AH x3,AH x6];split<;>exact⟨_,rfl⟩
  simp only[Ag,Ac]
  cases k1:(q.Kind==1)with
  |true=>
   simp only[Ae];have k1':q.Kind=1:=by simpa using k1
   obtain⟨live,l1,l2,l3,l4⟩:=GC h.st;obtain⟨c,f1,f2⟩:=RD h l4 q.Text;rw[l1,Aa,f1];simp only[Aa]
   rcases f2 with⟨rfl,f2⟩|⟨f2,f3⟩
   ·obtain⟨z,z1,z2,z3⟩:=pZ q.Text hq.text;rw[show((0:Int)==0)=true from rfl,z1];obtain⟨p,hp⟩:=taken (C1.mk 4 q.Vol q.Sector d.Store.Next) (AAk hq.vol (by have:=hq.sec;omega) ⟨g.1,g.2⟩) (by simp) (by simp) rfl hn;exact⟨_,_,_,rfl,.inr ⟨_,_,rfl,hp⟩,λ_=>k1'⟩
   have n:=(l3 c).1 f2;have t:=YT h.st n;rw[show(c==0)=false by grind];obtain⟨p,hp⟩:=taken (C1.mk 4 q.Vol q.Sector c) (AAk hq.vol (by have:=hq.sec;omega)<|by omega) (by simp) (by simp) rfl (by show c<_;omega);exact⟨_,_,_,rfl,.inr ⟨_,_,rfl,hp⟩,λ_=>k1'⟩
  |false=>
   simp only[Ac]
   cases k2:(q.Kind==2)with
   |true=>
    obtain⟨p,hp⟩:=taken (C1.mk 5 q.Vol q.Sector 0) (by
     have:=hq.vol;have:=hq.sec;unfold GL
     grind) (by simp) (by simp) rfl<|by grind
    exact⟨_,_,_,rfl,.inr ⟨_,_,rfl,hp⟩,a⟩
   |false=>
    simp only[Ac]
    cases k5:(q.Kind==5)with
    |true=>
     obtain⟨p,hp⟩:=taken (C1.mk 3 q.Vol 0 0) (by
      have:=hq.vol;unfold GL
      grind) (by simp) (by simp) rfl<|by grind
     exact⟨_,_,_,rfl,.inr ⟨_,_,rfl,hp⟩,a⟩
    |false=>exact⟨_,_,_,rfl,.inl rfl,a⟩
theorem zC (h:BA f):Ob f<=10000:=by
 have hl:∀l:List Leaf,(∀x∈l,lfP x)->(l.map PF).sum<=120*l.length:=by
  intro l
  induction l with
  |nil=>intro _;simp
  |cons x l ih=>
   intro hx;rw[C6,Nm,AB];have:=ih (λy hy=>hx y<|by simp[hy]);have h1:PF x<=120:=by
    have a:x.Text.size=(L x.Text).length:=by rfl
    unfold PF
    rcases hx x (by simp)with⟨_,e⟩|⟨_,_,e⟩|⟨_,e⟩
    ·rw[a,e];simp
    ·omega
    omega
   omega
 have hb:∀l:List Block,(∀b∈l,Lm b)->(l.map K2).sum<=500*l.length:=by
  intro l
  induction l with
  |nil=>intro _;simp
  |cons b l ih=>
   intro hx;rw[C6,Nm,AB];have:=ih (λy hy=>hx y<|by simp[hy]);have h1:=hx b (by simp);have h2:=hl b.Leaves h1.leaf;have h4:=h1.four;have hz:K2 b=b.Leaves.length+(b.Leaves.map PF).sum:=rfl;omega
 have:=hb f.Blocks h.blk;have hn:=h.n;unfold Ob zl;omega
theorem yU (h:code.length<=1048576):∃q,Tu code=some q/\ABK q:=by
 unfold Tu;obtain⟨c,c1,c2⟩:=ABD h;obtain⟨d,c',r,d1,d2,d3,_,d4⟩:=XX c2;obtain⟨q,c'',q1,q2,q3⟩:=ABC d2 d d3.dev.st.len λv hv=>d4.ids (v.Id,Fi d.Store.Arena.Knots v.Root)<|AA.2 ⟨v,hv,rfl⟩
 grind
theorem Ti (h:HJ d r):Mh d<=1048576:=by
 have h1:=zC h.fl;have h2:=h.st.len;have h3:=h.st.small;have a:∀l:List Bz,(∀k∈l,k.Kids.length=4)->(l.map Ue).sum=4*l.length:=by
  intro l
  induction l with
  |nil=>intro _;rfl
  |cons k l ih=>
   intro hl;rw[C6,Nm,ih (λx hx=>hl x<|by simp[hx]),AB];have:=hl k (by simp);unfold Ue;omega
 have h4:=a d.Store.Arena.Knots (λk hk=>by
  obtain⟨i,hi,rfl⟩:=A5 hk;have:=(GH.1 h.st.ar i hi).1;rw[O1 hi]at this
  exact this)
 have e1:HU d.Store=d.Store.Vols.length+(d.Store.Arena.Knots.length+(d.Store.Arena.Knots.map Ue).sum):=rfl;have e2:Mh d=Ob d.Flash+HU d.Store:=rfl;omega
theorem qQ (s:Store) (hv:s.Vols.length<=1048576) (ha:Nk s.Arena):∃l,LH s=some l/\Rt s=some l/\l.length<=1+17*s.Vols.length:=by
 unfold LH Rt;obtain⟨l,h1,h2,h3⟩:=HF (body:=λq:List C1×Int=>EH s q.1 q.2) (body':=λq:List C1×Int=>JH s q.1 q.2) (λ(l:List C1) i=>(l,i)) s.Vols.length (λi l=>l.length<=1+17*i) (λl=>l.length<=1+17*s.Vols.length)
  (λl i hi hl=>by
   have hg:s.Vols[i]?=some s.Vols[i]:=Ab hi;obtain⟨a,a1,a2,a3⟩:=OG s.Arena ha s.Vols[i].Root;have b:ap 32 l [C1.mk 2 s.Vols[i].Id 0 0]=some (l++ [C1.mk 2 s.Vols[i].Id 0 0]):=BD (by grind);simp only[EH,JH,DV hi,Au,hg,Aa,b,a1,a2];obtain⟨u,u1,u2,u3⟩:=HF (body:=λq:List C1×Int=>EG s (i:Int) a q.1 q.2) (body':=λq:List C1×Int=>HS s.Vols[i] a q.1 q.2) (λ(l:List C1) k=>(l,k)) a.length (λk o=>o.length<=l.length+1+k) (λo=>o.length<=l.length+17)
    (λo k hk ho=>by
     have c:a[k]?=some a[k]:=Ab hk;simp only[EG,HS,DV hk,Au,c,hg,Aa];refine⟨by first|rfl|trivial,?_⟩;rw[ad1]
     cases decide (a[k]>0)with
     |true=>
      simp only[Ae];rw[BD<|by grind]
      grind
     |false=>grind)
    (λo ho=>⟨by simp only[EG,HS,DI],o,by simp only[EG,DI],by omega⟩) (s:=l++ [C1.mk 2 s.Vols[i].Id 0 0]) (by simp)
   have u1':Ao (λq:List C1×Int=>EG s (i:Int) a q.1 q.2) (l++ [C1.mk 2 s.Vols[i].Id 0 0],0)=some u:=u1;have u2':Ao (λq:List C1×Int=>HS s.Vols[i] a q.1 q.2) (l++ [C1.mk 2 s.Vols[i].Id 0 0],0)=some u:=u2;rw[u1',u2',Aa,ad1]
   grind)
  (λl hl=>⟨by simp only[EH,JH,DI],l,by simp only[EH,DI],hl⟩) (s:=[C1.mk 1 0 s.Next 0]) (by simp)
 grind
theorem qP (h:HJ d r):∃st ok,MD d=some (st,ok)/\Pt d=some (st,ok)/\(ok=true->1<=st.length)/\st.length<=1048576:=by
 have hf:JZ d.Flash:=h.fl.cap;obtain⟨b,r1,r2,r3⟩:=qQ d.Store (by have:=h.st.len;omega)<|mC h.st;have hb:=h.st.vs;obtain⟨b1,b2⟩:=iK hb;have e:=VS h.st;rw[r1]at e
 injection e with e
 subst e;obtain⟨st,ok,w1,w2,w3⟩:=PC d hf (Li (Bb d.Store) d.Store.Next) (by omega)<|bs [];refine⟨st,ok,?_,?_,?_,by omega⟩
 ·unfold MD;grind
 ·unfold Pt;grind
 intro ho;subst ho
 rcases R9 h.fl h.seqs (Li (Bb d.Store) d.Store.Next) (by unfold Li;simp) b2 b1 (bs [])with w|⟨steps,T,g,c,q1,q2,q3,q4,q5,q6,q7,q8,q9⟩
 ·rw[w1]at w;cases w
 rw[w1]at q2
 injection q2 with q2
 injection q2 with q2 _
 subst q2;have a:=(FB q7).2;rw[Ak]at a;have f:(Ct (Jq d<|bs []) d.Tx T).length=T.length:=by unfold Ct;grind
 omega
theorem aS (x a b:Int):Ha x a b=some (decide (a<=x/\x<=b)):=by
 unfold Ha
 grind
theorem MV {l:List Int} (h:l.length<=1048576):I7 l=some l:=by
 unfold I7;rw[Ma<|by omega];rfl
theorem SI (a:Arena) (h:ABk a.Knots):I9 a=some a:=by
 unfold I9;have q:=S7 (body:=λs:Int×List Bz=>I8 a s.1 s.2) a.Knots (λk=>k)
  (λi x b hx ho=>by
   have hi:=(Af.1 hx).1;have hk:=h.2 x<|Ar hx;simp only[I8,DV hi,Au,hx,Aa];rw[MV hk];simp only[Aa];have:=h.1;rw[BD (by simp;omega),ad1]
   rfl)
  (λb=>by simp only[I8,DI])
 rw[q];simp
theorem O5 (s:Store) (h:ABk s.Arena.Knots) (hv:s.Vols.length<=1048576):Hr s=some s:=by
 unfold Hr;rw[Ma (by omega),SI _ h];rfl
theorem Ru (a:Arena) (ha:a.Knots.length<=1048576):Ji a=some (CP a.Knots):=by rw[WG,KH a ha]
theorem SD (a:Arena) (ha:a.Knots.length<=1048576) (r:Int):GZ a r=some (decide (0<=r/\r<(a.Knots.length:Int))&&!(B6 a.Knots r).Leaf):=by
 unfold GZ;rw[aS,Bv,Co];simp only[Aa];by_cases h:0<=r/\r<(a.Knots.length:Int)
 ·rw[Ad (by omega:0<=r/\r<=(a.Knots.length:Int)-1),Ad h,Ae,If h.1 h.2];simp
 grind
theorem oJ {a:Arena} {r:Int} (ha:a.Knots.length<=1048576) (hr:D7 a.Knots r=true):(cond (r !=(-1)) ((GZ a r).bind λv2=>some (!v2)) (some false):Option Bool)=some false:=by
 rcases BX hr with rfl|⟨h0,h1,hl⟩
 ·rfl
 rw[show(r !=(-1))=true by simp;omega,Ae,SD a ha,Ad ⟨h0,h1⟩,hl];rfl
theorem sQ {r:Int} {s:Nat} {n:Int} (a:Arena) (ha:a.Knots.length<=1048000) (hK:CP a.Knots=true) (hr:D7 a.Knots r=true) (hs:s<16) (hn:0<=n):
  YX a r (s:Int) n=some (Arena.mk (J6 a.Knots r s n),(a.Knots.length:Int)+1):=by
 unfold YX;rw[SI _ (Lh hK<|by omega),Ru a (by omega),aS,hK];simp only[Aa,Ag,Ac];rw[Ad (by omega:0<=(s:Int)/\(s:Int)<=15),Ah (by omega:¬n<0)];simp only[Ag,Ac,Aa];have hq:(cond (r !=(-1)) ((GZ a r).bind λv2=>cond (!v2) (some true)<|some false) (some false):Option Bool)=some false:=by
  rcases BX hr with rfl|⟨h0,h1,hl⟩
  ·rfl
  rw[show(r !=(-1))=true by simp;omega,Ae,SD a (by omega),Ad ⟨h0,h1⟩,hl];rfl
 rw[hq,mk4];simp only[Aa,Ac];have fin:∀(lf tp:List Int),lf.length=4->tp.length=4->J6 a.Knots r s n=a.Knots++ [Bz.mk true<|lf.set (s %4) n,Bz.mk false<|tp.set (s/4) (a.Knots.length:Int)]->
   ((gi lf<|Int.tmod (s:Int) 4).bind λx4=>(gi tp<|qu (s:Int) 4).bind λx5=>(ap 32 a.Knots [Bz.mk true<|si lf (Int.tmod (s:Int) 4) n,Bz.mk false<|si tp (qu (s:Int) 4)<|ln a.Knots]).bind λq2=>some (Arena.mk q2,ad (ln a.Knots) 1))=some (Arena.mk<|J6 a.Knots r s n,(a.Knots.length:Int)+1):=by
  intro lf tp h1 h2 h3;rw[qu4 hs,zK,Au,Au,Ab (by omega),Ab (by omega),Aa,BD (by simp;omega),Em,Em,Bv,<-h3,ad1];rfl
 rcases BX hr with rfl|⟨h0,h1,hl⟩
 ·rw[Ah (by omega:¬(-1:Int)>=0)];simp only[Ac,Aa];have hx:gi [(-1:Int),-1,-1,-1] (qu (s:Int) 4)=some (-1):=by
   rw[qu4 hs,Au];have:s/4<4:=by omega
   match s/4,this with
   |0,_=>rfl
   |1,_=>rfl
   |2,_=>rfl
   |3,_=>rfl
   |n+4,h=>omega
  rw[hx,Aa,Ah (by omega:¬(-1:Int)>=0)];simp only[Ac,Aa];have:=fin [0,0,0,0] [-1,-1,-1,-1] rfl rfl rfl
  grind
 rw[cT,If h0 h1];have h4:=(FN hK h0 h1).1;rw[Aa,MV<|by omega];simp only[Aa];have hx:gi (B6 a.Knots r).Kids (qu (s:Int) 4)=some (MK (B6 a.Knots r)<|s/4):=by rw[qu4 hs,pD (by omega:s/4<(B6 a.Knots r).Kids.length)]
 rw[hx];simp only[Aa]
 rcases G3 hK h0 h1 hl (show s/4<4 by omega)with e|⟨e1,e2,e3⟩
 ·rw[Ah (by omega:¬MK (B6 a.Knots r) (s/4)>=0)];simp only[Ac,Aa];have:=fin [0,0,0,0] (B6 a.Knots r).Kids rfl h4 (by unfold J6 Pm TS;simp only[AH (show¬r<0 by omega),AG<|show MK (B6 a.Knots r) (s/4)<0 by omega])
  grind
 rw[cT,If e1<|by omega];have h5:=(FN hK e1<|by omega).1;rw[Aa,MV<|by omega];simp only[Aa];have:=fin (B6 a.Knots<|MK (B6 a.Knots r)<|s/4).Kids (B6 a.Knots r).Kids h5 h4 (by unfold J6 Pm TS;grind)
 grind
theorem Za (l:List Int) (n:Int) (hl:l.length<=1048576):O4 l n=some (l.contains n):=by
 unfold O4;obtain⟨b,h1,h2⟩:=AL (body:=λs:Int=>MM l n s) (λ(_:Unit) i=>i) l.length (λi _=>n∉l.take i) (λb=>(b= .inr true/\n∈l)\/(b= .inl ()/\n∉l))
  (λ_ i hi hs=>by
   have hx:=Ab hi;simp only[MM,DV hi,Au,hx,Aa];rw[ad1]
   cases e:(l[i]==n)with
   |true=>grind
   |false=>
    refine .inl ⟨(),by rfl,?_⟩;rw[Al hi,Ap,Bu]
    grind)
  (λ_ hs=>⟨.inl (),by simp only[MM,DI],.inr ⟨rfl,by grind⟩⟩) (s:=()) (by simp)
 grind
theorem Wl {r:Int} (a:Arena) (ha:a.Knots.length<=1048000) (hK:CP a.Knots=true) (hr:D7 a.Knots r=true):∃l,Qe a r=some l/\l.length<=5/\∀i:Nat,(i:Int)∈l↔OI a.Knots r i=true:=by
 unfold Qe;rw[SD a<|by omega];simp only[Aa]
 rcases BX hr with rfl|⟨h0,h1,hl⟩
 ·rw[Ah (by omega:¬((0:Int)<= -1/\(-1:Int)<(a.Knots.length:Int)))];exact⟨[],rfl,by simp,λi=>by simp[OI]⟩
 rw[Ad ⟨h0,h1⟩,hl,If h0 h1];simp only[AQ,No,Ag,Ac,Aa];obtain⟨h4,hk⟩:=FN hK h0 h1;obtain⟨l,q1,q2,q3⟩:=AL (body:=λs:List Int×Int=>KQ a (B6 a.Knots r) s.1 s.2) (λ(o:List Int) i=>(o,i)) (B6 a.Knots r).Kids.length
  (λi o=>o.length<=1+i/\∀n:Nat,(n:Int)∈o↔(r=(n:Int)\/(n:Int)∈(B6 a.Knots r).Kids.take i)) (λo=>o.length<=5/\∀n:Nat,(n:Int)∈o↔(r=(n:Int)\/(n:Int)∈(B6 a.Knots r).Kids))
  (λo i hi ho=>by
   obtain⟨o1,o2⟩:=ho;have hx:=Ab hi;have et:(B6 a.Knots r).Kids.take (i+1)=(B6 a.Knots r).Kids.take i++ [(B6 a.Knots r).Kids[i]]:=Al hi;refine .inl ?_;simp only[KQ,DV hi,Au,hx,Aa];rw[aS,Bv,Co,ad1];simp only[Aa];have b:(B6 a.Knots r).Kids[i]=MK (B6 a.Knots r) i:=by grind
   rcases G3 hK h0 h1 hl (show i<4 by omega)with e|⟨e1,e2,e3⟩
   ·grind
   rw[cT,Za o _<|by omega];simp only[Aa]
   cases hc:o.contains (B6 a.Knots r).Kids[i]with
   |true=>
    have hm:(B6 a.Knots r).Kids[i]∈o:=by simpa using hc
    refine⟨o,rfl,by omega,λn=>?_⟩
    grind
   |false=>
    simp only[AQ,Ae];rw[BD (by simp;omega)];refine⟨_,rfl,by simp;omega,λn=>?_⟩
    grind)
  (λo ho=>⟨o,by simp only[KQ,DI],by have:=ho.1;omega,by grind⟩) (s:=[r]) ⟨by simp,λn=>by simp[eq_comm]⟩
 rw[q1];refine⟨l,rfl,q2,λi=>?_⟩;rw[q3];unfold OI
 grind
theorem eO (hr:GI r):∃l,Ao (λs:List Int×Int=>Kt r s.1 s.2) ([],0)=some l/\l.Nodup/\(∀x,x∈l↔∃y∈r,y.Page.Kind=2/\y.Page.Tx=x)/\l.length<=r.length:=by
 have a:=hr.len;obtain⟨l,h1,h2,h3,h4⟩:=AL (body:=λs:List Int×Int=>Kt r s.1 s.2) (λ(o:List Int) i=>(o,i)) r.length (λi o=>o.Nodup/\(∀x,x∈o↔∃y∈r.take i,y.Page.Kind=2/\y.Page.Tx=x)/\o.length<=i) (λo=>o.Nodup/\(∀x,x∈o↔∃y∈r,y.Page.Kind=2/\y.Page.Tx=x)/\o.length<=r.length)
  (λo i hi ho=>by
   obtain⟨o1,o2,o3⟩:=ho;have hx:=Ab hi;have et:r.take (i+1)=r.take i++ [r[i]]:=by simp
   refine .inl ?_;simp only[Kt,DV hi,Au,hx,Aa];rw[ad1,Za o _<|by omega]
   cases hk:(r[i].Page.Kind==2)with
   |false=>grind
   |true=>
    have hk':r[i].Page.Kind=2:=by simpa using hk
    simp only[Ae,Aa]
    cases hc:o.contains r[i].Page.Tx with
    |true=>grind
    |false=>
     have hc':r[i].Page.Tx∉o:=by grind
     simp only[AQ,Ae];rw[BD<|by grind];refine⟨_,rfl,?_,λx=>?_,by simp;omega⟩
     ·grind
     grind)
  (λo ho=>⟨o,by simp only[Kt,DI],by grind⟩) (s:=[]) ⟨Db,by simp,by simp⟩
 grind
theorem wG {l:List Int} (hr:GI r) (h1:l.Nodup) (h2:∀x,x∈l↔∃y∈r,y.Page.Kind=2/\y.Page.Tx=x):Si l=D0 r:=by
 obtain⟨n1,n2,n3⟩:=GX r λy hy=>(hr.tx y hy).1;refine W5 ?_ n1 λx=>?_
 ·have hs:(Si l).Pairwise λx y=>x<=y:=by
   have:=List.pairwise_mergeSort (le:=λx y:Int=>decide<|x<=y) (λa b c h1 h2=>by simp at*;omega) (λa b=>by simp;omega) l;unfold Si
   grind
  have hd:(Si l).Nodup:=by
   unfold Si;exact(List.mergeSort_perm l _).nodup_iff.2 h1
  unfold asc;exact(hs.and hd).imp (λh=>by omega)
 rw[n2,<-h2];unfold Si;simp
theorem gA (t:ByteArray) (ht:(L t).length<=20000):∀(n a:Nat) (c:List C1),(L t).length-a<=n->a<=(L t).length->c.length<=a->Ao (λs:List C1×Int=>Mr t s.1 s.2) (c,(a:Int))=Ao (λs:List C1×ByteArray×Int×Bool=>EB t s.1 s.2.1 s.2.2.1 s.2.2.2) (c,t,(a:Int),false)
 |n,a,c,hn,ha,ho=>by
  rw[Aw,Aw];simp only[EB,Mr];rw[B3];by_cases d:a<(L t).length
  ·rw[Ad (by omega:(a:Int)<((L t).length:Int))];simp only[Ae,Aa,AQ];rw[Ft t d,ad1];obtain⟨r1,a1,a2,a3⟩:=IM t ((a+1:Nat):Int) (by omega) ⟨by omega,by omega⟩;have f:oI r1.2.1:=by
    rcases a3 with⟨_,_,e⟩|⟨_,_,b,_,_,e,_,_,e2,_⟩
    ·rw[e];exact⟨by omega,by omega⟩
    rw[e];exact⟨by omega,by omega⟩
   obtain⟨r2,b1,b2,b3⟩:=IM t r1.2.1 (by omega) f;rw[a2,Aa,b2];simp only[Aa];have l1:Dl (Ez.mk t ((a+1:Nat):Int) false)=some (if r1.2.2=true then(r1.1,Ez.mk t r1.2.1 false)else(0,Ez.mk t ((a+1:Nat):Int) true)):=by
    unfold Dl
    grind
   rw[l1]
   cases h1:r1.2.2 with
   |false=>
    simp only[CQ,FU,Aa,AQ,Ae];have l2:Dl (Ez.mk t ((a+1:Nat):Int) true)=some (0,Ez.mk t ((a+1:Nat):Int) true):=by
     unfold Dl
     grind
    grind
   |true=>
    simp only[Ce,Aa,Ag,Ac];have l2:Dl (Ez.mk t r1.2.1 false)=some (if r2.2.2=true then(r2.1,Ez.mk t r2.2.1 false)else(0,Ez.mk t r1.2.1 true)):=by
     unfold Dl
     grind
    rw[l2]
    cases h2:r2.2.2 with
    |false=>rfl
    |true=>
     simp only[Ce,Aa,Ag,Ac];obtain⟨v,c1,c2,_⟩:=cS<|C1.mk (qu (IntKind.i64.wrap ((L t)[a].toNat:Int)) 16) (Int.tmod (IntKind.i64.wrap ((L t)[a].toNat:Int)) 16) r1.1 r2.1;rw[c1,c2];simp only[Aa]
     cases v with
     |false=>rfl
     |true=>
      simp only[Ag,Ac];rw[BD (by simp;omega)];simp only[Aa]
      rcases b3 with⟨e,_⟩|⟨_,aa,b,m,k1,k2,k3,k4,k5,_⟩
      ·rw[h2]at e;cases e
      rcases a3 with⟨e,_⟩|⟨_,aa',b',m',p1,p2,p3,p4,p5,_⟩
      ·rw[h1]at e;cases e
      rw[k2]
      match n,hn with
      |n+1,hn=>exact gA t ht n b _ (by omega) k5 (by simp;omega)
      |0,hn=>omega
  grind
theorem eK (t:ByteArray) (ht:(L t).length<=20000):Rj t=Iy t:=by
 have h:=gA t ht (L t).length 0 [] (by omega) (by omega) (by simp);rw[show((0:Nat):Int)=0 from rfl]at h;unfold Rj Iy;rw[h]
def AEt:Page:=Page.mk 0 0 0 0 0<|bs []
theorem gR (r:List Aq) (hl:r.length<=1048576) (t a c:Int) (h:(a=0/\c=0)\/(0<a/\0<c)):SC r t a c=some (match SX r t a c with|some y=>(y.Page,true)|none=>(AEt,false)):=by
 have hp:∀y:Aq,(cond (y.Page.Kind==2) (cond (y.Page.Tx==t) (cond (y.Page.Part==a) (cond (c==0) (some true)<|some<|y.Page.Count==c)<|some false)<|some false) (some false):Option Bool)=some (qS t a c y):=by
  intro y;unfold qS;cases y.Page.Kind==2<;>cases y.Page.Tx==t<;>cases y.Page.Part==a<;>simp only[Ae,Ac,Bool.false_and,Ii]
  rcases h with⟨rfl,rfl⟩|⟨h1,h2⟩
  ·simp
  grind
 unfold SC;obtain⟨b,h1,h2⟩:=AL (body:=λs:Int=>ML r t a c s) (λ(_:Unit) i=>i) r.length (λi _=>∀(j:Nat) x,j<i->r[j]?=some x->qS t a c x=false) (λb=>match SX r t a c with|some y=>b= .inr (y.Page,true)|none=>b= .inl ())
  (λ_ i hi hs=>by
   have hx:=Ab hi;simp only[ML,DV hi,Au,hx,Aa];rw[hp,ad1];simp only[Aa]
   cases e:qS t a c r[i]with
   |true=>
    refine .inr ⟨_,rfl,?_⟩;unfold SX;rw[l9 r _ hs hx e]
   |false=>
    refine .inl ⟨(),by rfl,λj x hj d=>?_⟩
    grind)
  (λ_ hs=>⟨.inl (),by simp only[ML,DI],by
   unfold SX
   rw[vU r _ λj x hx=>hs j x (Af.1 hx).1 hx]⟩) (s:=()) (λj x hj=>by omega)
 rw[h1]
 cases hf:SX r t a c with
 |none=>rw[hf]at h2;simp only at h2;rw[h2];rfl
 |some y=>grind
theorem AA5 (r:List Aq) (hr:GI r) (t:Int) (v:Page×Bool) (hv:1<=v.1.Count/\v.1.Count<=9):∀(n:Nat) (a:Int) (text:ByteArray) (seq:Int),a+n=11->1<=a->a<=v.1.Count->(L text).length<=90*a.toNat->
  ∃b,Ao (λs:ByteArray×Int×Int=>Mn r t v s.1 s.2.1 s.2.2) (text,seq,a)=some b/\(match parts r t n a v.1.Count (L text) seq with
   |none=>b= .inr (Tx.mk 0 0 [],false)
   |some (x,q)=>∃u,b= .inl (u,q)/\L u=x/\(L u).length<=1000)
 |0,a,text,seq,hn,h1,hc,ht=>by omega
 |n+1,a,text,seq,hn,h1,hc,ht=>by
  rw[Aw];simp only[Mn,parts];by_cases e:a<v.1.Count
  ·rw[Ad e,AG (.inr e)];simp only[Ae];rw[gR r hr.len t a v.1.Count (.inr ⟨by omega,by omega⟩)];simp only[Aa]
   cases hf:SX r t a v.1.Count with
   |none=>grind
   |some y=>
    simp only[Ag,Ac];have hy:=SU hf;have d:=hr.text y hy.1;have c:=vL hy.2 (by omega);rw[FZ text y.Page.Text (by omega),Aa,Cr,c];have es:QR a seq y=(if y.Page.Seq<seq then y.Page.Seq else seq):=by
     unfold QR;omega
    rw[es,<-DT];exact AA5 r hr t v hv n (a+1) _ _ (by omega) (by omega) (by omega) (by rw[DT,Ak];omega)
  rw[Ah e,AH<|by omega]
  grind
end Go.TI
