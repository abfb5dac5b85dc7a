/- Drawn devices that are cleaned. No condition; no program is in sight. -/
import Derived.Test.YtdhemppeejlbeabGreatCNP3
set_option linter.unusedVariables false
set_option linter.unusedSimpArgs false
namespace Go.TI
open Go
def GQ (id:Int):Nat->List Int->List CK
 |_,[]=>[]
 |k,x::row=>(if x>0 then [CK.mk 4 id k x]else [])++GQ id (k+1) row
def PC (p:Int×List Int):List CK:=CK.mk 2 p.1 0 0::GQ p.1 0 p.2
def KZ (l:Vs) (nx:Int):List CK:=CK.mk 1 0 nx 0::l.flatMap PC
theorem PT (id x:Int):∀(k:Nat) (a:List Int),GQ id k (a++ [x])=GQ id k a++(if x>0 then [CK.mk 4 id (k+a.length:Nat) x]else [])
 |k,[]=>by simp[GQ]
 |k,y::a=>by
  rw[BF,GQ,PT id x (k+1) a,GQ,Au,Ay,show k+1+a.length=k+(a.length+1) by omega]
theorem WH (id:Int):∀(k:Nat) (a:List Int),(GQ id k a).length<=a.length
 |_,[]=>A3 _
 |k,x::a=>by
  rw[GQ,Ag,Ay];have:=WH id (k+1) a;split<;>simp<;>omega
theorem gH (K:Ks) (r:Int):(Fy K r).length=16:=by unfold Fy;simp
theorem mI:∀(l:Vs),(∀p∈l,p.2.length=16)->(l.flatMap PC).length<=17*l.length
 |[],_=>A3 _
 |p::l,h=>by
  have:=mI l (λq hq=>h q (by simp[hq]));have h2:=WH p.1 0 p.2;have h3:=h p (by simp);rw[It,Ag,Ay];unfold PC at*;rw[Ay];omega
variable {r a r' b:List A4} {d e d':AK} {n k m:Nat} {y:A4} {c:Cj} {g f:Flash} {s:Store} {nx nx':Int} {P l l':Vs} {T:List ByteArray} {p:Page} {nd:List Bool} {x:CK} {K:Ks} {code:List Int}
theorem UH (h:Dr s):LA s=some (KZ (BT s) s.Next):=by
 have hl:=h.len;unfold LA;obtain⟨b,h1,h2⟩:=Bb (body:=λq:List CK×Int=>DV s q.1 q.2) (λ(o:List CK) i=>(o,i)) s.Vols.length (λi o=>o=KZ ((BT s).take i) s.Next/\o.length<=1+17*i) (λo=>o=KZ (BT s) s.Next)
  (λo i hi ho=>by
   have hx:=Ab hi;have hr:=h.root _ (AL.2 ⟨s.Vols[i],AD hi,rfl⟩);have d:=ho.2;have et:(BT s).take (i+1)=(BT s).take i++ [(s.Vols[i].Id,Fy s.Arena.Knots s.Vols[i].Root)]:=by
    rw[Em];unfold BT;rw[AT,hx];rfl
   simp only[DV,A7,Ad hi,Ae,A9,hx,Aa];rw[Cg (by simp;omega)];simp only[Aa];rw[PR _ (by have:=h.few;omega) h.ar hr];simp only[Aa];obtain⟨u,u1,u2,u3⟩:=Bb (body:=λq:List CK×Int=>DU s (i:Int) (Fy s.Arena.Knots s.Vols[i].Root) q.1 q.2) (λ(l:List CK) k=>(l,k)) (Fy s.Arena.Knots s.Vols[i].Root).length
    (λk u=>u=o++ [CK.mk 2 s.Vols[i].Id 0 0]++GQ s.Vols[i].Id 0 ((Fy s.Arena.Knots s.Vols[i].Root).take k)/\u.length<=o.length+1+k) (λu=>u=o++ [CK.mk 2 s.Vols[i].Id 0 0]++GQ s.Vols[i].Id 0 (Fy s.Arena.Knots s.Vols[i].Root)/\u.length<=o.length+17)
    (λu k hk hu=>by
     obtain⟨a,f⟩:=hu;have c:=Ab hk;have g:=gH s.Arena.Knots s.Vols[i].Root;have etk:=Aq hk;simp only[DU,A7,Ad hk,Ae,A9,c,hx,Aa];rw[ad1 (by omega)];refine .inl ?_;by_cases e:(Fy s.Arena.Knots s.Vols[i].Root)[k]>0
     ·rw[Ad e,Ae,Cg (by simp;omega)];refine⟨_,rfl,?_,by simp;omega⟩;rw[etk,PT,Ax e,a,AH,show 0+min k (Fy s.Arena.Knots s.Vols[i].Root).length=k by omega];simp only[Au]
     rw[Af e,Ac];refine⟨u,rfl,?_,by omega⟩
     rw[etk,PT,Az e,a,A0])
    (λu hu=>⟨u,by simp only[DU,A7,Al,Ap,Ac],by rw[hu.1,AN],by have:=gH s.Arena.Knots s.Vols[i].Root;have:=hu.2;omega⟩) (s:=o++ [CK.mk 2 s.Vols[i].Id 0 0]) ⟨by simp[GQ],by simp⟩
   have u1':Ar (λq:List CK×Int=>DU s (i:Int) (Fy s.Arena.Knots s.Vols[i].Root) q.1 q.2) (o++ [CK.mk 2 s.Vols[i].Id 0 0],0)=some u:=u1;rw[u1'];simp only[Aa];rw[ad1 (by omega)];refine .inl ⟨u,rfl,?_,by omega⟩;rw[et,u2,ho.1];unfold KZ;rw[Re]
   simp[PC])
  (λo ho=>⟨o,by simp only[DV,A7,Al,Ap,Ac],by rw[ho.1,AS (by rw[P5];exact A3 _)]⟩) (s:=[CK.mk 1 0 s.Next 0]) ⟨rfl,by simp⟩
 have h1':Ar (λq:List CK×Int=>DV s q.1 q.2) ([CK.mk 1 0 s.Next 0],0)=some b:=h1;rw[h1',h2];rfl
structure VsP (l:Vs) (nx:Int):Prop where
 len:l.length<=3
 nxt:1<=nx/\nx<=1000000000
 ids:∀p∈l,1<=p.1/\p.1<=9
 asc:l.Pairwise λp q=>p.1<q.1
 row:∀p∈l,p.2.length=16
 num:∀p∈l,∀x∈p.2,0<=x/\x<nx
theorem mS {r:Int} (hK:Df K=true) (hr:DK K r=true):∀x∈Fy K r,0<=x:=by
 intro x hx;unfold Fy at hx;obtain⟨s,hs,rfl⟩:=AL.1 hx;rw[Hu]at hs;unfold QU
 rcases Cm hr with e|⟨h0,h1,hl⟩
 ·rw[Ax (by omega)];omega
 rw[Az (by omega)]
 rcases G3 hK h0 h1 hl (show s/4<4 by omega)with k1|⟨k1,k2,k3⟩
 ·rw[Ax (by omega)];omega
 rw[Az (by omega)];exact yQ hK k1 (by omega) k3 (by omega)
theorem Dr.vs (h:Dr s):VsP (BT s) s.Next:=by
 have mem:∀p∈BT s,∃v∈s.Vols,p=(v.Id,Fy s.Arena.Knots v.Root):=λp hp=>by
  obtain⟨v,hv,rfl⟩:=AL.1 hp;exact⟨v,hv,rfl⟩
 refine⟨by rw[P5];exact h.len,h.nx,λp hp=>?_,?_,λp hp=>?_,λp hp x hx=>?_⟩
 ·obtain⟨v,hv,rfl⟩:=mem p hp;exact h.ids v hv
 ·have:=h.asc;unfold BT;rw[Ip]at this⊢;exact this
 ·obtain⟨v,hv,rfl⟩:=mem p hp;exact gH _ _
 obtain⟨v,hv,rfl⟩:=mem p hp;have hm:v.Root∈BG s:=AL.2 ⟨v,hv,rfl⟩;exact⟨mS h.ar (h.root _ hm) x hx,h.lt _ hm x hx⟩
theorem Te {id:Int} (h:∀p∈P,p.1<id) (Q:Vs):Ni (P++Q) id=Ni Q id:=by
 unfold Ni;rw[List.find?_append,FJ.2 (λp hp hh=>by have:=h p hp;simp at hh;omega),Option.none_or]
theorem ACe {id k x:Int} (h1:1<=id/\id<=9) (h2:0<=k/\k<16) (h3:1<=x/\x<=1000000000):HE (CK.mk 4 id k x)=true:=by
 unfold HE;simp;omega
theorem AC4 {id a:Int} (h1:1<=id/\id<=9) (h2:0<=a/\a<=9):HE (CK.mk 2 id a 0)=true:=by
 unfold HE;simp;omega
theorem tH {id:Int} {a:List Int} (h:∀p∈P,p.1<id) (k:Nat) (x:Int):oE (P++ [(id,a)]) id k x=P++ [(id,a.set k x)]:=by
 unfold oE;rw[Cy];congr 1
 ·conv=>rhs;rw[<-TS P]
  apply CY;intro p hp;have:=h p hp;rw[Az (by omega)];rfl
 simp
theorem kT {id nx:Int} (hP:∀p∈P,p.1<id) (a:1<=id/\id<=9) (c:nx<=1000000000):∀(todo done:List Int),done.length+todo.length=16->(∀x∈todo,0<=x/\x<nx)->Dh (P++ [(id,done++List.replicate todo.length 0)]) nx (GQ id done.length todo)=some (P++ [(id,done++todo)],nx)
 |[],done,hl,hx=>by simp[GQ,Dh]
 |x::todo,done,hl,hx=>by
  have h1:=hx x (by simp);rw[Ay]at hl;have ih:=kT hP a c todo (done++ [x]) (by simp;omega) (λy hy=>hx y (by simp[hy]));rw[Ag,Ak]at ih;rw[GQ];have b:(done++List.replicate (todo.length+1) 0).set done.length x=done++ [x]++List.replicate todo.length 0:=by
   rw[GJ,List.set_append_right _ _ (A3 _),Sc,DY,Au];rfl
  by_cases e:x>0
  ·rw[Ax e,Ct,FO];have d:E6 (P++ [(id,done++List.replicate (x::todo).length 0)]) nx (CK.mk 4 id done.length x)=some (P++ [(id,done++ [x]++List.replicate todo.length 0)],nx):=by
    unfold E6;rw[ACe a (by omega) (by omega)];simp only[JS,EM,show¬((4:Int)=1) by omega,show¬((4:Int)=2) by omega,show¬((4:Int)=3) by omega];have hg:Ni (P++ [(id,done++List.replicate (x::todo).length 0)]) id≠none:=by
     rw[Te hP];simp[Ni]
    rw[Az (by
     rintro(hh|hh)
     ·exact hg hh
     omega)]
    rw[tH hP,Bh,Ay,b,show max nx (x+1)=nx by omega]
   rw[d];simp only[Aa];rw[ih,Au];rfl
  rw[Az e,AA];have e0:x=0:=by omega
  have:done++List.replicate (x::todo).length 0=done++ [x]++List.replicate todo.length 0:=by
   rw[e0,Ay,GJ,Au];rfl
  rw[this,ih,Au];rfl
theorem uM {id:Int} {a:List Int} (h:∀p∈P,p.1<id):uN P id a=P++ [(id,a)]:=by
 unfold uN;rw[GK.2 (λp hp=>by simpa using h p hp),Bs.2 (λp hp=>by have:=h p hp;simp;omega),A0]
theorem cH (d:nx<=1000000000):∀(l P:Vs),(P++l).length<=3->(P++l).Pairwise (λp q=>p.1<q.1)->(∀p∈l,(1<=p.1/\p.1<=9)/\p.2.length=16/\∀x∈p.2,0<=x/\x<nx)->Dh P nx (l.flatMap PC)=some (P++l,nx)
 |[],P,_,_,_=>by simp[Dh]
 |p::l,P,b,a,hall=>by
  obtain⟨h1,h2,h3⟩:=hall p (by simp)
  have c:∀q∈P,q.1<p.1:=λq hq=>by
   rw[Ba]at a;exact a.2.2 q hq p (by simp)
  rw[It,Mc];unfold PC;rw[FO];have f:E6 P nx (CK.mk 2 p.1 0 0)=some (P++ [(p.1,TX)],nx):=by
   unfold E6;rw[AC4 h1 (by omega)];simp only[JS,EM,BR,show¬((2:Int)=1) by omega];have hg:Ni P p.1=none:=by
    have:=Te c [];rw[A0]at this;rw[this];rfl
   rw[Az (by
    rintro(hh|hh|hh)
    ·omega
    ·exact hh hg
    simp at b;omega)]
   rw[Az (by omega),uM c]
  rw[f];simp only[Aa];have hz:TX=[]++List.replicate p.2.length 0:=by rw[h2];rfl
  have e:=kT c h1 d p.2 [] (by simpa using h2) h3;rw[<-hz,Bp,AA]at e;rw[e];simp only[Aa];have hP:P++ [(p.1,p.2)]=P++ [p]:=rfl;have:=cH d l (P++ [p]) (by rw[Au];exact b) (by rw[Au];exact a) (λq hq=>hall q (by simp[hq]));rw[hP];rw[show(l.flatMap λp=>CK.mk 2 p.1 0 0::GQ p.1 0 p.2)=l.flatMap PC from rfl,this,Au];rfl
theorem eV (h:VsP l nx) (l0:Vs) (n0:Int):Dh l0 n0 (KZ l nx)=some (l,nx):=by
 unfold KZ;rw[FO];have a:E6 l0 n0 (CK.mk 1 0 nx 0)=some ([],nx):=by
  unfold E6;have hb:HE (CK.mk 1 0 nx 0)=true:=by
   have:=h.nxt;unfold HE;simp;omega
  rw[hb];simp only[JS,EM,BR];have:=h.nxt;rw[Az (by omega)]
 rw[a];simp only[Aa];have:=cH h.nxt.2 l [] (by simpa using h.len) (by simpa using h.asc) (λp hp=>⟨h.ids p hp,h.row p hp,h.num p hp⟩);rw[AA]at this;exact this
theorem eT (h:VsP l nx):(∀r∈KZ l nx,HE r=true)/\(KZ l nx).length<=1000:=by
 refine⟨λr hr=>?_,?_⟩
 ·
  cases hb:HE r with
  |true=>rfl
  |false=>
   exfalso;obtain⟨i,hi,rfl⟩:=AG hr;have h1:=eV h [] 1;obtain⟨e1,e2⟩:=JY (Ab hi);rw[e1,Mc]at h1
   cases hq:Dh [] 1 ((KZ l nx).take i)with
   |none=>rw[hq]at h1;cases h1
   |some q=>
    rw[hq]at h1;simp only[Aa]at h1;rw[FO]at h1;have:E6 q.1 q.2 (KZ l nx)[i]=none:=by unfold E6;rw[Ax hb]
    rw[this]at h1;cases h1
 unfold KZ;rw[Ay];have:=mI l h.row;have:=h.len;omega
structure AEe (d d':AK):Prop where
 ab:BT d'.Store=BT d.Store
 nx:d'.Store.Next=d.Store.Next
theorem PJ (h:IZ d r) {steps:List Bl} (hs:Steps d.Flash steps g) (hl:steps.length<=1048576) (hm:Dc g=some (d',true)):HB d steps=some d':=by
 unfold HB;rw[WG h.fl hs hl];simp only[Aa];rw[hm];rfl
theorem Vv:∀{n:Int} {ps:List Page} {p:Page},G8 n ps->(∀q∈ps,q.Seq<p.Seq)->n<=p.Seq->G8 n (ps++ [p])
 |n,[],p,_,_,h=>⟨h,trivial⟩
 |n,q::ps,p,ha,hq,h=>⟨ha.1,Vv ha.2 (λx hx=>hq x (by simp[hx])) (by have:=hq q (by simp);omega)⟩
def o7 (d:AK) (r:List A4) (p:Page):Prop:=p.Kind=1/\Ff (BT d.Store) p.Tx/\∃y,KN r p.Tx=some y/\p.Text=y.Page.Text
theorem YR {j:Nat} (h:IZ d r) {live:List Int} (hl:∀x,x∈live↔Ff (BT d.Store) x) (hy:r[j]?=some y) (hn:(C1 r live 1000000001)[j]?=some true):y.Page.Kind=1/\Ff (BT d.Store) y.Page.Tx/\KN r y.Page.Tx=some y:=by
 rw[Pk r live _ hy]at hn
 injection hn with hn
 have a:=h.pages;have ht:=a.tx y (A5 hy);have:D9 1000000001 y=false:=by
  unfold D9;rw[Af (by omega),cF]
 rw[this,V3,C8]at hn;obtain⟨c,hc,b⟩:=hn;have e:OS c r r.length=some j:=by simpa using b
 have h1:=AAw e;rw[hy]at h1;obtain⟨_,k1,k2⟩:=UW h1;rw[k2];exact⟨k1,(hl c).1 hc,h1⟩
theorem aW (h:IZ d r) (l:r.length<=40) (b:Int):Hz d b=some ([],false)\/∃steps ps g,Hz d b=some (steps,true)/\J8 d.Flash steps ps g/\BU g/\G8 d.Seq ps/\steps.length<=160/\(∀p∈ps,o7 d r p/\JJ p)/\∀p∈ps,p.Seq<d.Seq+160:=by
 obtain⟨live,l1,l2,l3,l4⟩:=L7 h.st;have m:1<=d.Seq/\d.Seq<=1000000001:=by
  rw[h.seq];have h1:=N4 r;refine⟨h1.2.1,h1.2.2 _ (by omega) (λy hy=>?_)⟩;have:=(h.pages.seq y hy).2;omega
 unfold Hz;rw[h.scan.s,l1];simp only[Aa];rw[MW r live _ h.scan.len l4];simp only[Aa];have e:live.foldl (bD r) (r.map (D9 1000000001))=C1 r live 1000000001:=rfl;rw[e]
 let I:Nat->(List Bl×Int×List Block)->Prop:=λn o=>∃ps,J8 d.Flash o.1 ps (Flash.mk o.2.2)/\BU (Flash.mk o.2.2)/\G8 d.Seq ps/\(∀p∈ps,p.Seq<o.2.1)/\d.Seq<=o.2.1/\o.2.1<=d.Seq+n/\o.1.length<=n/\∀p∈ps,o7 d r p/\JJ p
 have I0:I (40*0) ([],d.Seq,d.Flash.Blocks):=by
  refine⟨[],rfl,h.fl,trivial,?_,?_,?_,?_,?_⟩
  ·intro p hp;cases hp
  ·exact EN _
  ·show d.Seq<=d.Seq+((40*0:Nat):Int);omega
  ·exact A3 _
  intro p hp;cases hp
 obtain⟨a,h1,h2⟩:=Bb (body:=λs:List Bl×Int×Int×List Block=>Ex b r (C1 r live 1000000001) s.1 s.2.1 s.2.2.1 s.2.2.2) (λ(o:List Bl×Int×List Block) i=>(o.1,o.2.1,i,o.2.2)) 4
  (λi o=>I (40*i) o) (λa=>a= .inr ([],false)\/∃steps sq bl,a= .inl steps/\I 160 (steps,sq,bl))
  (λo i hi ho=>by
   simp only[Ex];rw[Ad (by omega:(i:Int)<4),Ae];obtain⟨q,q1,q2⟩:=Bb (body:=λs:List Bl×Int×Int×List Block=>Ew b r (C1 r live 1000000001) (i:Int) s.1 s.2.1 s.2.2.1 s.2.2.2) (λ(o:List Bl×Int×List Block) j=>(o.1,o.2.1,j,o.2.2)) r.length
    (λj o=>I (40*i+j) o) (λq=>q= .inr (.inr (.inr ([],false)))\/∃o,q= .inl o/\I (40*i+40) o)
    (λo j hj hs=>by
     obtain⟨ss,sq,bl⟩:=o;obtain⟨ps,p1,p2,p3,p4,p5,p6,p7,p8⟩:=hs;simp only at p1 p2 p4 p5 p6 p7;have hx:=Ab hj;have f:j<(C1 r live 1000000001).length:=by rw[Kt];exact hj
     have c:=Ab f;simp only[Ew,A7,Ad hj,Ae,A9,hx,c,Aa];rw[ad1 (by omega)];have skip:I (40*i+(j+1)) (ss,sq,bl):=⟨ps,p1,p2,p3,p4,p5,by show sq<=_;omega,by show ss.length<=_;omega,p8⟩
     cases k:(C1 r live 1000000001)[j]with
     |false=>
      simp only[AC,Ae,Aa];exact .inl ⟨(ss,sq,bl),rfl,skip⟩
     |true=>
      simp only[Aj,Ac]
      cases hb:(r[j].Block !=b)with
      |true=>
       simp only[Ae,Aa];exact .inl ⟨(ss,sq,bl),rfl,skip⟩
      |false=>
       simp only[Ac,Aa]
       cases t:(r[j].Leaf !=(i:Int))with
       |true=>
        simp only[Ae,Aa];exact .inl ⟨(ss,sq,bl),rfl,skip⟩
       |false=>
        simp only[Ac,Aa];obtain⟨m1,m2,m3⟩:=YR h l3 hx (by rw[c,k])
        rcases wX p2 p1 (by omega) (Page.mk r[j].Page.Kind sq r[j].Page.Tx r[j].Page.Part r[j].Page.Count r[j].Page.Text)with⟨s,g',w1,w2,w3,w4,_⟩|w
        ·rw[w1];simp only[Aa,Aj,Ac];rw[BM,Ag,Ak,Cx (by omega) (by omega),show((ss.length+1:Nat):Int)-1=(ss.length:Int) by omega,F8];simp only[Aa]
         cases u:(s.Block==b)with
         |true=>exact .inr ⟨_,rfl,.inl rfl⟩
         |false=>
          simp only[Ac];rw[CD (by omega) (by omega)];refine .inl ⟨(ss++ [s],sq+1,g'.Blocks),rfl,_,w2,w3,Vv p3 (λq hq=>p4 q hq) p5,λp hp=>?_,by show d.Seq<=sq+1;omega,by show sq+1<=_;omega,by simp;omega,λp hp=>?_⟩
          ·rw[Ai,Aw]at hp;show p.Seq<sq+1
           rcases hp with hp|rfl
           ·have:=p4 p hp;omega
           show sq<sq+1;omega
          rw[Ai,Aw]at hp
          rcases hp with hp|rfl
          ·exact p8 p hp
          exact⟨⟨m1,m2,_,m3,rfl⟩,w4⟩
        rw[w]
        exact .inr ⟨_,rfl,.inl rfl⟩)
    (λo hs=>⟨.inl (o.1,o.2.1,o.2.2),by simp only[Ew,A7,Al,Ap,Ac],.inr ⟨o,rfl,by
     obtain⟨ps,p1,p2,p3,p4,p5,p6,p7,p8⟩:=hs
     exact⟨ps,p1,p2,p3,p4,p5,by omega,by omega,p8⟩⟩⟩) (s:=o) (by
      obtain⟨ps,p1,p2,p3,p4,p5,p6,p7,p8⟩:=ho
      exact⟨ps,p1,p2,p3,p4,p5,by omega,by omega,p8⟩)
   have q1':Ar (λs:List Bl×Int×Int×List Block=>Ew b r (C1 r live 1000000001) (i:Int) s.1 s.2.1 s.2.2.1 s.2.2.2) (o.1,o.2.1,0,o.2.2)=some q:=q1;rw[q1']
   rcases q2 with rfl|⟨o',rfl,q2⟩
   ·exact .inr ⟨_,rfl,.inl rfl⟩
   simp only[Aa,Bn];rw[ad1 (by omega)]
   exact .inl ⟨o',rfl,by
    obtain⟨ps,p1,p2,p3,p4,p5,p6,p7,p8⟩:=q2
    exact⟨ps,p1,p2,p3,p4,p5,by omega,by omega,p8⟩⟩)
  (λo ho=>⟨.inl o.1,by simp only[Ex];rw[Af (by omega:¬((4:Nat):Int)<4),Ac],.inr ⟨o.1,o.2.1,o.2.2,rfl,ho⟩⟩) (s:=([],d.Seq,d.Flash.Blocks)) I0
 have h1':Ar (λs:List Bl×Int×Int×List Block=>Ex b r (C1 r live 1000000001) s.1 s.2.1 s.2.2.1 s.2.2.2) ([],d.Seq,0,d.Flash.Blocks)=some a:=h1;rw[h1']
 rcases h2 with rfl|⟨steps,sq,bl,rfl,ps,p1,p2,p3,p4,p5,p6,p7,p8⟩
 ·exact .inl rfl
 exact .inr ⟨steps,ps,_,rfl,p1,p2,p3,p7,p8,λp hp=>by have h1:p.Seq<sq:=p4 p hp;have h2:sq<=d.Seq+((160:Nat):Int):=p6;omega⟩
theorem yI {ps:List Page} (h:Lk d r) {steps:List Bl} (hp:J8 d.Flash steps ps g) (ha:G8 d.Seq ps) (hl:steps.length<=160) (hm:∀p∈ps,o7 d r p/\JJ p) (k:Nat):
  ∃m d',Steps d.Flash (steps.take k) m/\BU m/\Dc m=some (d',true)/\d'.Flash=m/\Lk d' (r++(CC steps ps).take k)/\AEe d d'/\d'.Base=d.Base/\XY d.Flash m/\∀c,Ff (BT d.Store) c->Dl (r++(CC steps ps).take k) c=Dl r c:=by
 have f:=(FB hp).2;have w:=h.few
 have b:∀y∈r,y.Page.Seq<d.Seq:=λy hy=>by rw[h.dev.seq];exact(N4 r).1 y hy
 obtain⟨m,a⟩:=TQ k hp;have l:=XS h.dev.fl (FB a).1;have ascT:∀(ps:List Page) (n:Int) (k:Nat),G8 n ps->G8 n (ps.take k):=by
  intro ps
  induction ps with
  |nil=>intro n k _;simp[G8]
  |cons p ps ih=>
   intro n k ha
   cases k with
   |zero=>trivial
   |succ k=>exact⟨ha.1,ih _ k ha.2⟩
 have o:=ZW h.dev.fl h.dev.sr a b (ascT _ _ k ha);rw[WP]at o;obtain⟨d',u1,u2,u3⟩:=NU l o;have h0:=TJ f;have ascG:∀(ps:List Page) (n:Int) (i:Nat) (p:Page),G8 n ps->ps[i]?=some p->n<=p.Seq/\∀j q,j<i->ps[j]?=some q->q.Seq<p.Seq:=by
  intro ps
  induction ps with
  |nil=>intro n i p _ hp;simp at hp
  |cons x ps ih=>
   intro n i p ha hp
   cases i with
   |zero=>
    simp only[CW,Ao]at hp;rw[<-hp];exact⟨ha.1,λj q hj=>by omega⟩
   |succ i=>
    obtain⟨i1,i2⟩:=ih _ i p ha.2 (by simpa using hp);have:=ha.1;refine⟨by omega,λj q hj hq=>?_⟩
    cases j with
    |zero=>
     simp only[CW,Ao]at hq;rw[<-hq];omega
    |succ j=>exact i2 j q (by omega) (by simpa using hq)
 have main:∀n,n<=(CC steps ps).length->JR (r++(CC steps ps).take n)/\Hq (r++(CC steps ps).take n) (Ff (BT d.Store))/\Bw (r++(CC steps ps).take n)=Bw r/\∀c,Ff (BT d.Store) c->Dl (r++(CC steps ps).take n) c=Dl r c:=by
  intro n
  induction n with
  |zero=>intro _;rw[J4,A0];exact⟨h.core,h.data,rfl,λ_ _=>rfl⟩
  |succ n ih=>
   intro hn;obtain⟨i1,i2,i3,i4⟩:=ih (by omega);have hx:(CC steps ps)[n]?=some (CC steps ps)[n]:=Ab (by omega);have s:=LI hx;obtain⟨⟨m1,m2,y,m3,m4⟩,m5⟩:=hm _ (A5 s);obtain⟨a1,a2⟩:=ascG ps d.Seq n _ ha s;rw[Aq (by omega),<-Au];have t:V9 (CC steps ps)[n].Page.Text=Dl r (CC steps ps)[n].Page.Tx:=by unfold Dl;rw[m3,m4];rfl
   have u:Dm (r++(CC steps ps).take n)<=(CC steps ps)[n].Page.Seq:=by
    refine(N4 _).2.2 _ (m5.2.1.1) (λz hz=>?_)
    rcases Ai.1 hz with hz|hz
    ·have:=b z hz;omega
    obtain⟨j,hj,rfl⟩:=AG hz;rw[AH]at hj;rw[Fd];exact a2 j _ (by omega) (LI (Ab (by omega)))
   refine⟨JR.add i1 (by simp;omega) m5 u (λhh=>by omega),nN i2 (by rw[t,i4 _ m2]),by rw[WO _ (by omega),i3],λc hc=>?_⟩;by_cases e:(CC steps ps)[n].Page.Kind=1/\(CC steps ps)[n].Page.Tx=c
   ·have:Dl (r++(CC steps ps).take n++ [(CC steps ps)[n]]) c=V9 (CC steps ps)[n].Page.Text:=by unfold Dl;rw[NK,Ax e];rfl
    rw[this,t,e.2]
   rw[<-i4 c hc];unfold Dl;rw[NK,Az e]
 have v:JR (r++(CC steps ps).take k)/\Hq (r++(CC steps ps).take k) (Ff (BT d.Store))/\Bw (r++(CC steps ps).take k)=Bw r/\∀c,Ff (BT d.Store) c->Dl (r++(CC steps ps).take k) c=Dl r c:=by
  by_cases e:k<=(CC steps ps).length
  ·exact main k e
  have:=main _ (A3 _);rw[AN]at this;rw[AS (by omega)];exact this
 obtain⟨k1,k2,k3,k4⟩:=v;obtain⟨e1,e2,e3⟩:=JV h.dev u2 (by rw[k3]);exact⟨m,d',(FB a).1,l,u1,u3,⟨u2,k1,by rw[e1];exact k2⟩,⟨e1,e2⟩,e3,λ_=>TP a,k4⟩
theorem qR (h:IZ d r) {live:List Int} (hl:live.length<=16777216) (t:ByteArray):∃v,PQ d.Flash live t=some v/\((v=0/\∀c∈live,Dl r c≠some t)\/(v∈live/\Dl r v=some t)):=by
 have hr:=h.pages;unfold PQ VI;rw[h.scan.s];simp only[Aa];obtain⟨b,h1,h2⟩:=Bb (body:=λs:Int=>Je r live t s) (λ(_:Unit) i=>i) live.length (λi _=>∀c∈live.take i,Dl r c≠some t) (λb=>(b= .inl ()/\∀c∈live,Dl r c≠some t)\/∃v,b= .inr v/\v∈live/\Dl r v=some t)
  (λ_ i hi hs=>by
   have hx:=Ab hi;simp only[Je,A7,Ad hi,Ae,A9,hx,Aa];obtain⟨u,ok,k1,k2⟩:=kG hr live[i];rw[k1];simp only[Aa];rw[ad1 (by omega)]
   have no:Dl r live[i]≠some t->∀c∈live.take (i+1),Dl r c≠some t:=λf c hc=>by
    rw[Aq hi,Ai,Aw]at hc
    rcases hc with hc|rfl
    ·exact hs c hc
    exact f
   cases ok with
   |false=>
    simp only[Ac,Aa];exact .inl ⟨(),by first|rfl|trivial,no (by rw[k2];simp)⟩
   |true=>
    simp only[Ae,Aa];rw[Ax rfl]at k2
    cases a:seq u t with
    |true=>
     rw[JA,A6]at a;exact .inr ⟨_,rfl,.inr ⟨_,rfl,AD hi,by rw[k2,a]⟩⟩
    |false=>
     rw[JA,Bc]at a;refine .inl ⟨(),rfl,no ?_⟩;rw[k2];intro e
     injection e with e
     exact a e)
  (λ_ hs=>⟨_,by simp only[Je,A7,Al,Ap,Ac],.inl ⟨rfl,by rw[AN]at hs;exact hs⟩⟩) (s:=()) (by simp)
 have h1':Ar (λs:Int=>Je r live t s) 0=some b:=h1;rw[h1']
 rcases h2 with⟨rfl,h2⟩|⟨v,rfl,h2⟩
 ·exact⟨0,rfl,.inl ⟨rfl,h2⟩⟩
 exact⟨v,rfl,.inr h2⟩
structure ADE (q:fC):Prop where
 kind:1<=q.Kind/\q.Kind<=6
 vol:1<=q.Vol/\q.Vol<=9
 text:(L q.Text).length<=64
 sec:0<=q.Sector/\q.Sector<=15
 of_:0<=q.Of/\q.Of<=9
 cl:q.Kind=4->1<=q.Of
 no:q.Kind≠4->q.Of=0
 tx:q.Kind≠1->L q.Text=[]
theorem dE (q:fC):∃v,XD q=some v/\(v=true->ADE q):=by
 unfold XD;simp only[EY,Aa];by_cases h1:1<=q.Kind/\q.Kind<=6
 ·rw[Ad h1];by_cases h2:1<=q.Vol/\q.Vol<=9
  ·rw[Ad h2];by_cases h3:FY q.Text>64
   ·rw[Ad h3];exact⟨_,rfl,by simp⟩
   rw[Af h3];rw[BN]at h3;simp only[Aj,Ac];have ht:(cond (q.Kind !=1) (some (!(seq q.Text (bs [])))) (some false):Option Bool)=some (decide (q.Kind≠1/\L q.Text≠ [])):=by
    by_cases e:q.Kind=1
    ·rw[show(q.Kind !=1)=false by simp[e],Af (λhh=>hh.1 e)];rfl
    rw[show(q.Kind !=1)=true by simpa using e,Ro,E7];by_cases e2:L q.Text=[]
    ·rw[Ad e2,Af (λhh=>hh.2 e2)];rfl
    rw[Af e2,Ad (show q.Kind≠1/\L q.Text≠ []from⟨e,e2⟩)];rfl
   rw[ht];simp only[Aa];by_cases h4:q.Kind≠1/\L q.Text≠ []
   ·rw[Ad h4];exact⟨_,rfl,by simp⟩
   rw[Af h4];simp only[Ac]
   have a:q.Kind≠1->L q.Text=[]:=λhk=>Classical.byContradiction λhh=>h4 ⟨hk,hh⟩
   by_cases h5:q.Kind=4
   ·rw[show(q.Kind==4)=true by simpa using h5];simp only[Ae];by_cases h6:q.Sector=0
    ·rw[show(q.Sector==0)=true by simpa using h6];refine⟨_,rfl,λhh=>?_⟩;rw[A6]at hh;exact⟨h1,h2,by omega,by omega,by omega,λ_=>hh.1,λhk=>absurd h5 hk,a⟩
    rw[show(q.Sector==0)=false by simpa using h6];exact⟨_,rfl,by simp⟩
   rw[show(q.Kind==4)=false by simpa using h5];simp only[Ac];by_cases h6:q.Of=0
   ·rw[show(q.Of !=0)=false by simp[h6]];simp only[Ac];by_cases h7:q.Kind=3\/q.Kind=5
    ·have:(cond (q.Kind==3) (some true) (some (q.Kind==5)):Option Bool)=some true:=by
      rcases h7 with e|e<;>rw[e]<;>rfl
     rw[this];refine⟨_,rfl,λhh=>?_⟩;rw[Ck]at hh;exact⟨h1,h2,by omega,by omega,by omega,λhk=>absurd hk h5,λ_=>h6,a⟩
    have:(cond (q.Kind==3) (some true) (some (q.Kind==5)):Option Bool)=some false:=by
     rw[show(q.Kind==3)=false by rw[Ei];omega,show(q.Kind==5)=false by rw[Ei];omega];rfl
    rw[this];refine⟨_,rfl,λhh=>?_⟩;rw[A6]at hh;exact⟨h1,h2,by omega,hh,by omega,λhk=>absurd hk h5,λ_=>h6,a⟩
   rw[show(q.Of !=0)=true by simpa using h6];exact⟨_,rfl,by simp⟩
  rw[Af h2];exact⟨_,rfl,by simp⟩
 rw[Af h1];exact⟨_,rfl,by simp⟩
def ABL (d:AK) (r:List A4) (q:fC) (x:CK) (a:ByteArray):Prop:=HE x=true/\x.Kind≠1/\x.Vol=q.Vol/\((L a=[]/\(x.Kind=4->Ff (BT d.Store) x.Chunk/\Dl r x.Chunk=some q.Text))\/(x.Kind=4/\x.Chunk=d.Store.Next/\L a≠ []/\V9 a=some q.Text/\∀c,Ff (BT d.Store) c->Dl r c≠some q.Text))
theorem nE (h:IZ d r) (q:fC):∃a text no,NC d q=some (a,text,no)/\((a=[]/\text=bs [])\/(no=0/\∃x,a=[x]/\ABL d r q x text))/\(no≠0->a=[]):=by
 have j:=h.st.len;have b:=h.st.nx;obtain⟨v,a1,a2⟩:=dE q;unfold NC;rw[a1];simp only[Aa]
 cases v with
 |false=>exact⟨_,_,_,rfl,.inl ⟨rfl,rfl⟩,λ_=>rfl⟩
 |true=>
  have hq:=a2 rfl;simp only[Aj,Ac];have g:=hq.kind;obtain⟨w,hw⟩:∃w,EQ d.Store q.Vol=some w:=by
   rcases GA d.Store (by omega) q.Vol with⟨e,_⟩|⟨k,_,e,_⟩<;>exact⟨_,e⟩
  rw[hw];simp only[Aa];by_cases h34:q.Kind=3\/q.Kind=4
  ·have:(cond (q.Kind==3) (some true) (some (q.Kind==4)):Option Bool)=some true:=by
    rcases h34 with e|e<;>rw[e]<;>rfl
   rw[this];simp only[Aa,Ae]
   cases decide (w>=0)with
   |true=>exact⟨_,_,_,rfl,.inl ⟨rfl,rfl⟩,λ_=>rfl⟩
   |false=>
    simp only[Ac];obtain⟨j2,i⟩:∃j2,(cond (q.Kind==4) ((EQ d.Store q.Of).bind λv3=>some (decide (v3<0))) (some false):Option Bool)=some j2:=by
     cases q.Kind==4 with
     |false=>exact⟨_,rfl⟩
     |true=>
      rcases GA d.Store (by omega) q.Of with⟨e,_⟩|⟨k,_,e,_⟩<;>rw[e]<;>exact⟨_,rfl⟩
    rw[i];simp only[Aa]
    cases j2 with
    |true=>exact⟨_,_,_,rfl,.inl ⟨rfl,rfl⟩,λ_=>rfl⟩
    |false=>
     simp only[Ac]
     cases decide (ln d.Store.Vols>=3)with
     |true=>exact⟨_,_,_,rfl,.inl ⟨rfl,rfl⟩,λ_=>rfl⟩
     |false=>
      refine⟨_,_,_,rfl,.inr ⟨rfl,_,rfl,AC4 hq.vol hq.of_,by simp,rfl,.inl ⟨E7 _,λhh=>by simp at hh⟩⟩,λhh=>absurd rfl hh⟩
  have:(cond (q.Kind==3) (some true) (some (q.Kind==4)):Option Bool)=some false:=by
   rw[show(q.Kind==3)=false by rw[Ei];omega,show(q.Kind==4)=false by rw[Ei];omega];rfl
  rw[this];simp only[Aa,Ac]
  cases decide (w>=0)with
  |false=>exact⟨_,_,_,rfl,.inl ⟨rfl,rfl⟩,λ_=>rfl⟩
  |true=>
   simp only[Aj,Ac]
   cases k1:(q.Kind==1)with
   |true=>
    simp only[Ae];obtain⟨live,l1,l2,l3,l4⟩:=L7 h.st;obtain⟨c,f1,f2⟩:=qR h l4 q.Text;rw[l1];simp only[Aa];rw[f1];simp only[Aa]
    rcases f2 with⟨rfl,f2⟩|⟨f2,f3⟩
    ·obtain⟨z,z1,z2,z3⟩:=zX q.Text hq.text;rw[show((0:Int)==0)=true from rfl,z1];refine⟨_,_,_,rfl,.inr ⟨rfl,_,rfl,ACe hq.vol (by have:=hq.sec;omega) ⟨b.1,b.2⟩,by simp,rfl,.inr ⟨rfl,rfl,?_,?_,λc hc=>f2 c ((l3 c).2 hc)⟩⟩,λhh=>absurd rfl hh⟩
     ·intro e;have e':L z=[]:=e;rw[e']at z3;simp at z3
     show V9 z=some q.Text;unfold V9;rw[z2]
    have f:=(l3 c).1 f2;have l:=gW h.st f;rw[show(c==0)=false by rw[Ei];omega];refine⟨_,_,_,rfl,.inr ⟨rfl,_,rfl,ACe hq.vol (by have:=hq.sec;omega) (by omega),by simp,rfl,.inl ⟨E7 _,λ_=>⟨f,f3⟩⟩⟩,λhh=>absurd rfl hh⟩
   |false=>
    simp only[Ac]
    cases k2:(q.Kind==2)with
    |true=>
     refine⟨_,_,_,rfl,.inr ⟨rfl,_,rfl,?_,by simp,rfl,.inl ⟨E7 _,λhh=>by simp at hh⟩⟩,λhh=>absurd rfl hh⟩;have:=hq.vol;have:=hq.sec;unfold HE;simp;omega
    |false=>
     simp only[Ac]
     cases k5:(q.Kind==5)with
     |true=>
      refine⟨_,_,_,rfl,.inr ⟨rfl,_,rfl,?_,by simp,rfl,.inl ⟨E7 _,λhh=>by simp at hh⟩⟩,λhh=>absurd rfl hh⟩;have:=hq.vol;unfold HE;simp;omega
     |false=>exact⟨_,_,_,rfl,.inl ⟨rfl,rfl⟩,λ_=>rfl⟩
theorem mL (h:E6 l nx x=some (l',nx')) (hk:x.Kind≠1):(∀c,Ff l' c->Ff l c\/c=x.Chunk)/\nx<=nx'/\nx'<=max nx (x.Chunk+1):=by
 unfold E6 at h;split at h
 ·cases h
 first
  |rw[Az hk]at h
  |skip
 split at h
 ·split at h
  ·cases h
  injection h with h
  injection h with h1 h2
  subst h1 h2;refine⟨λc hc=>?_,by omega,by omega⟩;obtain⟨h0,p,hp,hx⟩:=hc;unfold uN at hp;simp only[Ai,AQ,Aw]at hp
  rcases hp with(hp|rfl)|hp
  ·exact .inl ⟨h0,p,hp.1,hx⟩
  ·simp only at hx
   have zz:c∉TX:=λhz=>by have:=DC hz;omega
   split at hx
   ·cases hg:Ni l x.Arg with
    |none=>rw[hg]at hx;exact absurd hx zz
    |some row=>
     rw[hg]at hx;unfold Ni at hg;obtain⟨w,a,b⟩:=Be.1 hg;have d:=List.mem_of_find?_eq_some a;exact .inl ⟨h0,w,d,by rw[b];exact hx⟩
   exact absurd hx zz
  exact .inl ⟨h0,p,hp.1,hx⟩
 split at h
 ·cases h
 split at h
 ·injection h with h
  injection h with h1 h2
  subst h1 h2;refine⟨λc hc=>?_,by omega,by omega⟩;obtain⟨h0,p,hp,hx⟩:=hc;exact .inl ⟨h0,p,(AQ.1 hp).1,hx⟩
 injection h with h
 injection h with h1 h2
 subst h1 h2;refine⟨λc hc=>?_,by omega,by omega⟩;obtain⟨h0,p,hp,hx⟩:=hc;unfold oE at hp;obtain⟨w,hw,rfl⟩:=AL.1 hp;split at hx
 ·rcases CB hx with hx|hx
  ·exact .inl ⟨h0,w,hw,hx⟩
  exact .inr hx
 exact .inl ⟨h0,w,hw,hx⟩
theorem pP (h:E6 l nx x=some (l',nx')) (hk:x.Kind≠1):∀p∈l',(∃p'∈l,p'.1=p.1)\/p.1=x.Vol:=by
 unfold E6 at h;split at h
 ·cases h
 first
  |rw[Az hk]at h
  |skip
 split at h
 ·split at h
  ·cases h
  injection h with h
  injection h with h1 h2
  subst h1 h2;intro p hp;unfold uN at hp;simp only[Ai,AQ,Aw]at hp
  rcases hp with(hp|rfl)|hp
  ·exact .inl ⟨p,hp.1,rfl⟩
  ·exact .inr rfl
  exact .inl ⟨p,hp.1,rfl⟩
 split at h
 ·cases h
 split at h
 ·injection h with h
  injection h with h1 h2
  subst h1 h2
  exact λp hp=> .inl ⟨p,(AQ.1 hp).1,rfl⟩
 injection h with h
 injection h with h1 h2
 subst h1 h2;intro p hp;unfold oE at hp;obtain⟨w,hw,rfl⟩:=AL.1 hp;refine .inl ⟨w,hw,?_⟩;split<;>rfl
theorem aK (h:IZ d r):∃v,Lu d=some v:=by
 have hr:=h.pages;have ht:1<=d.Tx/\d.Tx<=1000000001:=by
  rw[h.tx];have h1:=Ye r;refine⟨h1.2.1,h1.2.2 _ (by omega) (λy hy _=>?_)⟩;have:=(hr.tx y hy).2;omega
 unfold Lu
 cases(d.Base !=sb d.Tx 1)with
 |true=>exact⟨_,rfl⟩
 |false=>
  simp only[Ac];rw[h.scan.s];simp only[Aa];rw[Ou r hr];simp only[Aa];obtain⟨g1,_⟩:=Q5 hr;obtain⟨b,h1,_⟩:=Bb (body:=λs:Int=>F6 d (Bw r) s) (λ(_:Unit) i=>i) (Bw r).length (λ_ _=>True) (λ_=>True)
   (λ_ i hi _=>by
    have hx:=Ab hi;simp only[F6,A7,Ad hi,Ae,A9,hx,Aa];rw[ad1 (by omega)]
    cases((Bw r)[i].Num==d.Base)with
    |false=>exact .inl ⟨(),by first|rfl|trivial,trivial⟩
    |true=>
     simp only[Ae]
     cases a:(Bw r)[i].Recs with
     |nil=>exact .inr ⟨_,rfl,trivial⟩
     |cons q m=>
      have hg:gi (q::m) 0=some q:=A9 (i:=0);rw[Ad (by rw[BM,Ay];omega:ln (q::m)>0),hg]
      exact .inr ⟨_,rfl,trivial⟩)
   (λ_ _=>⟨.inl (),by simp only[F6,A7,Al,Ap,Ac],trivial⟩) (s:=()) trivial
  have h1':Ar (λs:Int=>F6 d (Bw r) s) 0=some b:=h1;rw[h1']
  cases b with
  |inl u=>exact⟨_,rfl⟩
  |inr v=>exact⟨v,rfl⟩
theorem aP (h:IZ d r):∃v,L0 d=some v:=by
 have hn:=h.fl.n;obtain⟨live,l1,_,_,l4⟩:=L7 h.st;unfold L0;rw[h.scan.s,l1];simp only[Aa];rw[MW r live d.Base h.scan.len l4,MW r live 1000000000 h.scan.len l4];simp only[Aa]
 have a:∀b,live.foldl (bD r) (r.map (D9 b))=C1 r live b:=λ_=>rfl
 rw[a,a];obtain⟨b,h1,_⟩:=Bb (body:=λs:Int×Int×Int=>Dt d r (C1 r live d.Base) (C1 r live 1000000000) s.1 s.2.1 s.2.2) (λ(o:Int×Int) i=>(o.1,o.2,i)) d.Flash.Blocks.length (λ_ _=>True) (λ_=>True)
  (λo i hi _=>by
   have hx:=Ab hi;have hP:=h.fl.blk _ (AD hi);simp only[Dt,A7,Ad hi,Ae,A9,hx,Aa];rw[YM r _ (i:Int) h.scan.len (Kt _ _ _),YM r _ (i:Int) h.scan.len (Kt _ _ _),KH _ hP.four,ad1 (by omega)];simp only[Aa,M5]
   cases(bif !d.Flash.Blocks[i].Bad then _ else false)with
   |true=>exact .inl ⟨(_,_),by first|rfl|trivial,trivial⟩
   |false=>exact .inl ⟨o,by first|rfl|trivial,trivial⟩)
  (λo _=>⟨o.1,by simp only[Dt,A7,Al,Ap,Ac],trivial⟩) (s:=(-1,4)) trivial
 have h1':Ar (λs:Int×Int×Int=>Dt d r (C1 r live d.Base) (C1 r live 1000000000) s.1 s.2.1 s.2.2) (-1,4,0)=some b:=h1;rw[h1'];exact⟨_,rfl⟩
theorem IZ.seqs (h:IZ d r):0<=d.Seq/\d.Seq<=1000000001:=by
 rw[h.seq];have h1:=N4 r;refine⟨by omega,h1.2.2 _ (by omega) (λy hy=>?_)⟩;have:=(h.pages.seq y hy).2;omega
theorem fH (h:∀y∈r',y.Page.Kind=2->y.Page.Tx<DE r+n):DE r'<=DE r+n:=(Ye r').2.2 _ (by have:=(Ye r).2.1;omega) h
theorem X6 (n:Nat) (hy:y∈r) (hk:y.Page.Kind=2):y.Page.Tx<DE r+n:=by have:=(Ye r).1 y hy hk;omega
theorem dR {seq tx:Int} (h:p∈CH seq tx T):p.Tx=tx:=by
 unfold CH at h;obtain⟨i,hi,rfl⟩:=AG h;rw[List.getElem_mapIdx]
theorem fP (h:∀y∈r',y.Page.Seq<Dm r+n):Dm r'<=Dm r+n:=(N4 r').2.2 _ (by have:=(N4 r).2.1;omega) h
theorem X8 (n:Nat) (hy:y∈r):y.Page.Seq<Dm r+n:=by have:=(N4 r).1 y hy;omega
theorem oW {seq tx:Int} (h:p∈CH seq tx T):p.Seq<seq+T.length:=by
 unfold CH at h;obtain⟨i,hi,rfl⟩:=AG h;rw[Hv]at hi;rw[List.getElem_mapIdx];show seq+(i:Int)<_;omega
theorem cG {c:Int} {a:ByteArray} (h:p∈DB d c a++CH (K3 d a) d.Tx T):p.Seq<d.Seq+1+T.length:=by
 rcases Ai.1 h with h|h
 ·unfold DB at h;by_cases e:L a=[]
  ·rw[Ax e]at h;cases h
  rw[Az e,Aw]at h;rw[h];show d.Seq<_;omega
 have h1:=oW h;have h2:K3 d a<=d.Seq+1:=by unfold K3;split<;>omega
 omega
theorem R4 {seq tx:Int} (h:p∈CH seq tx T):p.Kind=2:=by
 unfold CH at h;obtain⟨i,hi,rfl⟩:=AG h;rw[List.getElem_mapIdx]
def AB5 (m:Flash) (s:Bl) (g:Flash):Prop:=BU g/\XY m g/\((s.Kind=1/\KL 0 g.Blocks=KL 0 m.Blocks)\/(s.Kind=2/\KL 0 g.Blocks=(KL 0 m.Blocks).filter λy=>y.Block !=s.Block))
def eM (f:Flash) (ss:List Bl) (k:Nat) (g:Flash):Prop:=∃m,Steps f (ss.take k) m/\(g=m\/∃s,ss[k]?=some s/\Tp m s/\AB5 m s g)
theorem SI:∀{f:Flash} {a:List Bl} {g m:Flash},Steps f a g->Steps f a m->g=m
 |f,[],g,m,h,k=>by rw[show g=f from h,show m=f from k]
 |f,s::a,g,m,h,k=>SI h.2 k.2
theorem uY {m:Flash} {a b:List Bl} (h:eM f (a++b) k g) (hs:Steps f a m):(k<a.length/\eM f a k g)\/(a.length<=k/\eM m b (k-a.length) g):=by
 obtain⟨x,h1,h2⟩:=h;by_cases e:k<a.length
 ·left;rw[FX (by omega)]at h1;rw[AR e]at h2;exact⟨e,x,h1,h2⟩
 right;rw[W0,AS (by omega)]at h1;rw[AY (by omega)]at h2;obtain⟨y,y1,y2⟩:=(P6 _ _ _ _).1 h1;rw[SI y1 hs]at y2;exact⟨by omega,x,y2,h2⟩
structure Ld (n:Nat) (d:AK) (r:List A4) (d':AK) (r':List A4):Prop where
 good:Lk d' r'
 ab:BT d'.Store=BT d.Store
 nx:d'.Store.Next=d.Store.Next
 pg:∀y∈r',y.Page.Kind=1->∃z∈r,z.Page.Kind=1/\z.Page.Tx=y.Page.Tx/\z.Page.Text=y.Page.Text
 tx:DE r'<=DE r+n
 wear:∀w:Int,HK d.Flash w->HK d'.Flash (w+n)
 text:∀c,Ff (BT d.Store) c->Dl r' c=Dl r c
 sq:Dm r'<=Dm r+200*n
structure As (d:AK) (r:List A4) (d':AK) (r':List A4):Prop where
 good:Lk d' r'
 ab:BT d'.Store=BT d.Store
 nx:d'.Store.Next=d.Store.Next
 tx:DE r'<=DE r+1
 wear:∀w:Int,HK d.Flash w->HK d'.Flash (w+1)
 text:∀c,Ff (BT d.Store) c->Dl r' c=Dl r c
theorem As.torn (h:As d a e b) (hg:BU g) (hp:KL 0 g.Blocks=KL 0 e.Flash.Blocks) (hw:XY e.Flash g):∃x,Dc g=some (x,true)/\x.Flash=g/\As d a x b:=by
 obtain⟨x,u1,u2,u3⟩:=NU hg (r:=b) (by rw[hp];exact h.good.dev.sr);obtain⟨e1,e2,_⟩:=JV h.good.dev u2 rfl;exact⟨x,u1,u3,⟨⟨u2,h.good.core,by rw[e1];exact h.good.data⟩,by rw[e1,h.ab],by rw[e2,h.nx],h.tx,λw hh=>by rw[u3];exact hw _ (h.wear w hh),h.text⟩⟩
theorem X3 (h:XY f g) (w:Int) (hw:HK f w):HK g (w+n):=λb hb=>by have:=h w hw b hb;omega
theorem Ld.refl (h:Lk d r):Ld n d r d r:=⟨h,rfl,rfl,λy hy hk=>⟨y,hy,hk,rfl,rfl⟩,by omega,X3 λ_ h=>h,λ_ _=>rfl,by omega⟩
theorem Ld.trans {g:AK} {c:List A4} (h:Ld n d a e b) (k:Ld m e b g c):Ld (n+m) d a g c:=⟨k.good,by rw[k.ab,h.ab],by rw[k.nx,h.nx],λy hy hk=>by
 obtain⟨z,z1,z2,z3,z4⟩:=k.pg y hy hk;obtain⟨w,w1,w2,w3,w4⟩:=h.pg z z1 z2
 exact⟨w,w1,w2,by rw[w3,z3],by rw[w4,z4]⟩,by have:=h.tx;have:=k.tx;omega,λw hw=>by
 have:=k.wear _ (h.wear w hw);intro x hx;have:=this x hx
 omega,λc hc=>by rw[k.text c (by rw[h.ab];exact hc),h.text c hc],by have:=h.sq;have:=k.sq;omega⟩
theorem Ld.mono (h:Ld n d a e b) (hm:n<=m):Ld m d a e b:={h with
 tx:=by have:=h.tx;omega
 wear:=λw hw x hx=>by have:=h.wear w hw x hx;omega
 sq:=by have:=h.sq;omega}
theorem Ld.torn (h:Ld n d a e b) (hg:BU g) (hp:KL 0 g.Blocks=KL 0 e.Flash.Blocks) (hw:XY e.Flash g):∃x,Dc g=some (x,true)/\x.Flash=g/\Ld n d a x b:=by
 obtain⟨x,u1,u2,u3⟩:=NU hg (r:=b) (by rw[hp];exact h.good.dev.sr);obtain⟨e1,e2,_⟩:=JV h.good.dev u2 rfl;exact⟨x,u1,u3,⟨⟨u2,h.good.core,by rw[e1];exact h.good.data⟩,by rw[e1,h.ab],by rw[e2,h.nx],h.pg,h.tx,λw hh=>by rw[u3];exact hw _ (h.wear w hh),h.text,h.sq⟩⟩
def OG (n:Nat) (d:AK) (r:List A4) (steps:List Bl):Prop:=(∃m,Steps d.Flash steps m)/\∀k g,k<=steps.length->eM d.Flash steps k g->∃x rx,Dc g=some (x,true)/\x.Flash=g/\Ld n d r x rx
theorem dN {steps:List Bl} (h1:∀s∈steps,s.Kind=1) (hc:∀k,k<=steps.length->∃x rx,Steps d.Flash (steps.take k) x.Flash/\Dc x.Flash=some (x,true)/\Ld n d r x rx):OG n d r steps:=by
 refine⟨?_,λk g hk hg=>?_⟩
 ·obtain⟨x,rx,c1,_⟩:=hc steps.length (A3 _);rw[AN]at c1;exact⟨_,c1⟩
 obtain⟨x,rx,c1,c2,c3⟩:=hc k hk;obtain⟨m,m1,m2⟩:=hg;have:=SI m1 c1;subst this
 rcases m2 with rfl|⟨s,s1,_,s2,s3,⟨_,s4⟩|⟨s4,_⟩⟩
 ·exact⟨x,rx,c2,rfl,c3⟩
 ·obtain⟨y,y1,y2,y3⟩:=c3.torn s2 s4 s3;exact⟨y,rx,y1,y2,y3⟩
 have:=h1 s (A5 s1);omega
theorem OG.full {steps:List Bl} (h:Lk d r) (hc:OG n d r steps) (hl:steps.length<=1000000):∃x rx,HB d steps=some x/\Steps d.Flash steps x.Flash/\Ld n d r x rx:=by
 obtain⟨⟨m,hm⟩,hk⟩:=hc;obtain⟨x,rx,x1,x2,x3⟩:=hk steps.length m (A3 _) ⟨m,by rw[AN];exact hm,.inl rfl⟩;exact⟨x,rx,PJ h.dev hm (by omega) x1,by rw[x2];exact hm,x3⟩
theorem vE {re:List A4} {a b:List Bl} (hk:Ld n d r e re) (hs:Steps d.Flash a e.Flash) (ha:OG n d r a) (hb:OG m e re b):OG (n+m) d r (a++b):=by
 refine⟨?_,λk g c hg=>?_⟩
 ·obtain⟨x,hx⟩:=hb.1;exact⟨x,(P6 _ _ _ _).2 ⟨_,hs,hx⟩⟩
 rw[Ag]at c
 rcases uY hg hs with⟨e1,e2⟩|⟨e1,e2⟩
 ·obtain⟨x,rx,x1,x2,x3⟩:=ha.2 k g (by omega) e2;exact⟨x,rx,x1,x2,x3.mono (by omega)⟩
 obtain⟨x,rx,x1,x2,x3⟩:=hb.2 _ g (by omega) e2;exact⟨x,rx,x1,x2,hk.trans x3⟩
theorem YQ (r m:List A4) (c:Int) (h:∀y∈m,¬(y.Page.Kind=1/\y.Page.Tx=c)):KN (r++m) c=KN r c:=by
 unfold KN;rw[AO,Bs.2 (λy hy hh=>h y hy (RC.1 hh)),A0]
theorem aB (h:Lk d r) (hw:HK d.Flash 999999999):∃steps ok,L9 d=some (steps,ok)/\steps.length<=200/\(ok=false->steps=[])/\(ok=true->OG 1 d r steps):=by
 have hv:=h.dev.st.vs;obtain⟨dead,d1,d2,d3⟩:=YA h.dev;unfold L9;rw[d1];simp only[Aa]
 cases hd:dead with
 |cons b m=>
  rw[Ad (by rw[BM,Ay];omega:ln (b::m)>0),show gi (b::m) 0=some b from A9 (i:=0)];simp only[Ae,Aa];refine⟨_,_,rfl,by simp,(λhh=>by cases hh),λ_=>?_⟩;obtain⟨x,x1,x2,x3⟩:=d3 b (by rw[hd];simp);have hc:zO d.Flash b:=⟨x,x1,x2,λe=>by have:=hw x (A5 (Dk x1).2);omega⟩;have hs:Tp d.Flash (Bl.mk 2 b 0 (bs [])):= .inr ⟨rfl,hc⟩;obtain⟨w1,w2⟩:=W3 h.dev.fl hc;have he:K6 d.Flash (Bl.mk 2 b 0 (bs []))=TY d.Flash b:=by unfold K6;rw[Az (by simp)]
  have wp:∀g,BU g->KL 0 g.Blocks=((KL 0 d.Flash.Blocks).filter λy=>y.Block !=b)->(∀w:Int,HK d.Flash w->HK g (w+1))->∃x rx,Dc g=some (x,true)/\x.Flash=g/\Ld 1 d r x rx:=by
   intro g g1 g2 g3;obtain⟨d',u1,u2,u3,u4,u5,_,u6⟩:=AAr h x3 g1 g2;exact⟨d',_,u1,u2,u3,u4,u5,λy hy hk=>⟨y,(AQ.1 hy).1,hk,rfl,rfl⟩,fH λy hy hk=>X6 _ (AQ.1 hy).1 hk,by rw[u2];exact g3,u6,fP (n:=200*1) λy hy=>X8 _ (AQ.1 hy).1⟩
  refine⟨⟨_,hs,rfl⟩,λk g hk hg=>?_⟩;obtain⟨q,q1,q2⟩:=hg
  cases k with
  |zero=>
   rw[show q=d.Flash from q1]at q2
   rcases q2 with rfl|⟨s,s1,_,s2,s3,⟨s4,_⟩|⟨_,s4⟩⟩
   ·obtain⟨x,u1,u2,u3⟩:=(Ld.refl (n:=1) h).torn h.dev.fl rfl λ_ hh=>hh
    exact⟨x,r,u1,u2,u3⟩
   ·simp only[CW,Ao]at s1;rw[<-s1]at s4;simp at s4
   simp only[CW,Ao]at s1;rw[<-s1]at s4
   exact wp g s2 s4 λw hh y hy=>by have:=s3 w hh y hy;omega
  |succ k=>
   have q1':Steps d.Flash [Bl.mk 2 b 0 (bs [])] q:=by simpa using q1
   have e:q=TY d.Flash b:=by rw[show q=K6 d.Flash (Bl.mk 2 b 0 (bs []))from q1'.2,he]
   rcases q2 with rfl|⟨s,s1,_⟩
   ·rw[e]
    exact wp _ w1 w2 λw hh=>by rw[<-he];exact cR hh (by omega) (.inr (EN _))
   simp at s1
 |nil=>
  rw[show decide (ln ([]:List Int)>0)=false from rfl];simp only[Ac];obtain⟨v,v1⟩:=aK h.dev;rw[v1];simp only[Aa]
  cases v with
  |false=>
   simp only[AC,Ae];unfold Mt;rw[UH h.dev.st];simp only[Aa];obtain⟨b1,b2⟩:=eT hv
   rcases QH h.dev.fl h.dev.seqs (KZ (BT d.Store) d.Store.Next) (by unfold KZ;simp) b2 b1 (bs [])with w|⟨steps,T,g,f,w1,w2,w3,w4,w5,w6,w7,w8,w9⟩
   ·rw[w];exact⟨_,_,rfl,by simp,λ_=>rfl,λhh=>by cases hh⟩
   rw[w2];simp only[Aa];have j:=(FB w7).2;have o:(CH (K3 d (bs [])) d.Tx T).length=T.length:=by unfold CH;rw[Hv]
   have l:DB d f.Chunk (bs [])=[]:=by unfold DB;rw[Ax (E7 _)]
   rw[l,AA,o]at j;refine⟨_,_,rfl,by omega,(λhh=>by cases hh),λ_=>dN (QJ w7) λk hk=>?_⟩;obtain⟨m,d',r',c1,c2,c3,c4,c5,rfl,cw,c6,c7,c8,c9⟩:=V8 h b1 w3 w4 w5 w6 w7 w9 (λhh=>absurd (E7 _) hh) k hk;have a:BT d'.Store=BT d.Store/\d'.Store.Next=d.Store.Next:=by
    by_cases e:k<steps.length
    ·obtain⟨e1,e2,_⟩:=JV h.dev c4 (by rw[c8 e]);exact⟨e1,e2⟩
    obtain⟨q,hq⟩:=(c9 (by omega)).1;have hB:bF (Tx.mk d.Tx q (KZ (BT d.Store) d.Store.Next))=true:=rfl;have a:=c4.ab;rw[hq,Sh,Ax hB]at a;have:LE [Tx.mk d.Tx q (KZ (BT d.Store) d.Store.Next)]=(BT d.Store,d.Store.Next):=by
     show(Dh [] 1 (KZ (BT d.Store) d.Store.Next)).getD ([],1)=_;rw[eV hv];rfl
    rw[this]at a
    injection a with e1 e2
    exact⟨e1,e2⟩
   have hX:∀y∈(CC steps (DB d f.Chunk (bs [])++CH (K3 d (bs [])) d.Tx T)).take k,y.Page.Kind=2/\y.Page.Tx=d.Tx:=λy hy=>by
    have cP:=NI _ _ _ y hy;rw[l,AA]at cP;exact⟨R4 cP,dR cP⟩
   refine⟨d',_,by rw[c5];exact c1,by rw[c5];exact c3,⟨c4,c6,by rw[a.1];exact c7⟩,a.1,a.2,λy hy hk=>?_,fH λy hy hk=>?_,by rw[c5];exact X3 (n:=1) cw,λc hc=>?_,fP (n:=200*1) λy hy=>?_⟩
   ·rcases Ai.1 hy with hh|hh
    ·exact⟨y,hh,hk,rfl,rfl⟩
    have:=(hX y hh).1;omega
   ·rcases Ai.1 hy with hh|hh
    ·exact X6 _ hh hk
    rw[(hX y hh).2,h.dev.tx];omega
   ·unfold Dl;rw[YQ _ _ _ λy hy hh=>by have:=(hX y hy).1;omega]
   rcases Ai.1 hy with hh|hh
   ·exact X8 _ hh
   have:=cG (NI _ _ _ y hh);rw[h.dev.seq]at this;omega
  |true=>
   simp only[Aj,Ac];obtain⟨vi,vi1⟩:=aP h.dev;rw[vi1];simp only[Aa]
   cases decide (vi<0)with
   |true=>exact⟨_,_,rfl,by simp,λ_=>rfl,λhh=>by cases hh⟩
   |false=>
    simp only[Ac]
    rcases aW h.dev h.few vi with w|⟨steps,ps,g,w1,w2,w3,w4,w5,w6,w7⟩
    ·rw[w];exact⟨_,_,rfl,by simp,λ_=>rfl,λhh=>by cases hh⟩
    rw[w1];refine⟨steps,true,rfl,by omega,(λhh=>by cases hh),λ_=>dN (QJ w2) λk hk=>?_⟩;obtain⟨m,d',c1,c2,c3,c4,c5,c6,_,cw,c7⟩:=yI h w2 w4 w5 w6 k;refine⟨d',_,by rw[c4];exact c1,by rw[c4];exact c3,c5,c6.ab,c6.nx,λy hy hk=>?_,fH λy hy hk=>?_,by rw[c4];exact X3 (n:=1) cw,c7,fP (n:=200*1) λy hy=>?_⟩
    ·rcases Ai.1 hy with hh|hh
     ·exact⟨y,hh,hk,rfl,rfl⟩
     obtain⟨⟨_,_,z,z1,z2⟩,_⟩:=w6 _ (NI _ _ _ _ hh);obtain⟨a1,a2,a3⟩:=UW z1;exact⟨z,a1,a2,a3,z2.symm⟩
    ·rcases Ai.1 hy with hh|hh
     ·exact X6 _ hh hk
     have:=(w6 _ (NI _ _ _ _ hh)).1.1;omega
    rcases Ai.1 hy with hh|hh
    ·exact X8 _ hh
    have:=w7 _ (NI _ _ _ _ hh);rw[h.dev.seq]at this;omega
theorem Wy (h:BU f):∃v:Int,Mn f=some v:=by
 obtain⟨v,v1,_⟩:=Wz f h.cap (by have:=h.few;omega);exact⟨v,v1⟩
theorem aC (h:Lk d r) (hw:HK d.Flash 999999000) (most:Int):∃d' all r',HC d most=some (d',all)/\Ld 20 d r d' r'/\all.length<=4000/\Steps d.Flash all d'.Flash/\OG 20 d r all:=by
 unfold HC;rw[Om h.dev];simp only[Aa]
 have l:∀{n:Nat} {a:List Bl},n<=20->OG n d r a->OG 20 d r a:=λhn hc=>⟨hc.1,λk g hk hg=>by
  obtain⟨x,rx,x1,x2,x3⟩:=hc.2 k g hk hg
  exact⟨x,rx,x1,x2,x3.mono hn⟩⟩
 obtain⟨b,h1,d',all,r',h2,h3,h4,h5,h6⟩:=Bb (body:=λs:List Bl×Int×List Block×List Vol×List BJ×Int×Int×Int×Int=>DT most s.1 s.2.1 s.2.2.1 s.2.2.2.1 s.2.2.2.2.1 s.2.2.2.2.2.1 s.2.2.2.2.2.2.1 s.2.2.2.2.2.2.2.1 s.2.2.2.2.2.2.2.2)
  (λ(o:List Bl×AK) i=>(o.1,i,o.2.Flash.Blocks,o.2.Store.Vols,o.2.Store.Arena.Knots,o.2.Store.Next,o.2.Seq,o.2.Tx,o.2.Base)) 20
  (λi o=>o.1.length<=200*i/\∃r',Ld i d r o.2 r'/\Steps d.Flash o.1 o.2.Flash/\OG i d r o.1)
  (λb=>∃d' all r',(b= .inr (d',all)\/b= .inl (all,d'.Flash.Blocks,d'.Store.Vols,d'.Store.Arena.Knots,d'.Store.Next,d'.Seq,d'.Tx,d'.Base))/\Ld 20 d r d' r'/\all.length<=4000/\Steps d.Flash all d'.Flash/\OG 20 d r all)
  (λo i hi hs=>by
   obtain⟨all,e⟩:=o;obtain⟨j,r',hg,c,f⟩:=hs;simp only at j hg c f;have m:AK.mk (Flash.mk e.Flash.Blocks) (Store.mk e.Store.Vols (Arena.mk e.Store.Arena.Knots) e.Store.Next) e.Seq e.Tx e.Base=e:=rfl;have p:Flash.mk e.Flash.Blocks=e.Flash:=rfl;simp only[DT];rw[m,p];obtain⟨v,v1⟩:=Wy hg.good.dev.fl;rw[v1,Ad (by omega:(i:Int)<20)];simp only[Ae,Aa,M5]
   cases(bif decide ((i:Int)<most)then decide (v<12)else false)with
   |false=>
    simp only[Ac];exact .inr ⟨_,rfl,e,all,r',.inr rfl,hg.mono (by omega),by omega,c,l (by omega) f⟩
   |true=>
    simp only[Ae];obtain⟨steps,ok,c1,c2,_,c3⟩:=aB hg.good (λx hx=>by have:=hg.wear _ hw x hx;omega);rw[c1];simp only[Aa]
    cases ok with
    |false=>
     simp only[AC,Ae];exact .inr ⟨_,rfl,e,all,r',.inl rfl,hg.mono (by omega),by omega,c,l (by omega) f⟩
    |true=>
     obtain⟨d',r2,k1,k2,k3⟩:=(c3 rfl).full hg.good (by omega);simp only[Aj,Ac];rw[k1];simp only[Aa];rw[Cg (by omega),ad1 (by omega)]
     exact .inl ⟨(all++steps,d'),rfl,by simp;omega,r2,hg.trans k3,(P6 _ _ _ _).2 ⟨_,c,k2⟩,vE hg c f (c3 rfl)⟩)
  (λo hs=>by
   obtain⟨all,e⟩:=o;obtain⟨j,r',hg,c,f⟩:=hs;refine⟨.inl (all,e.Flash.Blocks,e.Store.Vols,e.Store.Arena.Knots,e.Store.Next,e.Seq,e.Tx,e.Base),?_,e,all,r',.inr rfl,hg,by simpa using j,c,f⟩;simp only[DT];rw[Af (by omega:¬((20:Nat):Int)<20)]
   cases decide (((20:Nat):Int)<most)<;>rfl) (s:=([],d)) ⟨by simp,r,Ld.refl h,rfl,⟨⟨_,rfl⟩,λk g hk hg=>by
   obtain⟨q,q1,q2⟩:=hg;rw[List.take_nil]at q1;rw[show q=d.Flash from q1]at q2
   rcases q2 with rfl|⟨s,s1,_⟩
   ·obtain⟨x,u1,u2,u3⟩:=(Ld.refl (n:=0) h).torn h.dev.fl rfl λ_ hh=>hh
    exact⟨x,r,u1,u2,u3⟩
   simp at s1⟩⟩
 have h1':Ar (λs:List Bl×Int×List Block×List Vol×List BJ×Int×Int×Int×Int=>DT most s.1 s.2.1 s.2.2.1 s.2.2.2.1 s.2.2.2.2.1 s.2.2.2.2.2.1 s.2.2.2.2.2.2.1 s.2.2.2.2.2.2.2.1 s.2.2.2.2.2.2.2.2) ([],0,d.Flash.Blocks,d.Store.Vols,d.Store.Arena.Knots,d.Store.Next,d.Seq,d.Tx,d.Base)=some b:=h1;rw[h1']
 rcases h2 with rfl|rfl
 ·exact⟨d',all,r',rfl,h3,h4,h5,h6⟩
 exact⟨d',all,r',rfl,h3,h4,h5,h6⟩
theorem wN {r:Int} (h:k<16):(Fy K r)[k]?=some (QU K r k):=by unfold Fy;exact HZ h
theorem kQ (h:Dr s) (vol:Int) (hk:k<16):∃c,Pf s vol (k:Int)=some c/\((Ni (BT s) vol=none/\c=0)\/∃a,Ni (BT s) vol=some a/\a[k]?=some c/\0<=c/\(c≠0->Ff (BT s) c)):=by
 have hl:=h.len;unfold Pf
 rcases GA s (by omega) vol with⟨e,e2⟩|⟨i,v,e,e2,e3,_⟩
 ·rw[e];exact⟨0,rfl,.inl ⟨Pu.1 e2,rfl⟩⟩
 rw[e];simp only[Aa];have hm:=A5 e2;have hr:=h.root _ (AL.2 ⟨v,hm,rfl⟩);rw[Af (by omega),Ac,A9,e2];simp only[Aa];rw[Y5 _ (by have:=h.few;omega) h.ar hr hk];have hg:=Nr h.asc hm;rw[e3]at hg;have h0:=mS h.ar hr _ (ZF hk);exact⟨_,rfl,.inr ⟨_,hg,wN hk,h0,λb=>⟨by omega,_,AL.2 ⟨v,hm,rfl⟩,ZF hk⟩⟩⟩
theorem Ol (h:Lk d r) (vol:Int) (hk:k<16):(Ni (BT d.Store) vol=none/\GX r d.Store vol (k:Int)=some (bs [],false))\/
  ∃a c,Ni (BT d.Store) vol=some a/\a[k]?=some c/\Pf d.Store vol (k:Int)=some c/\((c=0/\GX r d.Store vol (k:Int)=some (bs [],true))\/(0<c/\Ff (BT d.Store) c/\∃u,Dl r c=some u/\GX r d.Store vol (k:Int)=some (u,true))):=by
 have hl:=h.dev.st.len;obtain⟨c,c1,c2⟩:=kQ h.dev.st vol hk;unfold GX;rw[c1]
 rcases GA d.Store (by omega) vol with⟨e,e2⟩|⟨i,v,e,e2,e3,_⟩
 ·rw[e];exact .inl ⟨Pu.1 e2,rfl⟩
 have hg:=Nr h.dev.st.asc (A5 e2);rw[e3]at hg
 rcases c2 with⟨c2,_⟩|⟨a,c2,c3,c4,c5⟩
 ·rw[hg]at c2;cases c2
 rw[e];simp only[Aa];rw[Af (by omega),Ac];right;refine⟨a,c,c2,c3,rfl,?_⟩;by_cases e0:c=0
 ·rw[show(c==0)=true by simpa using e0];exact .inl ⟨e0,rfl⟩
 rw[show(c==0)=false by simpa using e0];simp only[Ac];have b:=c5 e0;obtain⟨u,hu⟩:=h.data.data c b;obtain⟨w,ok,t1,t2⟩:=kG h.dev.pages c;rw[t1];rw[hu]at t2
 cases ok with
 |false=>cases t2
 |true=>
  rw[Ax rfl]at t2
  injection t2 with t2
  exact .inr ⟨by omega,b,u,hu,by rw[t2];rfl⟩
theorem qL (h:IZ d r) {q:fC} {a:List CK} {b:ByteArray} (hp:NC d q=some (a,b,0)):ADE q:=by
 obtain⟨v,a1,a2⟩:=dE q
 cases v with
 |true=>exact a2 rfl
 |false=>
  unfold NC at hp;rw[a1]at hp;simp at hp
def nI (r r':List A4) (c:Int) (a:ByteArray):Prop:=(∀y∈r',y.Page.Kind=1->(∃z∈r,z.Page.Kind=1/\z.Page.Tx=y.Page.Tx/\z.Page.Text=y.Page.Text)\/(L a≠ []/\y.Page.Tx=c/\y.Page.Text=a))/\DE r'<=DE r+1/\Dm r'<=Dm r+10
theorem AAq (h:Lk d r) {q:fC} {b:ByteArray} (hx:ABL d r q x b):Er d [x] b=some ([],false)\/∃steps d' r',Er d [x] b=some (steps,true)/\steps.length<=10/\HB d steps=some d'/\Lk d' r'/\
  (BT d'.Store,d'.Store.Next)=(E6 (BT d.Store) d.Store.Next x).getD (BT d.Store,d.Store.Next)/\d.Store.Next<=d'.Store.Next/\d'.Store.Next<=d.Store.Next+1/\nI r r' x.Chunk b/\XY d.Flash d'.Flash/\Steps d.Flash steps d'.Flash/\1<=steps.length/\∀k g,k<steps.length->eM d.Flash steps k g->∃y ry,Dc g=some (y,true)/\y.Flash=g/\As d r y ry/\nI r ry x.Chunk b:=by
 obtain⟨x1,x2,xv,x3⟩:=hx;have h7:=h.dev.st.nx
 have i:∀z∈ [x],HE z=true:=λz hz=>by rw[Aw]at hz;rw[hz];exact x1
 rcases QH h.dev.fl h.dev.seqs [x] (by simp) (by simp) i b with w|⟨steps,T,g,a,w1,w2,w3,w4,w5,w6,w7,w8,w9⟩
 ·exact .inl w
 right;have j:a=x:=by simpa using w1.symm
 subst j;have t:=(FB w7).2;have h3:(CH (K3 d b) d.Tx T).length=T.length:=by unfold CH;rw[Hv]
 have h8:(DB d a.Chunk b).length<=1:=by unfold DB;split<;>simp
 rw[Ag,h3]at t
 have l:L b≠ []->¬Ff (BT d.Store) a.Chunk:=λht h4=>by
  rcases x3 with⟨x3,_⟩|⟨_,x4,_⟩
  ·exact ht x3
  have:=gW h.dev.st h4;omega
 have fw:∀k,nI r (r++(CC steps (DB d a.Chunk b++CH (K3 d b) d.Tx T)).take k) a.Chunk b:=λk=>by
  have cP:∀y∈r++(CC steps (DB d a.Chunk b++CH (K3 d b) d.Tx T)).take k,y∈r\/y.Page∈DB d a.Chunk b++CH (K3 d b) d.Tx T:=λy hy=>(Ai.1 hy).imp id (NI _ _ _ y)
  refine⟨λy hy hk=>?_,fH (n:=1) λy hy hk=>?_,fP (n:=10) λy hy=>?_⟩
  ·rcases cP y hy with hh|hh
   ·exact .inl ⟨y,hh,hk,rfl,rfl⟩
   rcases Ai.1 hh with hh|hh
   ·unfold DB at hh;by_cases e:L b=[]
    ·rw[Ax e]at hh;cases hh
    rw[Az e,Aw]at hh;exact .inr ⟨e,by rw[hh],by rw[hh]⟩
   have:=R4 hh;omega
  ·rcases cP y hy with hh|hh
   ·exact X6 _ hh hk
   rcases Ai.1 hh with hh|hh
   ·unfold DB at hh;by_cases e:L b=[]
    ·rw[Ax e]at hh;cases hh
    rw[Az e,Aw]at hh;rw[hh]at hk;cases hk
   rw[dR hh,h.dev.tx];omega
  rcases cP y hy with hh|hh
  ·exact X8 _ hh
  have:=cG hh;rw[h.dev.seq]at this;omega
 have cut:∀k g,k<steps.length->eM d.Flash steps k g->∃y ry,Dc g=some (y,true)/\y.Flash=g/\As d r y ry/\nI r ry a.Chunk b:=λk g hk hg=>by
  obtain⟨m,y,ry,c1,c2,c3,c4,c5,hr',cw,c6,c7,c8,_⟩:=V8 h i w3 w4 w5 w6 w7 w9 l k (by omega);obtain⟨e1,e2,_⟩:=JV h.dev c4 (by rw[c8 hk]);subst hr'
  have u:As d r y (r++(CC steps (DB d a.Chunk b++CH (K3 d b) d.Tx T)).take k):=⟨⟨c4,c6,by rw[e1];exact c7⟩,e1,e2,(fw k).2.1,by rw[c5];exact X3 (n:=1) cw,λc hc=>by
   unfold Dl;rw[YQ _ _ _ λz hz hh=>?_];have h5:=NI _ _ _ z hz
   rcases Ai.1 h5 with hh2|hh2
   ·unfold DB at hh2;by_cases e:L b=[]
    ·rw[Ax e]at hh2;cases hh2
    rw[Az e,Aw]at hh2;refine l e ?_;have:=hh.2;rw[hh2]at this;rw[show a.Chunk=c from this];exact hc
   have:=R4 hh2
   omega⟩
  obtain⟨q,q1,q2⟩:=hg;have:=SI q1 c1;subst this
  rcases q2 with rfl|⟨s,s1,_,s2,s3,⟨_,s4⟩|⟨s4,_⟩⟩
  ·exact⟨y,_,c3,c5,u,fw k⟩
  ·obtain⟨z,z1,z2,z3⟩:=u.torn s2 (by rw[c5];exact s4) (by rw[c5];exact s3);exact⟨z,_,z1,z2,z3,fw k⟩
  have:=QJ w7 s (A5 s1);omega
 obtain⟨m,d',r',c1,c2,c3,c4,c5,hr',cw,c6,c7,_,c9⟩:=V8 h i w3 w4 w5 w6 w7 w9 l steps.length (A3 _);rw[<-c5]at cw;rw[AN]at c1;have v:Steps d.Flash steps d'.Flash:=by rw[c5];exact c1
 have h0:nI r r' a.Chunk b:=by rw[hr'];exact fw _
 obtain⟨⟨qn,hq⟩,c10⟩:=c9 rfl;have hB:¬bF (Tx.mk d.Tx qn [a])=true:=by
  unfold bF;simpa using x2
 have f:=c4.ab;rw[hq,Sh,Az hB,YU,<-h.dev.ab]at f;have h6:Dh (BT d.Store) d.Store.Next [a]=E6 (BT d.Store) d.Store.Next a:=by
  rw[FO];cases E6 (BT d.Store) d.Store.Next a<;>rfl
 simp only[h6]at f;have h1:=PJ h.dev c1 (by omega) c3
 cases o:E6 (BT d.Store) d.Store.Next a with
 |none=>
  rw[o]at f;have e1:BT d'.Store=BT d.Store:=Cb Prod.fst f;have e2:d'.Store.Next=d.Store.Next:=Cb Prod.snd f;exact⟨steps,d',r',w2,by omega,h1,⟨c4,c6,by rw[e1];exact c7⟩,by rw[e1,e2];rfl,by omega,by omega,h0,cw,v,by omega,cut⟩
 |some p=>
  obtain⟨l',nx'⟩:=p;rw[o]at f;have e1:BT d'.Store=l':=Cb Prod.fst f;have e2:d'.Store.Next=nx':=Cb Prod.snd f;obtain⟨v1,v2,v3⟩:=mL o x2
  have hz:∀c,Ff l' c->c=a.Chunk->a.Kind≠4->False:=λc hc h9 hk=>by
   have:a.Chunk=0:=by
    have hb:=x1;unfold HE at hb;rw[show(a.Kind==1)=false by simpa using x2,show(a.Kind==4)=false by simpa using hk]at hb;simp at hb;omega
   have:=hc.1;omega
  have h2:a.Chunk<=d.Store.Next:=by
   by_cases hk:a.Kind=4
   ·rcases x3 with⟨_,x4⟩|⟨_,x4,_⟩
    ·have:=gW h.dev.st (x4 hk).1;omega
    omega
   have hb:=x1;unfold HE at hb;rw[show(a.Kind==1)=false by simpa using x2,show(a.Kind==4)=false by simpa using hk]at hb;simp at hb;omega
  refine⟨steps,d',r',w2,by omega,h1,⟨c4,c6,?_⟩,by rw[e1,e2];rfl,by omega,by omega,h0,cw,v,by omega,cut⟩;rw[e1]
  rcases x3 with⟨x3,x4⟩|⟨x3,x4,x5,x6,x7⟩
  ·refine c7.mono λc hc=>?_
   rcases v1 c hc with hh|hh
   ·exact hh
   by_cases hk:a.Kind=4
   ·rw[hh];exact(x4 hk).1
   exact absurd trivial (λ_=>hz c hc hh hk)
  exact(c10 _ x6 x5 x7).mono v1
def AAf (r r':List A4) (nx:Int) (a:ByteArray):Prop:=(∀y∈r',y.Page.Kind=1->(∃z∈r,z.Page.Kind=1/\z.Page.Tx=y.Page.Tx/\z.Page.Text=y.Page.Text)\/(y.Page.Tx=nx/\V9 y.Page.Text=some a))/\DE r'<=DE r+21/\Dm r'<=Dm r+4010
def ACR (d d':AK) (v:Int):Prop:=∀p∈BT d'.Store,(∃p'∈BT d.Store,p'.1=p.1)\/p.1=v
theorem Ld.q (h:Ld n d r e r') (hn:n<=20) (nx:Int) (t:ByteArray):AAf r r' nx t:=⟨λy hy hk=> .inl (h.pg y hy hk),by have:=h.tx;omega,by have:=h.sq;omega⟩
theorem Mw (h:BT d'.Store=BT d.Store) (v:Int):ACR d d' v:=λp hp=> .inl ⟨p,by rw[<-h];exact hp,rfl⟩
theorem ABv (h:Lk d r) (hw:HK d.Flash 999999000) (q:fC):∃d' steps t no r',XB d q=some (d',steps,t,no)/\Lk d' r'/\d.Store.Next<=d'.Store.Next/\d'.Store.Next<=d.Store.Next+1/\AAf r r' d.Store.Next q.Text/\ACR d d' q.Vol/\∀w:Int,HK d.Flash w->HK d'.Flash (w+20):=by
 have a:Ld 20 d r d r:=Ld.refl h;unfold XB;rw[Om h.dev,UF h.dev];simp only[Aa,Aj,Ac];obtain⟨v,h0,no,p1,p2,p3⟩:=nE h.dev q;rw[p1];simp only[Aa]
 cases f:(no !=0)with
 |true=>exact⟨_,_,_,_,r,rfl,h,by omega,by omega,a.q (by omega) _ _,Mw rfl _,a.wear⟩
 |false=>
  have g:no=0:=by simpa using f
  subst g;have hq:=qL h.dev p1;simp only[Ac]
  cases h1:(q.Kind==6)with
  |true=>
   simp only[Ae];obtain⟨k,hk⟩:∃k:Nat,q.Sector=(k:Int):=⟨_,(By hq.sec.1).symm⟩;unfold NB;rw[h.dev.scan.s,hk];simp only[Aa]
   rcases Ol h q.Vol (k:=k) (by have:=hq.sec;omega)with⟨_,e⟩|⟨h2,c,_,_,_,⟨_,e⟩|⟨_,_,u,_,e⟩⟩
   ·rw[e];exact⟨_,_,_,_,r,rfl,h,by omega,by omega,a.q (by omega) _ _,Mw rfl _,a.wear⟩
   ·rw[e];exact⟨_,_,_,_,r,rfl,h,by omega,by omega,a.q (by omega) _ _,Mw rfl _,a.wear⟩
   rw[e];exact⟨_,_,_,_,r,rfl,h,by omega,by omega,a.q (by omega) _ _,Mw rfl _,a.wear⟩
  |false=>
   simp only[Ac];obtain⟨v5,i⟩:=Wy h.dev.fl;rw[i];simp only[Aa];have clean:∃e all re,(cond (decide (v5<12)) ((HC d 20).bind λv6=>some (v6.2,v6.1.Flash.Blocks,v6.1.Store.Vols,v6.1.Store.Arena.Knots,v6.1.Store.Next,v6.1.Seq,v6.1.Tx,v6.1.Base)) (some ([],d.Flash.Blocks,d.Store.Vols,d.Store.Arena.Knots,d.Store.Next,d.Seq,d.Tx,d.Base)):Option (List Bl×List Block×List Vol×List BJ×Int×Int×Int×Int))=some (all,Flash.Blocks (AK.Flash e),e.Store.Vols,e.Store.Arena.Knots,e.Store.Next,e.Seq,e.Tx,e.Base)/\Ld 20 d r e re/\all.length<=4000:=by
    cases decide (v5<12)with
    |false=>exact⟨d,[],r,rfl,a,by simp⟩
    |true=>
     obtain⟨e,all,re,k1,k2,k3,_⟩:=aC h hw 20;simp only[Ae];rw[k1];exact⟨e,all,re,rfl,k2,k3⟩
   obtain⟨e,all,re,k1,k5,k4⟩:=clean;have k2:=k5.good;rw[k1];simp only[Aa];have j:AK.mk (Flash.mk e.Flash.Blocks) (Store.mk e.Store.Vols (Arena.mk e.Store.Arena.Knots) e.Store.Next) e.Seq e.Tx e.Base=e:=rfl;have l:Flash.mk e.Flash.Blocks=e.Flash:=rfl;rw[j,l];obtain⟨recs2,text2,no2,s1,s2,_⟩:=nE k2.dev q;rw[s1];simp only[Aa];obtain⟨v9,m⟩:=Wy k2.dev.fl;rw[m];have n:=k5.nx
   rcases s2 with⟨rfl,rfl⟩|⟨_,x,rfl,s2⟩
   ·have hw:Er e [] (bs [])=some ([],true):=rfl;rw[hw];simp only[Aa,Aj,Ac]
    cases decide (v9<8)with
    |true=>exact⟨_,_,_,_,re,rfl,k2,by omega,by omega,k5.q (by omega) _ _,Mw k5.ab _,k5.wear⟩
    |false=>
     simp only[Ac];obtain⟨d',u1,u2,u3⟩:=NU k2.dev.fl k2.dev.sr;obtain⟨e1,e2,_⟩:=JV k2.dev u2 rfl;rw[PJ k2.dev (steps:=[]) rfl (by simp) u1];simp only[Aa];rw[Cg (by simp;omega)];exact⟨_,_,_,_,re,rfl,⟨u2,k2.core,by rw[e1];exact k2.data⟩,by omega,by omega,k5.q (by omega) _ _,Mw (by rw[e1,k5.ab]) _,by rw[u3];exact k5.wear⟩
   rcases AAq k2 s2 with w|⟨steps,d',r',w1,w2,w3,w4,w7,w5,w6,w8,w9,_⟩
   ·rw[w];exact⟨_,_,_,_,re,rfl,k2,by omega,by omega,k5.q (by omega) _ _,Mw k5.ab _,k5.wear⟩
   rw[w1];simp only[Aa,Aj,Ac]
   cases decide (v9<8)with
   |true=>exact⟨_,_,_,_,re,rfl,k2,by omega,by omega,k5.q (by omega) _ _,Mw k5.ab _,k5.wear⟩
   |false=>
    simp only[Ac];rw[w3];simp only[Aa];rw[Cg (by omega)];refine⟨_,_,_,_,r',rfl,w4,by omega,by omega,⟨λy hy hk=>?_,by have:=w8.2.1;have:=k5.tx;omega,by have:=w8.2.2;have:=k5.sq;omega⟩,λp hp=>?_,λw hh=>w9 _ (k5.wear w hh)⟩
    ·rcases w8.1 y hy hk with⟨z,z1,z2,z3,z4⟩|⟨t1,t2,t3⟩
     ·obtain⟨w,a1,a2,a3,a4⟩:=k5.pg z z1 z2;exact .inl ⟨w,a1,a2,by rw[a3,z3],by rw[a4,z4]⟩
     obtain⟨_,_,_,s3⟩:=s2
     rcases s3 with⟨s3,_⟩|⟨_,s4,_,s5,_⟩
     ·exact absurd s3 t1
     exact .inr ⟨by rw[t2,s4,n],by rw[t3,s5]⟩
    have e1:=Cb Prod.fst w7;simp only at e1;rw[e1]at hp
    cases b:E6 (BT e.Store) e.Store.Next x with
    |none=>
     rw[b]at hp;exact .inl ⟨p,by rw[<-k5.ab];exact hp,rfl⟩
    |some lp=>
     rw[b]at hp;obtain⟨l',nx'⟩:=lp;have o:p∈l':=hp
     rcases pP b s2.2.1 p o with⟨p',q1,q2⟩|hh
     ·exact .inl ⟨p',by rw[<-k5.ab];exact q1,q2⟩
     exact .inr (by rw[hh,s2.2.2.1])
structure M7 (c:Cj):Prop where
 i0:0<=c.i_
 i1:c.i_<=(c.b_.length:Int)
 len:c.b_.length<=1048576
theorem zT (a:Int):0<=ban .i64 a 255/\ban .i64 a 255<=255:=by
 unfold ban;have h:(BitVec.ofInt IntKind.i64.bits a&&&BitVec.ofInt IntKind.i64.bits 255).toNat<=255:=by
  rw[BitVec.toNat_and];refine GN Nat.and_le_right ?_;exact Nat.le_of_eq rfl
 rw[OV (by omega) (by omega)];omega
theorem aD (h:M7 c):∃v c',Kn c=some (v,c')/\M7 c'/\0<=v/\v<=255:=by
 have:=h.i0;have:=h.i1;have:=h.len;unfold Kn;by_cases e:c.i_<ln c.b_
 ·rw[Ad e,Ae,Ln h.i0 (by rw[BM]at e;exact e)];rw[BM]at e;simp only[Aa];rw[CD (a:=c.i_) (by omega) (by omega)];exact⟨_,_,rfl,⟨by show 0<=c.i_+1;omega,by show c.i_+1<=(c.b_.length:Int);omega,h.len⟩,zT _⟩
 rw[Af e,Ac];exact⟨_,_,rfl,⟨h.i0,h.i1,h.len⟩,zT _⟩
theorem AC3 {a n:Int} (h0:0<=a) (hn:0<n):∃v,rm .i64 a n=some v/\0<=v/\v<n:=by
 unfold rm;rw[Az (by omega),Lj h0];exact⟨_,rfl,Int.emod_nonneg _ (by omega),Int.emod_lt_of_pos _ hn⟩
theorem SM (h:M7 c) (n:Int):∃v c',Eb c n=some (v,c')/\M7 c'/\0<=v/\(0<n->v<n):=by
 unfold Eb;by_cases h0:n<=0
 ·rw[Ad h0];exact⟨_,_,rfl,h,by omega,λhh=>by omega⟩
 rw[Af h0,Ac];by_cases h1:n<=256
 ·rw[Ad h1,Ae];obtain⟨v,c',k1,k2,k3,k4⟩:=aD h;rw[k1];obtain⟨w,w1,w2,w3⟩:=AC3 (n:=n) k3 (by omega);simp only[Aa];rw[w1];exact⟨_,_,rfl,k2,w2,λ_=>w3⟩
 rw[Af h1,Ac];obtain⟨v1,c1,a1,a2,a3,a4⟩:=aD h;obtain⟨v2,c2,b1,b2,b3,b4⟩:=aD a2;obtain⟨v3,c3,d1,d2,d3,d4⟩:=aD b2;obtain⟨v4,c4,e1,e2,e3,e4⟩:=aD d2;rw[a1];simp only[Aa];rw[b1];simp only[Aa];rw[d1];simp only[Aa];rw[e1];simp only[Aa];rw[Pn (by omega) (by omega),Pn (by omega) (by omega),Pn (by omega) (by omega),CD (a:=v1*16777216) (b:=v2*65536) (by omega) (by omega),CD (a:=v1*16777216+v2*65536) (b:=v3*256) (by omega) (by omega),CD (a:=v1*16777216+v2*65536+v3*256) (b:=v4) (by omega) (by omega)];obtain⟨w,w1,w2,w3⟩:=AC3 (a:=v1*16777216+v2*65536+v3*256+v4) (n:=n) (by omega) (by omega);rw[w1];exact⟨_,_,rfl,e2,w2,λ_=>w3⟩
theorem Nt (h:M7 c) (hn:0<n):∃(v:Nat) (c':Cj),Eb c (n:Int)=some ((v:Int),c')/\M7 c'/\v<n:=by
 obtain⟨v,c',k1,k2,k3,k4⟩:=SM h (n:Int);have:=k4 (by omega);exact⟨v.toNat,c',by rw[By k3];exact k1,k2,by omega⟩
theorem vB {l:List Int} (h:M7 c) (hl:0<l.length):∃v c',MS c l=some (v,c')/\M7 c'/\v∈l:=by
 unfold MS;obtain⟨v,c',k1,k2,k3⟩:=Nt h hl;rw[BM,k1];simp only[Aa];rw[A9,Ab k3];exact⟨_,_,rfl,k2,AD k3⟩
theorem ACH {l:List ByteArray} (h:M7 c) (hl:0<l.length):∃v c',Pd c l=some (v,c')/\M7 c'/\v∈l:=by
 unfold Pd;obtain⟨v,c',k1,k2,k3⟩:=Nt h hl;rw[BM,k1];simp only[Aa];rw[A9,Ab k3];exact⟨_,_,rfl,k2,AD k3⟩
theorem AAa (h:M7 c) (n:Int):∃v c',Kl c n=some (v,c')/\M7 c':=by
 unfold Kl;obtain⟨v,c',k1,k2,_⟩:=SM h n;rw[k1];exact⟨_,_,rfl,k2⟩
theorem OA (h:M7 c):M7 (Cj.mk c.b_ c.i_ c.h_):=h
theorem ADA (h:code.length<=1048576):∃c,U6 code=some c/\M7 c:=by
 unfold U6;obtain⟨b,h1,_⟩:=Bb (body:=λs:Int×Int=>Km code s.1 s.2) (λ(o:Int) i=>(o,i)) code.length (λ_ _=>True) (λ_=>True)
  (λo i hi _=>by
   have hx:=Ab hi;simp only[Km,A7,Ad hi,Ae,Aa,A9,hx];rw[ad1 (i:=i) (by omega)]
   cases decide ((i:Int)<4000)with
   |true=>exact .inl ⟨_,rfl,trivial⟩
   |false=>exact .inr ⟨_,rfl,trivial⟩)
  (λo _=>⟨o,by simp only[Km,A7,Al,Ap,Ac,Aa],trivial⟩) (s:=ad 36501 (ln code)) trivial
 have h1':Ar (λs:Int×Int=>Km code s.1 s.2) (ad 36501 (ln code),0)=some b:=h1;rw[h1'];exact⟨_,rfl,⟨EN _,by show(0:Int)<=_;omega,h⟩⟩
def ten:List ByteArray:=[bs [],bs [97],bs [98,98],bs [97,98,99,100,97,98,99,100,97,98,99,100],bs [104,101,108,108,111],bs [104,101,108,108,111,32,104,101,108,108,111,32,104,101,108,108,111],bs [122,122,122,122,122,122,122,122,122,122,122,122],bs [113,49],bs [113,50],bs [113,51]]
theorem ACC (h:M7 c):∃v c',Sj c=some (v,c')/\M7 c'/\v∈ten:=by
 unfold Sj;obtain⟨v,c',k1,k2,k3⟩:=ACH h (l:=ten) (by simp[ten]);have e:Pd c ten=some (v,c'):=k1;unfold ten at e;rw[e];exact⟨_,_,rfl,k2,k3⟩
structure ABC (q:fC):Prop where
 kind:1<=q.Kind/\q.Kind<=6
 vol:1<=q.Vol/\q.Vol<=3
 rest:(q.Kind=1/\q.Text∈ten/\(0<=q.Sector/\q.Sector<=15)/\q.Of=0)\/(q.Kind≠1/\L q.Text=[]/\(((q.Kind=2\/q.Kind=6)/\(0<=q.Sector/\q.Sector<=15)/\q.Of=0)\/(q.Sector=0/\((q.Kind=4/\1<=q.Of/\q.Of<=9)\/((q.Kind=3\/q.Kind=5)/\q.Of=0)))))
theorem ACJ (h:M7 c) (d:AK) (hv:d.Store.Vols.length<=3) (j:∀v∈d.Store.Vols,1<=v.Id/\v.Id<=3):∃q c',Sk c d=some (q,c')/\M7 c'/\ABC q:=by
  unfold Sk;obtain⟨k,c1,a1,a2,a3⟩:=vB h (l:=[1,1,1,1,1,1,2,3,4,5,6]) (by simp);rw[a1];simp only[Aa];obtain⟨v2,c2,b1,b2,b3,b4⟩:=SM a2 3;have m:1<=k/\k<=6:=by simp at a3;omega
  have s:ad 1 v2=1+v2:=CD (by omega) (by omega);have u:=b4 (by omega);rw[b1];simp only[Aa]
  have J1:∃x y c3,(cond ((ln d.Store.Vols)==0) (some (3,ad 1 v2,c2.b_,c2.i_,c2.h_)) ((cond (k !=3) (cond (k !=4) ((Kl c2 8).bind λv3=>
 some (!v3.1,v3.2.b_,v3.2.i_,v3.2.h_)) (some (false,c2.b_,c2.i_,c2.h_))) (some (false,c2.b_,c2.i_,c2.h_)):Option (Bool×List Int×Int×Int)).bind λj2=>
 cond j2.1 ((Eb (Cj.mk j2.2.1 j2.2.2.1 j2.2.2.2) (ln d.Store.Vols)).bind λv4=>
 (gi d.Store.Vols v4.1).bind λx1=>
 some (k,x1.Id,v4.2.b_,v4.2.i_,v4.2.h_)) (some (k,ad 1 v2,j2.2.1,j2.2.2.1,j2.2.2.2))):Option (Int×Int×List Int×Int×Int))=some (x,y,Cj.b_ c3,c3.i_,c3.h_)/\M7 c3/\(1<=x/\x<=6)/\1<=y/\y<=3:=by
   cases hz:(ln d.Store.Vols==0)with
   |true=>exact⟨_,_,c2,rfl,b2,by omega,by omega,by omega⟩
   |false=>
    simp only[Ac];have n:0<d.Store.Vols.length:=by
     rw[Ei,BM]at hz;omega
    have J2:∃b c3,(cond (k !=3) (cond (k !=4) ((Kl c2 8).bind λv3=>some (!v3.1,v3.2.b_,v3.2.i_,v3.2.h_)) (some (false,c2.b_,c2.i_,c2.h_))) (some (false,c2.b_,c2.i_,c2.h_)):Option (Bool×List Int×Int×Int))=some (b,Cj.b_ c3,c3.i_,c3.h_)/\M7 c3:=by
     cases(k !=3)with
     |false=>exact⟨_,c2,rfl,b2⟩
     |true=>
      cases(k !=4)with
      |false=>exact⟨_,c2,rfl,b2⟩
      |true=>
       obtain⟨v3,c3,d1,d2⟩:=AAa b2 8;simp only[Ae];rw[d1];exact⟨_,c3,rfl,d2⟩
    obtain⟨b,c3,e1,e2⟩:=J2;rw[e1];simp only[Aa]
    cases b with
    |false=>exact⟨_,_,c3,rfl,e2,m,by omega,by omega⟩
    |true=>
     simp only[Ae];obtain⟨v4,c4,f1,f2,f3⟩:=Nt (OA e2) n;rw[BM,f1];simp only[Aa];rw[A9,Ab f3];exact⟨_,_,c4,rfl,f2,m,j _ (AD f3)⟩
  obtain⟨x,y,c3,j1,j1c,jx,jy⟩:=J1;rw[j1];simp only[Aa];have J3:∃b c4,(cond (x==5) ((Kl (Cj.mk c3.b_ c3.i_ c3.h_) 3).bind λv8=>some (!v8.1,v8.2.b_,v8.2.i_,v8.2.h_)) (some (false,c3.b_,c3.i_,c3.h_)):Option (Bool×List Int×Int×Int))=some (b,Cj.b_ c4,c4.i_,c4.h_)/\M7 c4:=by
   cases(x==5)with
   |false=>exact⟨_,c3,rfl,j1c⟩
   |true=>
    obtain⟨v8,c4,d1,d2⟩:=AAa (OA j1c) 3;simp only[Ae];rw[d1];exact⟨_,c4,rfl,d2⟩
  obtain⟨b,c4,j3,j3c⟩:=J3;rw[j3];simp only[Aa,M5];have a:1<=(bif b then(1:Int)else x)/\(bif b then(1:Int)else x)<=6:=by cases b<;>simp<;>omega
  generalize (bif b then(1:Int)else x)=j4 at a
  cases o:(j4==1)with
  |true=>
   simp only[Ae];obtain⟨t,c5,t1,t2,t3⟩:=ACC (OA j3c);rw[t1];simp only[Aa];obtain⟨v10,c6,u1,u2,u3,u4⟩:=SM t2 16;rw[u1];have:=u4 (by omega);have hj:=Ck.1 o;exact⟨_,_,rfl,u2,⟨a,jy,.inl ⟨hj,t3,by show 0<=v10/\v10<=15;omega,rfl⟩⟩⟩
  |false=>
   simp only[Ac];have e:j4≠1:=by simpa using o
   have p:(cond (j4==2) (j4==2) (j4==6))=decide (j4=2\/j4=6):=by
    by_cases e2:j4=2
    ·rw[e2];rfl
    rw[show(j4==2)=false by simpa using e2,Ac];by_cases e6:j4=6
    ·rw[e6];rfl
    rw[show(j4==6)=false by simpa using e6,Af (by omega)]
   rw[p];by_cases g:j4=2\/j4=6
   ·rw[Ad g];simp only[Ae];obtain⟨v11,c6,u1,u2,u3,u4⟩:=SM (OA j3c) 16;rw[u1];have:=u4 (by omega);exact⟨_,_,rfl,u2,⟨a,jy,.inr ⟨e,E7 _,.inl ⟨g,by show 0<=v11/\v11<=15;omega,rfl⟩⟩⟩⟩
   rw[Af g];simp only[Ac]
   cases f:(j4==4)with
   |true=>
    simp only[Ae];obtain⟨v12,c6,u1,u2,u3,u4⟩:=SM (OA j3c) 3;have h44:=Ck.1 f;have:=u4 (by omega);rw[u1];simp only[Aa]
    cases r:d.Store.Vols with
    |nil=>
     rw[show decide (ln ([]:List Vol)>0)=false from rfl];exact⟨_,_,rfl,u2,⟨a,jy,.inr ⟨e,E7 _,.inr ⟨rfl,.inl ⟨h44,by show 1<=ad 1 v12/\ad 1 v12<=9;rw[CD (by omega) (by omega)];omega⟩⟩⟩⟩⟩
    |cons v vs=>
     rw[Ad (by rw[BM,Ay];omega:ln (v::vs)>0),show gi (v::vs) 0=some v from A9 (i:=0)];have:=j v (by rw[r];simp);exact⟨_,_,rfl,u2,⟨a,jy,.inr ⟨e,E7 _,.inr ⟨rfl,.inl ⟨h44,by show 1<=v.Id/\v.Id<=9;omega⟩⟩⟩⟩⟩
   |false=>
    have h44:j4≠4:=by simpa using f
    exact⟨_,_,rfl,OA j3c,⟨a,jy,.inr ⟨e,E7 _,.inr ⟨rfl,.inr ⟨by show j4=3\/j4=5;omega,rfl⟩⟩⟩⟩⟩
theorem zQ (h:3<=n/\n<=10):BU (Flash.mk (List.replicate n (Block.mk false 0 NX))):=by
 refine⟨by simpa using h,λb hb=>?_⟩;rw[DC hb];exact mY ⟨by omega,by omega⟩
theorem gB (h:3<=n/\n<=10):PP (n:Int)=some (Flash.mk (List.replicate n (Block.mk false 0 NX)),true):=by
 unfold PP;rw[EY,Ad (by omega)];simp only[Aa,Aj,Ac];have q:=pA (body:=λs:Int×List Block=>JF (n:Int) s.1 s.2) n (λ_=>Block.mk false 0 NX)
  (λi a hi ho=>by
   simp only[JF];rw[Ad (by omega:(i:Int)<(n:Int)),Ae,Sv];simp only[Aa];rw[Cg (by simp;omega)];simp only[Aa]
   rw[ad1 (by omega)])
  (λa=>by simp only[JF];rw[Af (by omega),Ac])
 rw[q];simp only[Aa];rw[Kc,Ce]
theorem dP:∀(n:Nat) (i:Int),KL i (List.replicate n (Block.mk false 0 NX))=[]
 |0,i=>rfl
 |n+1,i=>by
  rw[GJ,KL,dP n (i+1),YI i 0 _ (λy hy=>by rw[DC hy];simp)];rfl
theorem nL (h:3<=n/\n<=10):∃d,Ow (n:Int)=some (d,true)/\Lk d []/\BT d.Store=[]/\d.Store.Next=1/\d.Flash=Flash.mk (List.replicate n (Block.mk false 0 NX)):=by
 have hP:=zQ h;have b:SR (KL 0 (Flash.mk (List.replicate n (Block.mk false 0 NX))).Blocks) []:=by
  rw[dP];exact⟨List.Pairwise.nil,λ_=>rfl⟩
 obtain⟨d,u1,u2,u3⟩:=NU hP b;have a:=u2.ab;have:LE (Di (Bw []))=([],1):=rfl;rw[this]at a
 injection a with e1 e2
 refine⟨d,?_,⟨u2,⟨⟨by simp,by simp,by simp,by simp,by simp,by simp⟩,List.Pairwise.nil,⟨λy hy=>by cases hy⟩⟩,?_⟩,e1,e2,u3⟩
 ·unfold Ow;rw[gB h];simp only[Aa,Aj,Ac];rw[u1];rfl
 rw[e1];refine⟨λc hc=>?_,λc c' hc=>?_⟩
 ·obtain⟨_,p,hp,_⟩:=hc;cases hp
 obtain⟨_,p,hp,_⟩:=hc;cases hp
structure AAg (d:AK) (r:List A4):Prop where
 ids:∀p∈BT d.Store,1<=p.1/\p.1<=3
 pg:∀y∈r,y.Page.Kind=1->y.Page.Tx<=13/\∃s∈ten,V9 y.Page.Text=some s
structure Ext (d:AK) (r:List A4):Prop extends AAg d r where
 tx:DE r<=1000
 sq:Dm r<=100000
 wear:HK d.Flash 1000
theorem ABC.text {q:fC} (h:ABC q):q.Text∈ten:=by
 rcases h.rest with⟨_,h2,_⟩|⟨_,h2,_⟩
 ·exact h2
 rw[show q.Text=bs []from IW (by rw[h2,E7])];simp[ten]
theorem AAg.step {q:fC} (h:AAg d r) (hq:ABC q) (hn:d.Store.Next<=13) (hf:AAf r r' d.Store.Next q.Text) (hi:ACR d d' q.Vol):AAg d' r':=by
 refine⟨λp hp=>?_,λy hy hk=>?_⟩
 ·rcases hi p hp with⟨p',h1,h2⟩|h1
  ·rw[<-h2];exact h.ids p' h1
  rw[h1];exact hq.vol
 rcases hf.1 y hy hk with⟨z,z1,z2,z3,z4⟩|⟨h1,h2⟩
 ·have:=h.pg z z1 z2;rw[z3,z4]at this;exact this
 exact⟨by omega,_,hq.text,h2⟩
theorem lK (h:M7 c):∃d c' r,On c=some (d,c')/\M7 c'/\Lk d r/\d.Store.Next<=13/\Ext d r:=by
 unfold On;obtain⟨v,c1,a1,a2,a3⟩:=Nt h (n:=4) (by omega);rw[show((4:Nat):Int)=4 from rfl]at a1;rw[a1];simp only[Aa];rw[CD (by omega) (by omega),show(5:Int)+(v:Int)=((5+v:Nat):Int) by omega];obtain⟨d0,b1,b2,b3,b4,b5⟩:=nL (n:=5+v) (by omega);rw[b1];simp only[Aa];obtain⟨a,h1,d,cc,r,h2,h3,h4,h5,h6⟩:=Bb (body:=λs:Int×List Block×List Vol×List BJ×Int×Int×Int×Int×List Int×Int×Int=>GY s.1 s.2.1 s.2.2.1 s.2.2.2.1 s.2.2.2.2.1 s.2.2.2.2.2.1 s.2.2.2.2.2.2.1 s.2.2.2.2.2.2.2.1 s.2.2.2.2.2.2.2.2.1 s.2.2.2.2.2.2.2.2.2.1 s.2.2.2.2.2.2.2.2.2.2)
  (λ(o:AK×Cj) i=>(i,o.1.Flash.Blocks,o.1.Store.Vols,o.1.Store.Arena.Knots,o.1.Store.Next,o.1.Seq,o.1.Tx,o.1.Base,o.2.b_,o.2.i_,o.2.h_)) 12
  (λi o=>M7 o.2/\(∃r,Lk o.1 r/\AAg o.1 r/\DE r<=1+21*i/\Dm r<=1+4010*i/\HK o.1.Flash (20*i))/\o.1.Store.Next<=1+i)
  (λa=>∃d cc r,a=(d.Flash.Blocks,d.Store.Vols,d.Store.Arena.Knots,d.Store.Next,d.Seq,d.Tx,d.Base,Cj.b_ cc,cc.i_,cc.h_)/\M7 cc/\Lk d r/\d.Store.Next<=13/\Ext d r)
  (λo i hi hs=>by
   obtain⟨e,cu⟩:=o;obtain⟨k1,⟨r,k2,kx,kt,kq,kw⟩,k3⟩:=hs;simp only at k1 k2 k3 kx kw;have f:AK.mk (Flash.mk e.Flash.Blocks) (Store.mk e.Store.Vols (Arena.mk e.Store.Arena.Knots) e.Store.Next) e.Seq e.Tx e.Base=e:=rfl;simp only[GY];rw[f];obtain⟨w,c3,w1,w2,w3⟩:=Nt (OA k1) (n:=12) (by omega);rw[show((12:Nat):Int)=12 from rfl]at w1;rw[w1];simp only[Aa];by_cases b:(i:Int)<(w:Int)
   ·rw[Ad b,Ae];obtain⟨q,c4,q1,q2,q3⟩:=ACJ w2 e k2.dev.st.len (λv hv=>kx.ids (v.Id,Fy e.Store.Arena.Knots v.Root) (AL.2 ⟨v,hv,rfl⟩));rw[q1];simp only[Aa];obtain⟨d',steps,t,no,r',s1,s2,s3,s4,s5,s6,s7⟩:=ABv k2 (λx hx=>by have:=kw x hx;omega) q;rw[s1];simp only[Aa];rw[ad1 (by omega)];exact .inl ⟨(d',c4),rfl,q2,⟨r',s2,kx.step q3 (by omega) s5 s6,by have:=s5.2.1;omega,by have:=s5.2.2;omega,λx hx=>by have:=s7 _ kw x hx;omega⟩,by show d'.Store.Next<=_;omega⟩
   rw[Af b,Ac]
   exact .inr ⟨_,rfl,e,c3,r,rfl,w2,k2,by omega,⟨kx,by omega,by omega,λx hx=>by have:=kw x hx;omega⟩⟩)
  (λo hs=>by
   obtain⟨e,cu⟩:=o;obtain⟨k1,⟨r,k2,kx,kt,kq,kw⟩,k3⟩:=hs;simp only at k1 k2 k3 kx kw;simp only[GY];obtain⟨w,c3,w1,w2,w3⟩:=Nt (OA k1) (n:=12) (by omega);rw[show((12:Nat):Int)=12 from rfl]at w1;rw[show((12:Nat):Int)=12 from rfl,w1];simp only[Aa];rw[Af (by omega:¬(12:Int)<(w:Int)),Ac]
   exact⟨_,rfl,e,c3,r,rfl,w2,k2,by omega,⟨kx,by omega,by omega,λx hx=>by have:=kw x hx;omega⟩⟩) (s:=(d0,c1)) ⟨a2,⟨[],b2,⟨λp hp=>(by rw[b3]at hp;cases hp),λy hy=>by cases hy⟩,by simp[DE],by simp[Dm],λx hx=>by
    rw[b5]at hx;rw[DC hx]
    exact EN _⟩,by show d0.Store.Next<=_;omega⟩
 have h1':Ar (λs:Int×List Block×List Vol×List BJ×Int×Int×Int×Int×List Int×Int×Int=>GY s.1 s.2.1 s.2.2.1 s.2.2.2.1 s.2.2.2.2.1 s.2.2.2.2.2.1 s.2.2.2.2.2.2.1 s.2.2.2.2.2.2.2.1 s.2.2.2.2.2.2.2.2.1 s.2.2.2.2.2.2.2.2.2.1 s.2.2.2.2.2.2.2.2.2.2) (0,d0.Flash.Blocks,d0.Store.Vols,d0.Store.Arena.Knots,d0.Store.Next,d0.Seq,d0.Tx,d0.Base,c1.b_,c1.i_,c1.h_)=some a:=h1;rw[h1',h2];exact⟨d,cc,r,rfl,h3,h4,h5,h6⟩
theorem jH (h:code.length<=1048576):∃d r,MU code=some d/\Lk d r/\d.Store.Next<=13/\Ext d r:=by
 unfold MU;obtain⟨c,c1,c2⟩:=ADA h;obtain⟨d,c',r,d1,d2,d3,d4⟩:=lK c2;rw[c1];simp only[Aa];rw[d1];exact⟨d,r,rfl,d3,d4⟩
theorem Zp (h:Dr s) {live:List Int} (hl:He s=some live):M1 s=some live:=by
 obtain⟨l,e1,e2,_,_⟩:=fA s (by have:=h.len;omega) (pS h);rw[hl]at e1
 injection e1 with e1
 rw[e1];exact e2
theorem nG (h:IZ d r) {live:List Int} (hl:He d.Store=some live) (l2:asc live) (l4:live.length<=16777216) (a b:Int):Y3 d.Flash d.Store a b=some ((cn r.length (λj=>(C1 r live a)[j]?.getD false&&bk r b j):Nat):Int)/\HI d.Flash d.Store a b=some ((cn r.length (λj=>(C1 r live a)[j]?.getD false&&bk r b j):Nat):Int):=by
 obtain⟨n,n1,n2⟩:=Xg h.scan d.Store (Zp h.st hl) l2 l4 a b;have c:=YM r (C1 r live a) b h.scan.len (Kt _ _ _);have e:C1 r live a=live.foldl (bD r) (r.map (D9 a)):=rfl;rw[e]at c;rw[n1]at c
 injection c with c
 refine⟨?_,by rw[n2,c];rfl⟩;unfold Y3;rw[h.scan.s,hl];simp only[Aa];rw[MW r live _ h.scan.len l4];simp only[Aa];rw[n1];simp only[Aa];rw[c];rfl
theorem ABg (h:IZ d r) (hy:y∈r):JJ y.Page:=by
 obtain⟨b,x,g1,g2,_,g3⟩:=h.scan.page y hy;obtain⟨_,k1⟩:=Dk g1;obtain⟨_,k2⟩:=Dk g2;have hx:=h.fl.text b (A5 k1) x (A5 k2);obtain⟨p,ok,m1,_,_,m2⟩:=IU x.Text (by omega);rw[g3]at m1
 injection m1 with m1
 injection m1 with m1 m3
 obtain⟨v,q1,q2⟩:=Tu p;have hp:=m2 m3.symm;rw[hp]at q1
 injection q1 with q1
 rw[m1];exact q2.1 q1.symm
theorem ADO (hc:Kb g) (ss:List Bl) (hs:ss.length<=1000) (p:Page) (b:Int):
  (∃s g',Ed g ss p=some (g',ss++ [s],true)/\Kb g'/\Dq (Gt.mk g ss) p b=some (if(s.Block==b)=true then(false,Gt.mk g ss)else(true,Gt.mk g' (ss++ [s]))))\/
  (∃g' st,Ed g ss p=some (g',st,false)/\∃w,Dq (Gt.mk g ss) p b=some (false,w)):=by
 obtain⟨t,ok,t1,t2⟩:=Xe p;obtain⟨bb,l,room,p1,p2,p3⟩:=ZX g hc;unfold Ed Dq;rw[t1,t2,p1,p2];simp only[Aa]
 cases ok with
 |false=>exact .inr ⟨g,ss,rfl,_,rfl⟩
 |true=>
  cases room with
  |false=>exact .inr ⟨g,ss,rfl,_,rfl⟩
  |true=>
   obtain⟨g2,v,g1,g3,g4⟩:=W2 g (Bl.mk 1 bb l t) hc;have a:Kb g2:=by
    rcases g4 with⟨_,rfl⟩|⟨_,g4⟩
    ·exact hc
    exact g4.cap
   simp only[Aj,Ac,Aa,g1,g3];rw[Cg (by simp only[Ak];omega)]
   cases v with
   |true=>
    refine .inl ⟨Bl.mk 1 bb l t,g2,rfl,a,?_⟩
    cases hb:(bb==b)with
    |true=>simp only[Ae,BR]
    |false=>simp only[Ac,Aa];rfl
   |false=>
    refine .inr ⟨g2,_,rfl,?_⟩
    cases hb:(bb==b)with
    |true=>exact⟨_,by simp only[Ae];rfl⟩
    |false=>exact⟨_,by simp only[Ac,Aa];rfl⟩
abbrev MvS:=Int×List Bl×List Block
def bC (sq:Int) (y:A4):Page:=Page.mk 1 sq y.Page.Tx 0 1 y.Page.Text
noncomputable def mv (b:Int):List A4->MvS->Option (Option MvS)
 |[],o=>some (some o)
 |y::ys,o=>(Ed (Flash.mk o.2.2) o.2.1 (bC o.1 y)).bind λv=>if v.2.2=true then(match v.2.1.getLast? with
  |some s=>if(s.Block==b)=true then some none else mv b ys (o.1+1,v.2.1,v.1.Blocks)
  |none=>some none)else some none
theorem yG (b:Int):∀(xs ys:List A4) (o:MvS),mv b (xs++ys) o=(mv b xs o).bind λq=>match q with
  |some o'=>mv b ys o'
  |none=>some none
 |[],ys,o=>rfl
 |x::xs,ys,o=>by
  simp only[BF,mv]
  cases Ed (Flash.mk o.2.2) o.2.1 (bC o.1 x)with
  |none=>rfl
  |some v=>
   simp only[Aa];split
   ·split
    ·split
     ·rfl
     exact yG b xs ys _
    rfl
   rfl
def MvI (m:Nat) (o:MvS):Prop:=Kb (Flash.mk o.2.2)/\o.2.1.length<=m/\0<=o.1/\o.1<=1000000001+m
theorem o6 {b:Int} {o:MvS} (h:MvI m o) (hm:m<=1000):
  (∃s g',Ed (Flash.mk o.2.2) o.2.1 (bC o.1 y)=some (g',o.2.1++ [s],true)/\(s.Block==b)=false/\(∀ys,mv b (y::ys) o=mv b ys (o.1+1,o.2.1++ [s],g'.Blocks))/\MvI (m+1) (o.1+1,o.2.1++ [s],g'.Blocks)/\Dq (Gt.mk (Flash.mk o.2.2) o.2.1) (bC o.1 y) b=some (true,Gt.mk g' (o.2.1++ [s])))\/
  ((∀ys,mv b (y::ys) o=some none)/\(∃w,Dq (Gt.mk (Flash.mk o.2.2) o.2.1) (bC o.1 y) b=some (false,w))/\((∃s g',Ed (Flash.mk o.2.2) o.2.1 (bC o.1 y)=some (g',o.2.1++ [s],true)/\(s.Block==b)=true)\/∃g' st,Ed (Flash.mk o.2.2) o.2.1 (bC o.1 y)=some (g',st,false))):=by
 obtain⟨h1,h2,h3,h4⟩:=h
 rcases ADO h1 o.2.1 (by omega) (bC o.1 y) b with⟨s,g',a1,a2,a3⟩|⟨g',st,a1,w,a2⟩
 ·cases hb:(s.Block==b)with
  |true=>
   rw[hb]at a3;exact .inr ⟨λys=>by simp only[mv,a1,Aa,BR,Iq,hb],⟨_,a3⟩,.inl ⟨s,g',a1,hb⟩⟩
  |false=>
   rw[hb]at a3;refine .inl ⟨s,g',a1,hb,λys=>by simp only[mv,a1,Aa,BR,Iq,hb,BB,EM],⟨a2,?_,?_,?_⟩,by rw[a3];rfl⟩
   ·rw[Ag,Ak];omega
   ·show 0<=o.1+1;omega
   show o.1+1<=_;omega
 exact .inr ⟨λys=>by simp[mv,a1],⟨w,a2⟩,.inr ⟨g',st,a1⟩⟩
theorem yF {b:Int}:∀(xs:List A4) {m:Nat} {o:MvS},MvI m o->m+xs.length<=1000->∃v,mv b xs o=some v/\∀o',v=some o'->MvI (m+xs.length) o'
 |[],m,o,h,_=>⟨some o,rfl,λo' e=>by injection e with e;subst e;exact h⟩
 |x::xs,m,o,h,hm=>by
  rw[Ay]at hm
  rcases o6 (b:=b) (y:=x) h (by omega)with⟨s,g',a1,a2,a3,a4,a5⟩|⟨a1,_⟩
  ·obtain⟨v,v1,v2⟩:=yF xs a4 (by omega)
   exact⟨v,by rw[a3,v1],λo' e=>by
    have:=v2 o' e;rw[Ay,show m+(xs.length+1)=m+1+xs.length by omega]
    exact this⟩
  exact⟨none,a1 xs,λo' e=>by cases e⟩
def Lt (b i:Int) (nd:List Bool) (r:List A4):List A4:=((nd.zip r).filter λq=>q.1&&(q.2.Block==b)&&(q.2.Leaf==i)).map Prod.snd
theorem rH (hr:r.length<=40) (hk:∀y∈r,y.Page.Kind=1->y.Page.Count=1/\y.Page.Part=0) (d:nd.length=r.length) (hn:∀(j:Nat) y,r[j]?=some y->nd[j]?=some true->y.Page.Kind=1) (b i:Int):∀(n j:Nat),j+n=r.length->∀{m:Nat} {o:MvS},MvI m o->m+n<=1000->
  Ar (λs:List Bl×Int×Int×List Block=>Ew b r nd i s.1 s.2.1 s.2.2.1 s.2.2.2) (o.2.1,o.1,(j:Int),o.2.2)=(mv b (Lt b i (nd.drop j) (r.drop j)) o).map λq=>match q with
   |some o'=> .inl (o'.2.1,o'.1,o'.2.2)
   |none=> .inr (.inr (.inr ([],false)))
 |0,j,hj,m,o,ho,hm=>by
  rw[A8];simp only[Ew,A7];rw[Af (by omega),Ac,List.drop_of_length_le (by omega),List.drop_of_length_le (by omega)];rfl
 |n+1,j,hj,m,o,ho,hm=>by
  have a:j<r.length:=by omega
  have hx:=Ab a;have c:=Ab (show j<nd.length by omega);have hd:nd.drop j=nd[j]::nd.drop (j+1):=Bf (by omega);have e:r.drop j=r[j]::r.drop (j+1):=Bf a
  have go:∀{m':Nat} {o':MvS},MvI m' o'->m'+n<=1000->_:=λ{m' o'} h1 h2=>rH hr hk d hn b i n (j+1) (by omega) (m:=m') (o:=o') h1 h2
  rw[A8];simp only[Ew,A7,Ad a,Ae,A9,hx,c,Aa];rw[ad1 (by omega),hd,e];have es:Lt b i (nd[j]::nd.drop (j+1)) (r[j]::r.drop (j+1))=if(nd[j]&&(r[j].Block==b)&&(r[j].Leaf==i))=true then r[j]::Lt b i (nd.drop (j+1)) (r.drop (j+1))else Lt b i (nd.drop (j+1)) (r.drop (j+1)):=by
   simp only[Lt,List.zip_cons_cons,List.filter_cons];split<;>simp
  rw[es]
  cases f:nd[j]with
  |false=>
   simp only[AC,Ae,Aa,Bool.false_and,BB,EM];exact go ho (by omega)
  |true=>
   simp only[Aj,Ac,Cz]
   cases hb:(r[j].Block==b)with
   |false=>
    simp only[bne,hb,AC,Ae,Aa,Bool.false_and,BB,EM];exact go ho (by omega)
   |true=>
    simp only[bne,hb,Aj,Ac,Aa,Cz]
    cases g:(r[j].Leaf==i)with
    |false=>
     simp only[AC,Ae,BB,EM];exact go ho (by omega)
    |true=>
     simp only[Aj,Ac,BR];have h1:=hn j r[j] hx (by rw[c,f]);obtain⟨h2,h3⟩:=hk r[j] (AD a) h1;have ep:Page.mk r[j].Page.Kind o.1 r[j].Page.Tx r[j].Page.Part r[j].Page.Count r[j].Page.Text=bC o.1 r[j]:=by rw[h1,h2,h3];rfl
     rw[ep];obtain⟨c1,c2,c3,c4⟩:=ho
     rcases o6 (b:=b) (y:=r[j]) ⟨c1,c2,c3,c4⟩ (by omega)with⟨s,g',a1,a2,a3,a4,_⟩|⟨a1,_,⟨s,g',a2,a3⟩|⟨g',st,a2⟩⟩
     ·rw[a1,a3];simp only[Aa,Aj,Ac];rw[BM,Ag,Ak,Cx (by omega) (by omega),show((o.2.1.length+1:Nat):Int)-1=(o.2.1.length:Int) by omega,F8];simp only[Aa,a2,Ac];rw[CD (by omega) (by omega)];exact go a4 (by omega)
     ·rw[a2,a1];simp only[Aa,Aj,Ac];rw[BM,Ag,Ak,Cx (by omega) (by omega),show((o.2.1.length+1:Nat):Int)-1=(o.2.1.length:Int) by omega,F8];simp only[Aa,a3,Ae];rfl
     rw[a2,a1];simp only[Aa,AC,Ae];rfl
def iW (l:List A4):Prop:=l.Pairwise λx y=>x.Page.Tx≠y.Page.Tx
theorem Z3 {l:List A4} {p:A4->Bool} (hl:iW l) (hu:∀x∈l,∀y∈l,p x=true->p y=true->x=y) (hy:y∈l) (hp:p y=true):l.filter p=[y]:=by
 induction l with
 |nil=>cases hy
 |cons x l ih=>
  have h1:=Cw.1 hl
  have hu':∀a∈l,∀c∈l,p a=true->p c=true->a=c:=λa ha c hc=>hu a (C4 _ ha) c (C4 _ hc)
  cases hx:p x with
  |true=>
   have e:x=y:=hu x (by simp) y hy hx hp;subst e;rw[BD hx,Bs.2];intro z hz b;have:=hu x (by simp) z (C4 _ hz) hx b;exact h1.1 z hz (by rw[this])
  |false=>
   rw[BA (by simp[hx])]
   rcases B7.1 hy with rfl|hy
   ·rw[hp]at hx;cases hx
   exact ih h1.2 hu' hy
theorem wH {c:List A4} (ha:iW a) (hc:iW c) (hm:∀y,y∈a↔y∈c) (hu:∀x∈a,∀y∈a,x.Leaf=y.Leaf->x=y):Ch BV a c:=by
 intro k
 have e1:∀x,(BV x==k)=true↔x.Leaf=k:=λx=>by rw[Ck];rfl
 by_cases h:∃y∈a,y.Leaf=k
 ·obtain⟨y,y1,y2⟩:=h
  rw[Z3 ha (λx hx z hz p q=>hu x hx z hz (by rw[(e1 x).1 p,(e1 z).1 q])) y1 ((e1 y).2 y2),
   Z3 hc (λx hx z hz p q=>hu x ((hm x).2 hx) z ((hm z).2 hz) (by rw[(e1 x).1 p,(e1 z).1 q])) ((hm y).1 y1) ((e1 y).2 y2)]
 rw[Bs.2 (λx hx p=>h ⟨x,hx,(e1 x).1 p⟩),Bs.2 (λx hx p=>h ⟨x,(hm x).2 hx,(e1 x).1 p⟩)]
def Iu (r:List A4) (b:Int) (live:List Int):List A4:=live.filterMap λc=>match OS c r r.length with
 |some j=>if bk r b j=true then r[j]? else none
 |none=>none
theorem VF (r:List A4) (b:Int) (a:List Int) (c:Int):Iu r b (a++ [c])=Iu r b a++Iu r b [c]:=by unfold Iu;rw[H7]
theorem AAB (h:qI f r) {live:List Int} (a:M1 s=some live) (hl:live.length<=16777216) (b:Int):S0 f s b=some (Iu r b live):=by
 unfold S0;rw[a];simp only[Aa];obtain⟨u,h1,h2⟩:=Bb (body:=λq:List A4×Int=>GD f b live q.1 q.2) (λ(u:List A4) i=>(u,i)) live.length (λi u=>u=Iu r b (live.take i)) (λu=>u=Iu r b live)
  (λu i hi hu=>by
   have hg:live[i]?=some live[i]:=Ab hi;obtain⟨o,o1,o2⟩:=eK f r h.i h.len h.srt live[i];have ho:o=OS live[i] r r.length:=d9 o2 (OY _ _ _ (A3 _));have d:u.length<=i:=by
    rw[hu];have:=List.length_filterMap_le (λc=>match OS c r r.length with|some j=>if bk r b j=true then r[j]? else none|none=>none) (live.take i);rw[AH]at this;unfold Iu;omega
   have et:live.take (i+1)=live.take i++ [live[i]]:=by rw[Aq hi]
   refine .inl ?_;simp only[GD,A7,Ad hi,Ae,A9,hg,Aa,o1]
   cases ht:OS live[i] r r.length with
   |none=>
    rw[ht]at ho;subst ho;simp only[EH,Ac,Aa];rw[ad1 (by omega)];refine⟨_,rfl,?_⟩;rw[et,VF,<-hu];simp[Iu,ht]
   |some j=>
    rw[ht]at ho;subst ho;obtain⟨hj,_⟩:=Nx (A3 _) ht;have hr:=Ab hj;simp only[ST,Ae,Aa,LJ]
    cases hb:bk r b j with
    |true=>
     have hb':((r[j]?.getD OO).Block==b)=true:=hb;rw[hb'];simp only[Ae];rw[Cg (by simp only[Ak];omega),ad1 (by omega)];refine⟨_,rfl,?_⟩;rw[et,VF,<-hu];simp[Iu,ht,hb,hr]
    |false=>
     have hb':((r[j]?.getD OO).Block==b)=false:=hb;rw[hb'];simp only[Ac];rw[ad1 (by omega)];refine⟨_,rfl,?_⟩;rw[et,VF,<-hu]
     simp[Iu,ht,hb])
  (λu hu=>⟨u,by simp only[GD,A7,Al,Ap,Ac],by rw[hu,AN]⟩) (s:=[]) (by simp[Iu])
 have h1':Ar (λs:List A4×Int=>GD f b live s.1 s.2) ([],0)=some u:=h1;rw[h1',h2];rfl
theorem Sf {b:Int} {live:List Int} (hy:y∈Iu r b live):∃c∈live,∃j,OS c r r.length=some j/\r[j]?=some y/\y.Block=b/\y.Page.Kind=1/\y.Page.Tx=c:=by
 obtain⟨c,c1,c2⟩:=List.mem_filterMap.1 hy
 cases ht:OS c r r.length with
 |none=>rw[ht]at c2;cases c2
 |some j=>
  rw[ht]at c2;simp only at c2;split at c2
  ·rename_i hb;obtain⟨_,z,z1,z2⟩:=Nx (A3 _) ht;rw[z1]at c2
   injection c2 with c2
   subst c2;simp only[bk,z1,Bk,Ck]at hb;simp only[Jo,An,Ck]at z2;exact⟨c,c1,j,ht,z1,hb,z2.1,z2.2⟩
  cases c2
theorem cU (r:List A4) (b:Int):∀{live:List Int},live.Nodup->iW (Iu r b live)
 |[],_=>List.Pairwise.nil
 |c::live,h=>by
  obtain⟨h1,h2⟩:=Dd.1 h;have ih:=cU r b h2;unfold Iu;rw[Jc];split
  ·exact ih
  rename_i y hy;refine Cw.2 ⟨λz hz e=>?_,ih⟩;obtain⟨c',q1,j,q2,q3,q4,q5,q6⟩:=Sf (r:=r) (b:=b) (live:=live) hz
  obtain⟨c'',p1,j2,p2,p3,p4,p5,p6⟩:=Sf (r:=r) (b:=b) (live:=[c]) (y:=y) (by
   unfold Iu;rw[Jc];rw[hy]
   simp)
  rw[Aw]at p1;subst p1;exact h1 (by rw[<-p6,e,q6];exact q1)
def Pa (b:Int) (nd:List Bool) (r:List A4):List A4:=Lt b 0 nd r++(Lt b 1 nd r++(Lt b 2 nd r++Lt b 3 nd r))
theorem Uv {b i:Int}:y∈Lt b i nd r↔(∃j:Nat,r[j]?=some y/\nd[j]?=some true)/\y.Block=b/\y.Leaf=i:=by
 unfold Lt;simp only[AL,AQ,An,Ck];constructor
 ·rintro⟨⟨n,z⟩,⟨h1,⟨h2,h3⟩,h4⟩,rfl⟩;obtain⟨j,hj⟩:=List.getElem?_of_mem h1;rw[List.getElem?_zip_eq_some]at hj;simp only at h2 h3 h4;exact⟨⟨j,hj.2,by rw[hj.1,h2]⟩,h3,h4⟩
 rintro⟨⟨j,h1,h2⟩,h3,h4⟩;exact⟨(true,y),⟨A5 (List.getElem?_zip_eq_some.2 ⟨h2,h1⟩),⟨rfl,h3⟩,h4⟩,rfl⟩
theorem jZ (hn:∀(j:Nat) y,r[j]?=some y->nd[j]?=some true->OS y.Page.Tx r r.length=some j) (b i:Int):iW (Lt b i nd r):=by
 unfold Lt iW;rw[Ip]
 have h0:(nd.zip r).Pairwise λp q=>p.1=true->q.1=true->p.2.Page.Tx≠q.2.Page.Tx:=by
  rw[Dz];intro x y hx hy a p q e;have a1:=(List.getElem?_zip_eq_some (l₁:=nd) (l₂:=r)).1 (Ab hx);have a2:=(List.getElem?_zip_eq_some (l₁:=nd) (l₂:=r)).1 (Ab hy);have b1:=hn x _ a1.2 (by rw[a1.1,p]);have b2:=hn y _ a2.2 (by rw[a2.1,q]);rw[e,b2]at b1
  injection b1 with b1
  omega
 have h1:=h0.filter (λq=>q.1&&(q.2.Block==b)&&(q.2.Leaf==i));refine(List.pairwise_iff_forall_sublist.2 λ{p q} hs=>?_);have hp:=List.pairwise_iff_forall_sublist.1 h1 hs;have mp:p∈(nd.zip r).filter (λq=>q.1&&(q.2.Block==b)&&(q.2.Leaf==i)):=hs.subset (by simp);have mq:q∈(nd.zip r).filter (λq=>q.1&&(q.2.Block==b)&&(q.2.Leaf==i)):=hs.subset (by simp);have tp:=(AQ.1 mp).2;have tq:=(AQ.1 mq).2;simp only[An]at tp tq;exact hp tp.1.1 tq.1.1
def tI (b:Int) (nd:List Bool) (r:List A4):Nat->Nat->List A4
 |0,_=>[]
 |n+1,i=>Lt b (i:Int) nd r++tI b nd r n (i+1)
theorem wF (b i:Int) (nd:List Bool) (r:List A4):(Lt b i nd r).length<=r.length:=by
 unfold Lt;rw[AZ];have:=BO (λq:Bool×A4=>q.1&&(q.2.Block==b)&&(q.2.Leaf==i)) (nd.zip r);rw[List.length_zip]at this;omega
theorem rG (hr:r.length<=40) (hk:∀y∈r,y.Page.Kind=1->y.Page.Count=1/\y.Page.Part=0) (c:nd.length=r.length) (hn:∀(j:Nat) y,r[j]?=some y->nd[j]?=some true->y.Page.Kind=1) (b:Int):∀(n i:Nat),i+n=4->∀{m:Nat} {o:MvS},MvI m o->m+n*40<=1000->
  Ar (λs:List Bl×Int×Int×List Block=>Ex b r nd s.1 s.2.1 s.2.2.1 s.2.2.2) (o.2.1,o.1,(i:Int),o.2.2)=(mv b (tI b nd r n i) o).map λq=>match q with
   |some o'=> .inl o'.2.1
   |none=> .inr ([],false)
 |0,i,hi,m,o,ho,hm=>by
  rw[A8];simp only[Ex];rw[Af (by omega:¬(i:Int)<4),Ac];rfl
 |n+1,i,hi,m,o,ho,hm=>by
  rw[A8];simp only[Ex];rw[Ad (by omega:(i:Int)<4),Ae];have a:=rH hr hk c hn b (i:Int) r.length 0 (by omega) ho (by omega);simp only[List.drop_zero]at a;rw[show((0:Nat):Int)=0 from rfl]at a;rw[a];have d:=wF b (i:Int) nd r;obtain⟨v,v1,v2⟩:=yF (b:=b) (Lt b (i:Int) nd r) ho (by omega);have es:tI b nd r (n+1) i=Lt b (i:Int) nd r++tI b nd r n (i+1):=rfl;rw[es,yG,v1]
  cases v with
  |none=>rfl
  |some o'=>
   simp only[B9,Aa,Bn];rw[ad1 (by omega)];exact rG hr hk c hn b n (i+1) (by omega) (v2 o' rfl) (by omega)
theorem sO (d:AK) (b:Int) (X:List A4) (hX:X.length<=100) (hd:0<=d.Seq/\d.Seq<=1000000001):∀(n i:Nat),i+n=X.length->∀{m:Nat} {o:MvS},MvI m o->m+n<=1000->o.1=d.Seq+i->
  Ar (λs:Int×List Block×List Bl=>IQ d b X s.1 s.2.1 s.2.2) ((i:Int),o.2.2,o.2.1)=(mv b (X.drop i) o).map λq=>match q with
   |some o'=> .inl (o'.2.2,o'.2.1)
   |none=> .inr ([],false)
 |0,i,hi,m,o,ho,hm,hs=>by
  rw[A8];simp only[IQ,A7];rw[Af (by omega),Ac,List.drop_of_length_le (by omega)];rfl
 |n+1,i,hi,m,o,ho,hm,hs=>by
  have a:i<X.length:=by omega
  have hx:=Ab a;rw[A8];simp only[IQ,A7,Ad a,Ae,A9,hx,Aa];rw[CD (by omega) (by omega),<-hs,Bf a];have ep:Page.mk 1 o.1 X[i].Page.Tx 0 1 X[i].Page.Text=bC o.1 X[i]:=rfl;rw[ep]
  rcases o6 (b:=b) (y:=X[i]) ho (by omega)with⟨s,g',a1,a2,a3,a4,a5⟩|⟨a1,⟨w,a2⟩,_⟩
  ·rw[a5,a3];simp only[Aa,Aj,Ac];rw[ad1 (by omega)];exact sO d b X hX hd n (i+1) (by omega) a4 (by omega) (by show o.1+1=_;omega)
  rw[a2,a1];simp only[Aa,AC,Ae];rfl
theorem dO {x:A4} (h:IZ d r) (hx:x∈r) (hy:y∈r) (hb:x.Block=y.Block) (hl:x.Leaf=y.Leaf):x=y:=by
 obtain⟨b,l,g1,g2,_,g3⟩:=h.scan.page x hx;obtain⟨b',l',k1,k2,_,k3⟩:=h.scan.page y hy;rw[hb,k1]at g1
 injection g1 with g1
 subst g1;rw[hl,k2]at g2
 injection g2 with g2
 subst g2;rw[k3]at g3
 injection g3 with g3
 injection g3 with g3 _
 cases x;cases y;simp only at hb hl g3;rw[hb,hl,g3]
theorem uF (h:IZ d r) (hy:y∈r):0<=y.Leaf/\y.Leaf<4:=by
 obtain⟨b,l,g1,g2,_,g3⟩:=h.scan.page y hy;obtain⟨_,k1⟩:=Dk g1;obtain⟨q0,k2⟩:=Dk g2;have:=(h.fl.blk b (A5 k1)).four;have:=(Ah.1 k2).1;omega
theorem ZY (h:IZ d r) (u:r.length<=40) {live:List Int} (l1:He d.Store=some live) (l2:asc live) (l3:∀x,x∈live↔Ff (BT d.Store) x) (l4:live.length<=16777216) (b:Int):
  ∃v,mv b (Pa b (C1 r live 1000000001) r) (d.Seq,[],d.Flash.Blocks)=some v/\Hz d b=some (match v with|some o=>(o.2.1,true)|none=>([],false))/\Mz d b=some (match v with|some o=>(o.2.1,true)|none=>([],false))/\
  (Pa b (C1 r live 1000000001) r).length=(Iu r b live).length/\(Pa b (C1 r live 1000000001) r).length<=4/\∀y,y∈Pa b (C1 r live 1000000001) r↔y∈Iu r b live:=by
 have w:=h.pages;have h3:1<=d.Seq/\d.Seq<=1000000001:=by
  rw[h.seq];have h1:=N4 r;refine⟨h1.2.1,h1.2.2 _ (by omega) (λy hy=>?_)⟩;have:=(w.seq y hy).2;omega
 have hk:∀y∈r,y.Page.Kind=1->y.Page.Count=1/\y.Page.Part=0:=by
  intro y hy k1;obtain⟨_,_,_,c1,c2,_,c3⟩:=ABg h hy;have:y.Page.Count=1:=by omega
  exact⟨this,by omega⟩
 have hn:∀(j:Nat) y,r[j]?=some y->(C1 r live 1000000001)[j]?=some true->y.Page.Kind=1:=λj y hy hj=>(YR h l3 hy hj).1
 have f:∀(j:Nat) y,r[j]?=some y->(C1 r live 1000000001)[j]?=some true->OS y.Page.Tx r r.length=some j/\y.Page.Tx∈live:=by
  intro j y hy hj;rw[Pk r live _ hy]at hj
  injection hj with hj
  rw[Co]at hj
  rcases hj with hj|hj
  ·simp only[D9,An,Ck,A6]at hj;have:=(w.tx y (A5 hy)).2;omega
  rw[C8]at hj;obtain⟨c,c1,c2⟩:=hj;have c2':OS c r r.length=some j:=by simpa using c2
  obtain⟨_,z,z1,z2⟩:=Nx (A3 _) c2';rw[hy]at z1
  injection z1 with z1
  subst z1;simp only[Jo,An,Ck]at z2;rw[z2.2];exact⟨c2',c1⟩
 have hm:∀y,y∈Pa b (C1 r live 1000000001) r↔y∈Iu r b live:=by
  intro y;have e1:y∈Pa b (C1 r live 1000000001) r↔(∃j:Nat,r[j]?=some y/\(C1 r live 1000000001)[j]?=some true)/\y.Block=b:=by
   unfold Pa;simp only[Ai,Uv];constructor
   ·rintro(q|q|q|q)<;>exact⟨q.1,q.2.1⟩
   rintro⟨⟨j,q1,q2⟩,q3⟩;have:=uF h (A5 q1);have:y.Leaf=0\/y.Leaf=1\/y.Leaf=2\/y.Leaf=3:=by omega
   rcases this with q|q|q|q
   ·exact .inl ⟨⟨j,q1,q2⟩,q3,q⟩
   ·exact .inr (.inl ⟨⟨j,q1,q2⟩,q3,q⟩)
   ·exact .inr (.inr (.inl ⟨⟨j,q1,q2⟩,q3,q⟩))
   exact .inr (.inr (.inr ⟨⟨j,q1,q2⟩,q3,q⟩))
  rw[e1];constructor
  ·rintro⟨⟨j,q1,q2⟩,q3⟩;obtain⟨q4,q5⟩:=f j y q1 q2;refine List.mem_filterMap.2 ⟨y.Page.Tx,q5,?_⟩;rw[q4];simp[bk,q1,q3]
  intro hy;obtain⟨c,c1,j,c2,c3,c4,c5,c6⟩:=Sf hy;refine⟨⟨j,c3,?_⟩,c4⟩;rw[Pk r live _ c3,Ao,Co];exact .inr (C8.2 ⟨c,c1,by simpa using c2⟩)
 have m:∀y∈Iu r b live,y∈r/\y.Block=b:=λy hy=>by
  obtain⟨c,c1,j,c2,c3,c4,c5,c6⟩:=Sf hy;exact⟨A5 c3,c4⟩
 have h0:∀x∈Iu r b live,∀y∈Iu r b live,x.Leaf=y.Leaf->x=y:=λx hx y hy e=>dO h (m x hx).1 (m y hy).1 (by rw[(m x hx).2,(m y hy).2]) e
 have a:∀i:Int,∀y∈Lt b i (C1 r live 1000000001) r,y∈r/\y.Block=b/\y.Leaf=i:=λi y hy=>by
  obtain⟨⟨j,q1,q2⟩,q3,q4⟩:=Uv.1 hy;exact⟨A5 q1,q3,q4⟩
 have n:∀i:Int,(Lt b i (C1 r live 1000000001) r).length<=1:=by
  intro i;have hd:=jZ (λj y hy hj=>(f j y hy hj).1) b i
  rcases hc:Lt b i (C1 r live 1000000001) r with _|⟨x,_|⟨y,l⟩⟩
  ·exact Lh 1
  ·exact A3 1
  have hx:=a i x (by rw[hc];simp);have hy:=a i y (by rw[hc];simp);rw[hc]at hd;exact absurd (dO h hx.1 hy.1 (by rw[hx.2.1,hy.2.1]) (by rw[hx.2.2,hy.2.2])) (λe=>(Cw.1 hd).1 y (by simp) (by rw[e]))
 have h4:(Pa b (C1 r live 1000000001) r).length<=4:=by
  unfold Pa;simp only[Ag];have:=n 0;have:=n 1;have:=n 2;have:=n 3;omega
 have h5:iW (Pa b (C1 r live 1000000001) r):=by
  have hd:∀i:Int,iW (Lt b i (C1 r live 1000000001) r):=λi=>jZ (λj y hy hj=>(f j y hy hj).1) b i
  have cross:∀i k:Int,i≠k->∀x∈Lt b i (C1 r live 1000000001) r,∀y∈Lt b k (C1 r live 1000000001) r,x.Page.Tx≠y.Page.Tx:=by
   intro i k p x hx y hy e;obtain⟨⟨j,q1,q2⟩,q3,q4⟩:=Uv.1 hx;obtain⟨⟨j',p1,p2⟩,p3,p4⟩:=Uv.1 hy;have a1:=(f j x q1 q2).1;have a2:=(f j' y p1 p2).1;rw[e,a2]at a1
   injection a1 with a1
   subst a1;rw[q1]at p1
   injection p1 with p1
   subst p1;exact p (by rw[<-q4,<-p4])
  unfold Pa iW;refine Ba.2 ⟨hd 0,Ba.2 ⟨hd 1,Ba.2 ⟨hd 2,hd 3,cross 2 3 (by decide)⟩,?_⟩,?_⟩
  ·intro x hx y hy
   rcases Ai.1 hy with hy|hy
   ·exact cross 1 2 (by decide) x hx y hy
   exact cross 1 3 (by decide) x hx y hy
  intro x hx y hy
  rcases Ai.1 hy with hy|hy
  ·exact cross 0 1 (by decide) x hx y hy
  rcases Ai.1 hy with hy|hy
  ·exact cross 0 2 (by decide) x hx y hy
  exact cross 0 3 (by decide) x hx y hy
 have g:Ch BV (Iu r b live) (Pa b (C1 r live 1000000001) r):=wH (cU r b (eX l2)) h5 (λy=>(hm y).symm) h0;have h2:=g.len;have t:srt BV (Pa b (C1 r live 1000000001) r):=by
  have hc:∀i:Int,srt BV (Lt b i (C1 r live 1000000001) r):=by
   intro i
   refine List.pairwise_of_forall_mem_list λx hx y hy=>?_
   show x.Leaf<=y.Leaf;rw[(a i x hx).2.2,(a i y hy).2.2];exact EN _
  have cross:∀i k:Int,i<=k->∀x∈Lt b i (C1 r live 1000000001) r,∀y∈Lt b k (C1 r live 1000000001) r,BV x<=BV y:=by
   intro i k p x hx y hy;show x.Leaf<=y.Leaf;rw[(a i x hx).2.2,(a k y hy).2.2];exact p
  unfold Pa srt;refine Ba.2 ⟨hc 0,Ba.2 ⟨hc 1,Ba.2 ⟨hc 2,hc 3,cross 2 3 (by decide)⟩,?_⟩,?_⟩
  ·intro x hx y hy
   rcases Ai.1 hy with hy|hy
   ·exact cross 1 2 (by decide) x hx y hy
   exact cross 1 3 (by decide) x hx y hy
  intro x hx y hy
  rcases Ai.1 hy with hy|hy
  ·exact cross 0 1 (by decide) x hx y hy
  rcases Ai.1 hy with hy|hy
  ·exact cross 0 2 (by decide) x hx y hy
  exact cross 0 3 (by decide) x hx y hy
 have I0:MvI 0 (d.Seq,[],d.Flash.Blocks):=⟨h.fl.cap,A3 _,by show 0<=d.Seq;omega,by show d.Seq<=1000000001+((0:Nat):Int);omega⟩;obtain⟨v,v1,v2⟩:=yF (b:=b) (Pa b (C1 r live 1000000001) r) I0 (by omega);refine⟨v,v1,?_,?_,h2.symm,h4,hm⟩
 ·unfold Hz;rw[h.scan.s,l1];simp only[Aa];rw[MW r live _ h.scan.len l4];simp only[Aa];have h6:live.foldl (bD r) (r.map (D9 1000000001))=C1 r live 1000000001:=rfl;rw[h6];have ho:=rG u hk (Kt r live 1000000001) hn b 4 0 (by omega) I0 (by omega);have eF:tI b (C1 r live 1000000001) r 4 0=Pa b (C1 r live 1000000001) r:=by
   simp[tI,Pa]
  rw[eF,v1]at ho;rw[show((0:Nat):Int)=0 from rfl]at ho;simp only at ho;rw[ho]
  cases v with
  |none=>rfl
  |some o=>rfl
 unfold Mz;rw[AAB h.scan (Zp h.st l1) l4 b];simp only[Aa];obtain⟨X,x1,x2,x3⟩:=cW BV (Iu r b live) (by omega);have hX:X=Pa b (C1 r live 1000000001) r:=N1 BV x2 t (λk=>by rw[x3 k,<-g k]);rw[x1,hX];simp only[Aa];have ho:=sO d b (Pa b (C1 r live 1000000001) r) (by omega) ⟨by omega,h3.2⟩ (Pa b (C1 r live 1000000001) r).length 0 (by omega) I0 (by omega) (by show d.Seq=d.Seq+((0:Nat):Int);omega);rw[List.drop_zero,v1,show((0:Nat):Int)=0 from rfl]at ho;simp only at ho;rw[ho]
 cases v with
 |none=>rfl
 |some o=>rfl
theorem vJ (h:BU f):Nv f<=10000:=by
 have hl:∀l:List Leaf,(∀x∈l,lfP x)->(l.map OU).sum<=120*l.length:=by
  intro l
  induction l with
  |nil=>intro _;simp
  |cons x l ih=>
   intro hx;rw[BE,FT,Ay];have:=ih (λy hy=>hx y (by simp[hy]));have h1:OU x<=120:=by
    have a:x.Text.size=(L x.Text).length:=by have:=BN x.Text;unfold FY at this;exact Int.ofNat_inj.1 this
    unfold OU
    rcases hx x (by simp)with⟨_,e⟩|⟨_,_,e⟩|⟨_,e⟩
    ·rw[a,e];simp
    ·omega
    omega
   omega
 have hb:∀l:List Block,(∀b∈l,Le b)->(l.map K4).sum<=500*l.length:=by
  intro l
  induction l with
  |nil=>intro _;simp
  |cons b l ih=>
   intro hx;rw[BE,FT,Ay];have:=ih (λy hy=>hx y (by simp[hy]));have h1:=hx b (by simp);have h2:=hl b.Leaves h1.leaf;have h4:=h1.four;have hz:K4 b=b.Leaves.length+(b.Leaves.map OU).sum:=rfl;omega
 have:=hb f.Blocks h.blk;have hn:=h.n;unfold Nv zl;omega
theorem tB (h:IZ d r):X1 d<=1048576:=by
 have h1:=vJ h.fl;have h2:=h.st.len;have h3:=h.st.small;have a:∀l:List BJ,(∀k∈l,k.Kids.length=4)->(l.map jK).sum=4*l.length:=by
  intro l
  induction l with
  |nil=>intro _;rfl
  |cons k l ih=>
   intro hl;rw[BE,FT,ih (λx hx=>hl x (by simp[hx])),Ay];have:=hl k (by simp);unfold jK;omega
 have h4:=a d.Store.Arena.Knots (λk hk=>by
  obtain⟨i,hi,rfl⟩:=AG hk;have:=(HJ.1 h.st.ar i hi).1;rw[Pp hi]at this
  exact this)
 have e1:V7 d.Store=d.Store.Vols.length+(d.Store.Arena.Knots.length+(d.Store.Arena.Knots.map jK).sum):=rfl;have e2:X1 d=Nv d.Flash+V7 d.Store:=rfl;omega
theorem nQ (s:Store) (hv:s.Vols.length<=1048576) (ha:Vr s.Arena):∃l,LA s=some l/\Q3 s=some l/\l.length<=1+17*s.Vols.length:=by
 unfold LA Q3;obtain⟨l,h1,h2,h3⟩:=JK (body:=λq:List CK×Int=>DV s q.1 q.2) (body':=λq:List CK×Int=>Ig s q.1 q.2) (λ(l:List CK) i=>(l,i)) s.Vols.length (λi l=>l.length<=1+17*i) (λl=>l.length<=1+17*s.Vols.length)
  (λl i hi hl=>by
   have hg:s.Vols[i]?=some s.Vols[i]:=Ab hi;obtain⟨a,a1,a2,a3⟩:=V5 s.Arena ha s.Vols[i].Root;have b:ap 32 l [CK.mk 2 s.Vols[i].Id 0 0]=some (l++ [CK.mk 2 s.Vols[i].Id 0 0]):=Cg (by simp only[Ak];omega);simp only[DV,Ig,A7,Ad hi,Ae,A9,hg,Aa,b,a1,a2];obtain⟨u,u1,u2,u3⟩:=JK (body:=λq:List CK×Int=>DU s (i:Int) a q.1 q.2) (body':=λq:List CK×Int=>If s.Vols[i] a q.1 q.2) (λ(l:List CK) k=>(l,k)) a.length (λk o=>o.length<=l.length+1+k) (λo=>o.length<=l.length+17)
    (λo k hk ho=>by
     have c:a[k]?=some a[k]:=Ab hk;simp only[DU,If,A7,Ad hk,Ae,A9,c,hg,Aa];refine⟨by first|rfl|trivial,?_⟩;rw[ad1 (by omega)]
     cases decide (a[k]>0)with
     |true=>
      simp only[Ae];rw[Cg (by simp only[Ak];omega)];exact .inl ⟨_,rfl,by simp only[Ag,Ak];omega⟩
     |false=>exact .inl ⟨_,rfl,by omega⟩)
    (λo ho=>⟨by simp only[DU,If,A7,Al,Ap,Ac],o,by simp only[DU,A7,Al,Ap,Ac],by omega⟩) (s:=l++ [CK.mk 2 s.Vols[i].Id 0 0]) (by simp)
   have u1':Ar (λq:List CK×Int=>DU s (i:Int) a q.1 q.2) (l++ [CK.mk 2 s.Vols[i].Id 0 0],0)=some u:=u1;have u2':Ar (λq:List CK×Int=>If s.Vols[i] a q.1 q.2) (l++ [CK.mk 2 s.Vols[i].Id 0 0],0)=some u:=u2;rw[u1',u2'];simp only[Aa];rw[ad1 (by omega)]
   exact⟨by first|rfl|trivial,.inl ⟨_,rfl,by omega⟩⟩)
  (λl hl=>⟨by simp only[DV,Ig,A7,Al,Ap,Ac],l,by simp only[DV,A7,Al,Ap,Ac],hl⟩) (s:=[CK.mk 1 0 s.Next 0]) (by simp)
 have h1':Ar (λq:List CK×Int=>DV s q.1 q.2) ([CK.mk 1 0 s.Next 0],0)=some l:=h1;have h2':Ar (λq:List CK×Int=>Ig s q.1 q.2) ([CK.mk 1 0 s.Next 0],0)=some l:=h2;rw[h1',h2'];exact⟨l,rfl,rfl,h3⟩
theorem Yt (l:List Bl) (h:l.length<=1048576):Og l l=some true:=by
 unfold Og;rw[bne_self_eq_false,Ac];obtain⟨a,h1,h2⟩:=Bb (body:=λs:Int=>GT l l s) (λ(_:Unit) i=>i) l.length (λ_ _=>True) (λa=>a= .inl ())
  (λ_ i hi _=>by
   have hx:=Ab hi;refine .inl ⟨(),?_,trivial⟩;simp only[GT,A7,Ad hi,Ae,A9,hx,Aa,Wv,Cz,JA,decide_true,Aj,Ac]
   rw[ad1 (by omega)])
  (λ_ _=>⟨.inl (),by simp only[GT,A7,Al,Ap,Ac],rfl⟩) (s:=()) trivial
 have h1':Ar (λs:Int=>GT l l s) 0=some a:=h1;rw[h1',h2];rfl
theorem nO (h:IZ d r):∃st ok,Mt d=some (st,ok)/\O7 d=some (st,ok)/\(ok=true->1<=st.length)/\st.length<=1048576:=by
 have hf:Kb d.Flash:=h.fl.cap;obtain⟨b,r1,r2,r3⟩:=nQ d.Store (by have:=h.st.len;omega) (pS h.st);have hb:=h.st.vs;obtain⟨b1,b2⟩:=eT hb;have e:=UH h.st;rw[r1]at e
 injection e with e
 subst e;obtain⟨st,ok,w1,w2,w3⟩:=bU d hf (KZ (BT d.Store) d.Store.Next) (by omega) (bs []);refine⟨st,ok,?_,?_,?_,by omega⟩
 ·unfold Mt;rw[r1];simp only[Aa];rw[w1];rfl
 ·unfold O7;rw[r2];simp only[Aa];rw[w2];rfl
 intro ho;subst ho
 rcases QH h.fl h.seqs (KZ (BT d.Store) d.Store.Next) (by unfold KZ;simp) b2 b1 (bs [])with w|⟨steps,T,g,c,q1,q2,q3,q4,q5,q6,q7,q8,q9⟩
 ·rw[w1]at w;cases w
 rw[w1]at q2
 injection q2 with q2
 injection q2 with q2 _
 subst q2;have a:=(FB q7).2;rw[Ag]at a;have f:(CH (K3 d (bs [])) d.Tx T).length=T.length:=by unfold CH;rw[Hv]
 omega
theorem bO (hr:GI r):∃l,Ar (λs:List Int×Int=>K1 r s.1 s.2) ([],0)=some l/\l.Nodup/\(∀x,x∈l↔∃y∈r,y.Page.Kind=2/\y.Page.Tx=x)/\l.length<=r.length:=by
 have c:=hr.len;obtain⟨l,h1,h2,h3,h4⟩:=Bb (body:=λs:List Int×Int=>K1 r s.1 s.2) (λ(o:List Int) i=>(o,i)) r.length (λi o=>o.Nodup/\(∀x,x∈o↔∃y∈r.take i,y.Page.Kind=2/\y.Page.Tx=x)/\o.length<=i) (λo=>o.Nodup/\(∀x,x∈o↔∃y∈r,y.Page.Kind=2/\y.Page.Tx=x)/\o.length<=r.length)
  (λo i hi ho=>by
   obtain⟨o1,o2,o3⟩:=ho;have hx:=Ab hi;have et:r.take (i+1)=r.take i++ [r[i]]:=by rw[Aq hi]
   refine .inl ?_;simp only[K1,A7,Ad hi,Ae,A9,hx,Aa];rw[ad1 (by omega),XN o _ (by omega)]
   cases hk:(r[i].Page.Kind==2)with
   |false=>
    simp only[Ac,Aa];refine⟨o,rfl,o1,λx=>?_,by omega⟩;rw[o2,et];constructor
    ·rintro⟨y,y1,y2⟩;exact⟨y,AE _ y1,y2⟩
    rintro⟨y,y1,y2,y3⟩;rw[Ai,Aw]at y1
    rcases y1 with y1|rfl
    ·exact⟨y,y1,y2,y3⟩
    rw[y2]at hk;simp at hk
   |true=>
    have hk':r[i].Page.Kind=2:=by simpa using hk
    simp only[Ae,Aa]
    cases hc:o.contains r[i].Page.Tx with
    |true=>
     have hc':r[i].Page.Tx∈o:=by simpa using hc
     simp only[Aj,Ac];refine⟨o,rfl,o1,λx=>?_,by omega⟩;rw[o2,et];constructor
     ·rintro⟨y,y1,y2⟩;exact⟨y,AE _ y1,y2⟩
     rintro⟨y,y1,y2,y3⟩;rw[Ai,Aw]at y1
     rcases y1 with y1|rfl
     ·exact⟨y,y1,y2,y3⟩
     rw[<-y3];exact(o2 _).1 hc'
    |false=>
     have hc':r[i].Page.Tx∉o:=by
      intro h;rw[List.contains_iff_mem.2 h]at hc;cases hc
     simp only[AC,Ae];rw[Cg (by simp only[Ak];omega)];refine⟨_,rfl,?_,λx=>?_,by simp;omega⟩
     ·rw[Bu];exact⟨o1,by simp,λa ha b hb e=>by rw[Aw]at hb;rw[e,hb]at ha;exact hc' ha⟩
     rw[Ai,Aw,o2,et];constructor
     ·rintro(⟨y,y1,y2⟩|rfl)
      ·exact⟨y,AE _ y1,y2⟩
      exact⟨r[i],AM _ (Aw.2 rfl),hk',rfl⟩
     rintro⟨y,y1,y2,y3⟩;rw[Ai,Aw]at y1
     rcases y1 with y1|rfl
     ·exact .inl ⟨y,y1,y2,y3⟩
     exact .inr y3.symm)
  (λo ho=>⟨o,by simp only[K1,A7,Al,Ap,Ac],by rw[AN]at ho;exact ho⟩) (s:=[]) ⟨CE,by simp,by simp⟩
 exact⟨l,h1,h2,h3,h4⟩
theorem tF {l:List Int} (hr:GI r) (h1:l.Nodup) (h2:∀x,x∈l↔∃y∈r,y.Page.Kind=2/\y.Page.Tx=x):Rm l=Dw r:=by
 obtain⟨n1,n2,n3⟩:=Hi r (λy hy=>(hr.tx y hy).1);refine Vu ?_ n1 (λx=>?_)
 ·have hs:(Rm l).Pairwise λx y=>x<=y:=by
   have:=List.pairwise_mergeSort (le:=λx y:Int=>decide (x<=y)) (λa b c h1 h2=>by simp at*;omega) (λa b=>by simp;omega) l;unfold Rm;exact this.imp (λh=>by simpa using h)
  have hd:(Rm l).Nodup:=by
   unfold Rm;exact(List.mergeSort_perm l _).nodup_iff.2 h1
  unfold asc;exact(hs.and hd).imp (λh=>by have:=h.1;have:=h.2;omega)
 rw[n2,<-h2];unfold Rm;rw[List.mem_mergeSort]
theorem dJ (t:ByteArray) (ht:(L t).length<=20000):∀(n a:Nat) (c:List CK),(L t).length-a<=n->a<=(L t).length->c.length<=a->Ar (λs:List CK×Int=>Ma t s.1 s.2) (c,(a:Int))=Ar (λs:List CK×ByteArray×Int×Bool=>DQ t s.1 s.2.1 s.2.2.1 s.2.2.2) (c,t,(a:Int),false)
 |n,a,c,hn,ha,ho=>by
  rw[A8,A8];simp only[DQ,Ma];rw[BN];by_cases d:a<(L t).length
  ·rw[Ad (by omega:(a:Int)<((L t).length:Int))];simp only[Ae,Aa,AC];rw[Fu t d,ad1 (by omega)];obtain⟨r1,a1,a2,a3⟩:=IT t ((a+1:Nat):Int) (by omega) ⟨by omega,by omega⟩;have f:oI r1.2.1:=by
    rcases a3 with⟨_,_,e⟩|⟨_,_,b,_,_,e,_,_,e2,_⟩
    ·rw[e];exact⟨by omega,by omega⟩
    rw[e];exact⟨by omega,by omega⟩
   obtain⟨r2,b1,b2,b3⟩:=IT t r1.2.1 (by omega) f;rw[a2];simp only[Aa];rw[b2];simp only[Aa];have l1:D0 (EL.mk t ((a+1:Nat):Int) false)=some (if r1.2.2=true then(r1.1,EL.mk t r1.2.1 false)else(0,EL.mk t ((a+1:Nat):Int) true)):=by
    unfold D0;simp only;rw[a1];cases h:r1.2.2<;>simp[h]
   rw[l1]
   cases h1:r1.2.2 with
   |false=>
    simp only[BB,EM,Aa,AC,Ae];have l2:D0 (EL.mk t ((a+1:Nat):Int) true)=some (0,EL.mk t ((a+1:Nat):Int) true):=by
     unfold D0;simp only;rw[a1];simp
    rw[l2];simp only[Aa,Ae]
   |true=>
    simp only[BR,Aa,Aj,Ac];have l2:D0 (EL.mk t r1.2.1 false)=some (if r2.2.2=true then(r2.1,EL.mk t r2.2.1 false)else(0,EL.mk t r1.2.1 true)):=by
     unfold D0;simp only;rw[b1];cases h:r2.2.2<;>simp[h]
    rw[l2]
    cases h2:r2.2.2 with
    |false=>
     simp only[BB,EM,Aa,AC,Ae]
    |true=>
     simp only[BR,Aa,Aj,Ac];obtain⟨v,c1,c2,_⟩:=ZS (CK.mk (qu (IntKind.i64.wrap ((L t)[a].toNat:Int)) 16) (Int.tmod (IntKind.i64.wrap ((L t)[a].toNat:Int)) 16) r1.1 r2.1);rw[c1,c2];simp only[Aa]
     cases v with
     |false=>simp only[AC,Ae]
     |true=>
      simp only[Aj,Ac];rw[Cg (by simp;omega)];simp only[Aa]
      rcases b3 with⟨e,_⟩|⟨_,aa,b,m,k1,k2,k3,k4,k5,_⟩
      ·rw[h2]at e;cases e
      rcases a3 with⟨e,_⟩|⟨_,aa',b',m',p1,p2,p3,p4,p5,_⟩
      ·rw[h1]at e;cases e
      rw[k2]
      match n,hn with
      |n+1,hn=>exact dJ t ht n b _ (by omega) k5 (by simp;omega)
      |0,hn=>omega
  rw[Af (by omega)];simp only[Ac,Aa]
theorem bL (t:ByteArray) (ht:(L t).length<=20000):Qq t=ID t:=by
 have h:=dJ t ht (L t).length 0 [] (by omega) (by omega) (by simp);rw[show((0:Nat):Int)=0 from rfl]at h;unfold Qq ID;rw[h]
def ACZ:Page:=Page.mk 0 0 0 0 0 (bs [])
theorem dX (r:List A4) (hl:r.length<=1048576) (t a c:Int) (h:(a=0/\c=0)\/(0<a/\0<c)):RE r t a c=some (match Rc r t a c with|some y=>(y.Page,true)|none=>(ACZ,false)):=by
 have hp:∀y:A4,(cond (y.Page.Kind==2) (cond (y.Page.Tx==t) (cond (y.Page.Part==a) (cond (c==0) (some true) (some (y.Page.Count==c))) (some false)) (some false)) (some false):Option Bool)=some (nU t a c y):=by
  intro y;unfold nU;cases y.Page.Kind==2<;>cases y.Page.Tx==t<;>cases y.Page.Part==a<;>simp only[Ae,Ac,Bool.false_and,Cz]
  rcases h with⟨rfl,rfl⟩|⟨h1,h2⟩
  ·simp
  rw[show(c==0)=false by simp;omega];simp[h1]
 unfold RE;obtain⟨b,h1,h2⟩:=Bb (body:=λs:Int=>Kv r t a c s) (λ(_:Unit) i=>i) r.length (λi _=>∀(j:Nat) x,j<i->r[j]?=some x->nU t a c x=false) (λb=>match Rc r t a c with|some y=>b= .inr (y.Page,true)|none=>b= .inl ())
  (λ_ i hi hs=>by
   have hx:=Ab hi;simp only[Kv,A7,Ad hi,Ae,A9,hx,Aa];rw[hp,ad1 (by omega)];simp only[Aa]
   cases e:nU t a c r[i]with
   |true=>
    refine .inr ⟨_,rfl,?_⟩;unfold Rc;rw[iU r _ hs hx e]
   |false=>
    refine .inl ⟨(),by simp only[Ac],λj x hj d=>?_⟩;by_cases q:j=i
    ·subst q;rw[hx]at d;injection d with d;rw[<-d];exact e
    exact hs j x (by omega) d)
  (λ_ hs=>⟨.inl (),by simp only[Kv,A7,Al,Ap,Ac],by
   unfold Rc
   rw[sQ r _ (λj x hx=>hs j x (Ah.1 hx).1 hx)]⟩) (s:=()) (λj x hj=>by omega)
 have h1':Ar (λs:Int=>Kv r t a c s) 0=some b:=h1;rw[h1']
 cases hf:Rc r t a c with
 |none=>rw[hf]at h2;simp only at h2;rw[h2];rfl
 |some y=>rw[hf]at h2;simp only at h2;rw[h2];rfl
theorem zA (r:List A4) (hr:GI r) (t:Int) (v:Page×Bool) (hv:1<=v.1.Count/\v.1.Count<=9):∀(n:Nat) (a:Int) (text:ByteArray) (seq:Int),a+n=11->1<=a->a<=v.1.Count->(L text).length<=90*a.toNat->
  ∃b,Ar (λs:ByteArray×Int×Int=>LW r t v s.1 s.2.1 s.2.2) (text,seq,a)=some b/\(match parts r t n a v.1.Count (L text) seq with
   |none=>b= .inr (Tx.mk 0 0 [],false)
   |some (x,q)=>∃u,b= .inl (u,q)/\L u=x/\(L u).length<=1000)
 |0,a,text,seq,hn,h1,hc,ht=>by omega
 |n+1,a,text,seq,hn,h1,hc,ht=>by
  rw[A8];simp only[LW,parts];by_cases e:a<v.1.Count
  ·rw[Ad e,Ax (.inr e)];simp only[Ae];rw[dX r hr.len t a v.1.Count (.inr ⟨by omega,by omega⟩)];simp only[Aa]
   cases hf:Rc r t a v.1.Count with
   |none=>
      simp only[AC,Ae];exact⟨_,rfl,rfl⟩
   |some y=>
    simp only[Aj,Ac];have hy:=RQ hf;have d:=hr.text y hy.1;have c:=sG hy.2 (by omega);rw[Gc text y.Page.Text (by omega)];simp only[Aa];rw[CD (by omega) (by omega),c];have es:NJ a seq y=(if y.Page.Seq<seq then y.Page.Seq else seq):=by
     unfold NJ;by_cases q:y.Page.Seq<seq
     ·rw[Ax (.inr q),Ax q]
     rw[Az (by rintro(h|h);omega;exact q h),Az q]
    rw[es,<-DG];exact zA r hr t v hv n (a+1) _ _ (by omega) (by omega) (by omega) (by rw[DG,Ag];omega)
  rw[Af e,Az (by rintro(h|h);omega;exact e h)];simp only[Ac];exact⟨_,rfl,text,rfl,rfl,by omega⟩
theorem hJ (r:List A4) (hr:GI r) (t:Int):∃x ok,Qg r t=some (x,ok)/\Ih r t=(if ok=true then some x else none)/\x.Recs.length<=20000:=by
 unfold Qg Ih;rw[dX r hr.len t 0 0 (.inl ⟨rfl,rfl⟩)];simp only[Aa]
 have a:parts r t 11 0 0 [] 0=(match Rc r t 0 0 with
  |none=>none
  |some y=>parts r t 10 1 y.Page.Count (L y.Page.Text) y.Page.Seq):=by
  rw[show(11:Nat)=10+1 from rfl];unfold parts;rw[Ax (.inl rfl)]
  cases Rc r t 0 0 with
  |none=>rfl
  |some y=>
   simp only[AA];have:NJ 0 0 y=y.Page.Seq:=by unfold NJ;rw[Ax (.inl rfl)]
   rw[this];rfl
 rw[a]
 cases hf:Rc r t 0 0 with
 |none=>exact⟨_,_,rfl,rfl,by simp⟩
 |some y=>
  simp only[Aj,Ac];have hy:=RQ hf;have c:=hr.text y hy.1;have hc:=hr.cnt y hy.1;obtain⟨b,h1,h2⟩:=zA r hr t (y.Page,true) hc 10 1 y.Page.Text y.Page.Seq (by omega) (by omega) hc.1 (by omega);rw[h1];simp only[Aa]
  cases hp:parts r t 10 1 y.Page.Count (L y.Page.Text) y.Page.Seq with
  |none=>
   rw[hp]at h2;simp only at h2;rw[h2];exact⟨_,_,rfl,rfl,by simp⟩
  |some w=>
   obtain⟨x,q⟩:=w;rw[hp]at h2;obtain⟨u,rfl,rfl,h4⟩:=h2;simp only[Bn];obtain⟨l,ok,r1,r2,r3⟩:=ZT u (by omega);rw[bL u (by omega),r1,ADs,r2];simp only[Aa]
   cases ok with
   |true=>exact⟨_,_,rfl,rfl,r3⟩
   |false=>exact⟨_,_,rfl,rfl,r3⟩
theorem WN (r:List A4) (hr:GI r):RM r=some (Bw r):=by
 have c:=hr.len;have a:=Hi r (λy hy=>(hr.tx y hy).1);have d:=a.2.2;obtain⟨l,l1,l2,l3,l4⟩:=bO hr;unfold RM;rw[l1];simp only[Aa];unfold Ut;rw[Ax (by omega),tF hr l2 l3];simp only[Aa];obtain⟨b,h1,h2⟩:=Bb (body:=λs:List Tx×Int=>K0 r (Dw r) s.1 s.2) (λ(o:List Tx) i=>(o,i)) (Dw r).length (λi o=>o=((Dw r).take i).filterMap (Ih r)) (λb=>b=Bw r)
  (λo i hi ho=>by
   have hx:=Ab hi;have et:(Dw r).take (i+1)=(Dw r).take i++ [(Dw r)[i]]:=Aq hi;have e:o.length<=i:=by
    rw[ho];have:=List.length_filterMap_le (Ih r) ((Dw r).take i);rw[AH]at this;omega
   simp only[K0,A7,Ad hi,Ae,A9,hx,Aa];rw[ad1 (by omega)];obtain⟨z,ok,k1,k2,k3⟩:=hJ r hr (Dw r)[i];rw[k1];simp only[Aa];refine .inl ?_
   cases ok with
   |true=>
    simp only[Ae];rw[Cg (by simp only[Ak];omega)];refine⟨_,rfl,?_⟩;rw[et,H7,ho];simp only[Jc,List.filterMap_nil,k2,BR]
   |false=>
    refine⟨o,rfl,?_⟩;rw[et,H7,ho]
    simp[k2])
  (λo ho=>⟨o,by simp only[K0,A7,Al,Ap,Ac],by rw[ho,AN];rfl⟩) (s:=[]) rfl
 have h1':Ar (λs:List Tx×Int=>K0 r (Dw r) s.1 s.2) ([],0)=some b:=h1;rw[h1',h2];rfl
theorem eA (x:Tx):RG x=some (bF x):=by
 unfold RG bF
 cases h:x.Recs with
 |nil=>rfl
 |cons q m=>
  rw[Ad (by rw[BM,Ay];omega:ln (q::m)>0),show gi (q::m) 0=some q from A9 (i:=0)];rfl
theorem pX (h:IZ d r):O3 d=Lu d:=by
 have hr:=h.pages;obtain⟨g1,_⟩:=Q5 hr;unfold O3 Lu
 cases(d.Base !=sb d.Tx 1)with
 |true=>rfl
 |false=>
  simp only[Ac];rw[h.scan.s,h.scan.i];simp only[Aa];rw[Ou r hr,WN r hr];simp only[Aa];have hb:(λs:Int=>KQ d (Bw r) s)=(λs:Int=>F6 d (Bw r) s):=by
   funext s;simp only[KQ,F6]
   cases decide (s<ln (Bw r))with
   |false=>rfl
   |true=>
    simp only[Ae]
    cases hg:gi (Bw r) s with
    |none=>rfl
    |some x=>
     simp only[Aa]
     cases(x.Num==d.Base)with
     |false=>rfl
     |true=>
      simp only[Ae,Aa];rw[eA];unfold bF
      cases hx:x.Recs with
      |nil=>rfl
      |cons q m=>
       rw[Ad (by rw[BM,Ay];omega:ln (q::m)>0),show gi (q::m) 0=some q from A9 (i:=0)];rfl
  rw[hb]
end Go.TI
