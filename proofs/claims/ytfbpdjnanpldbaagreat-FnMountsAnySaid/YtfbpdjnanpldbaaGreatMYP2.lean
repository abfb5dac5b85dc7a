/- A drawn flash, torn or not, comes up as it should. No condition; no program is in sight. -/
import Derived.Test.YtfbpdjnanpldbaaGreatMYP1
set_option linter.unusedVariables false
set_option linter.unusedSimpArgs false
namespace Go.TI
open Go
def FK (id:Int):Nat->List Int->List CD
 |_,[]=>[]
 |k,x::row=>(if x>0 then [CD.mk 4 id k x]else [])++FK id (k+1) row
def Np (p:Int×List Int):List CD:=CD.mk 2 p.1 0 0::FK p.1 0 p.2
def Ng (l:Vs) (nx:Int):List CD:=CD.mk 1 0 nx 0::l.flatMap Np
theorem NJ (id x:Int):∀(k:Nat) (a:List Int),FK id k (a++ [x])=FK id k a++(if x>0 then [CD.mk 4 id (k+a.length:Nat) x]else [])
 |k,[]=>by simp[FK]
 |k,y::a=>by
  rw[BW,FK,NJ id x (k+1) a,FK,BD,AZ,show k+1+a.length=k+(a.length+1) by omega]
theorem T9 (id:Int):∀(k:Nat) (a:List Int),(FK id k a).length<=a.length
 |_,[]=>A8 _
 |k,x::a=>by
  rw[FK,AC,AZ];have:=T9 id (k+1) a
  grind
theorem Zy (K:Ks) (r:Int):(Ej K r).length=16:=by unfold Ej;simp
theorem dP:∀(l:Vs),(∀p∈l,p.2.length=16)->(l.flatMap Np).length<=17*l.length
 |[],_=>A8 _
 |p::l,h=>by
  have:=dP l λq hq=>h q<|by simp[hq]
  grind [T9,Np]
variable {r r' a b:List An} {d e d':AG} {n k m:Nat} {c:AN} {f g:Flash} {s:Store} {nx nx':Int} {l P l':Vs} {T:List ByteArray} {p:Page} {code:List Int} {K:Ks} {y:An} {x:CD} {α:Type}
theorem Zw (h:Cr s):NH s=some (Ng (Bn s) s.Next):=by
 have hl:=h.len;unfold NH;obtain⟨b,h1,h2⟩:=AD (body:=λq:List CD×Int=>H8 s q.1 q.2) (λ(o:List CD) i=>(o,i)) s.Vols.length (λi o=>o=Ng ((Bn s).take i) s.Next/\o.length<=1+17*i) (λo=>o=Ng (Bn s) s.Next)
  (λo i hi ho=>by
   have hx:=Ab hi;have hr:=h.root _<|AA.2 ⟨s.Vols[i],Ay hi,rfl⟩;have et:(Bn s).take (i+1)=(Bn s).take i++ [(s.Vols[i].Id,Ej s.Arena.Knots s.Vols[i].Root)]:=by grind [Dc,Bn]
   simp only[H8,EM hi,Ar,hx,Aa];rw[BL (by simp;omega),Aa,L4 _ (by have:=h.few;omega) h.ar hr];simp only[Aa];obtain⟨u,u1,u2,u3⟩:=AD (body:=λq:List CD×Int=>JD s (i:Int) (Ej s.Arena.Knots s.Vols[i].Root) q.1 q.2) (λ(l:List CD) k=>(l,k)) (Ej s.Arena.Knots s.Vols[i].Root).length
    (λk u=>u=o++ [CD.mk 2 s.Vols[i].Id 0 0]++FK s.Vols[i].Id 0 ((Ej s.Arena.Knots s.Vols[i].Root).take k)/\u.length<=o.length+1+k) (λu=>u=o++ [CD.mk 2 s.Vols[i].Id 0 0]++FK s.Vols[i].Id 0 (Ej s.Arena.Knots s.Vols[i].Root)/\u.length<=o.length+17)
    (λu k hk hu=>by
     obtain⟨c,d⟩:=hu;have a:=Ab hk;have f:=Zy s.Arena.Knots s.Vols[i].Root;have etk:=Ag hk;simp only[JD,EM hk,Ar,a,hx,Aa];rw[ad1];refine .inl ?_;by_cases e:(Ej s.Arena.Knots s.Vols[i].Root)[k]>0
     ·rw[Ac e,Ak,BL (by simp;omega)]
      grind [NJ]
     grind [NJ])
    (λu hu=>⟨u,by rfl,by grind,by grind [Zy]⟩) (s:=o++ [CD.mk 2 s.Vols[i].Id 0 0]) ⟨by simp[FK],by simp⟩
   grind [ad1,Ng,Np])
  (λo ho=>⟨o,by simp[En,H8],by grind [Nh]⟩) (s:=[CD.mk 1 0 s.Next 0]) ⟨rfl,by simp⟩
 grind
structure VsP (l:Vs) (nx:Int):Prop where
 len:l.length<=3
 nxt:1<=nx/\nx<=1000000000
 ids:∀p∈l,1<=p.1/\p.1<=9
 asc:l.Pairwise λp q=>p.1<q.1
 row:∀p∈l,p.2.length=16
 num:∀p∈l,∀x∈p.2,0<=x/\x<nx
theorem d7 {r:Int} (hK:Cq K=true) (hr:CJ K r=true):∀x∈Ej K r,0<=x:=by grind [B8,EG,qI,Ej,O6]
theorem Cr.vs (h:Cr s):VsP (Bn s) s.Next:=by
 have mem:∀p∈Bn s,∃v∈s.Vols,p=(v.Id,Ej s.Arena.Knots v.Root):=λp hp=>by
  obtain⟨v,hv,rfl⟩:=AA.1 hp
  grind
 refine⟨by rw[Nh];exact h.len,h.nx,λp hp=>?_,?_,λp hp=>?_,λp hp x hx=>?_⟩
 ·obtain⟨v,hv,rfl⟩:=mem p hp;exact h.ids v hv
 ·have:=h.asc;unfold Bn
  grind
 ·grind [Zy]
 obtain⟨v,hv,rfl⟩:=mem p hp;have hm:v.Root∈Bh s:=AA.2 ⟨v,hv,rfl⟩;exact⟨d7 h.ar (h.root _ hm) x hx,h.lt _ hm x hx⟩
theorem wZ {id k x:Int} (h1:1<=id/\id<=9) (h2:0<=k/\k<16) (h3:1<=x/\x<=1000000000):Fw (CD.mk 4 id k x)=true:=by grind [Fw]
theorem zQ {id a:Int} (h1:1<=id/\id<=9) (h2:0<=a/\a<=9):Fw (CD.mk 2 id a 0)=true:=by grind [Fw]
theorem lK {id:Int} {a:List Int} (h:∀p∈P,p.1<id) (k:Nat) (x:Int):lL (P++ [(id,a)]) id k x=P++ [(id,a.set k x)]:=by
 unfold lL;rw[KH];congr 1
 ·conv=>rhs;rw[<-Rw P]
  apply EP
  grind
 simp
theorem cK {id nx:Int} (hP:∀p∈P,p.1<id) (a:1<=id/\id<=9) (b:nx<=1000000000):∀(todo done:List Int),done.length+todo.length=16->(∀x∈todo,0<=x/\x<nx)->C4 (P++ [(id,done++List.replicate todo.length 0)]) nx (FK id done.length todo)=some (P++ [(id,done++todo)],nx)
 |[],done,hl,hx=>by rfl
 |x::todo,done,hl,hx=>by
  have h1:=hx x (by simp);rw[AZ]at hl;have ih:=cK hP a b todo (done++ [x]) (by simp;omega) (λy hy=>hx y<|by simp[hy]);rw[FK];have c:(done++List.replicate (todo.length+1) 0).set done.length x=done++ [x]++List.replicate todo.length 0:=by grind
  by_cases e:x>0
  ·rw[Cl e,Iy,Fq];have d:Dv (P++ [(id,done++List.replicate (x::todo).length 0)]) nx (CD.mk 4 id done.length x)=some (P++ [(id,done++ [x]++List.replicate todo.length 0)],nx):=by
    unfold Dv;rw[wZ a (by omega)<|by omega]
    grind [lK,Cp,Oq]
   grind
  grind
theorem mT {id:Int} {a:List Int} (h:∀p∈P,p.1<id):mU P id a=P++ [(id,a)]:=by grind [Ha,Co,mU]
theorem X8 (a:nx<=1000000000):∀(l P:Vs),(P++l).length<=3->(P++l).Pairwise (λp q=>p.1<q.1)->(∀p∈l,(1<=p.1/\p.1<=9)/\p.2.length=16/\∀x∈p.2,0<=x/\x<nx)->C4 P nx (l.flatMap Np)=some (P++l,nx)
 |[],P,_,_,_=>by simp[C4]
 |p::l,P,e,f,hall=>by
  obtain⟨h1,h2,h3⟩:=hall p<|by simp
  have c:∀q∈P,q.1<p.1:=λq hq=>by grind
  rw[List.flatMap_cons,JO];unfold Np;rw[Fq];have d:Dv P nx (CD.mk 2 p.1 0 0)=some (P++ [(p.1,Tu)],nx):=by grind [zQ,mT,Dv,Oq]
  rw[d];simp only[Aa];have hz:Tu=[]++List.replicate p.2.length 0:=by rw[h2];rfl
  have b:=cK c h1 a p.2 [] (by simpa using h2) h3;rw[<-hz,KI,A0]at b;rw[b];simp only[Aa];have hP:P++ [(p.1,p.2)]=P++ [p]:=rfl;have:=X8 a l (P++ [p]) (by grind) (by grind) (λq hq=>hall q<|by simp[hq]);rw[hP,show(l.flatMap λp=>CD.mk 2 p.1 0 0::FK p.1 0 p.2)=l.flatMap Np from rfl,this,BD];rfl
theorem YF (h:VsP l nx) (l0:Vs) (n0:Int):C4 l0 n0 (Ng l nx)=some (l,nx):=by
 unfold Ng;rw[Fq];have a:Dv l0 n0 (CD.mk 1 0 nx 0)=some ([],nx):=by
  unfold Dv;have hb:Fw (CD.mk 1 0 nx 0)=true:=by
   have:=h.nxt
   grind [Fw]
  rw[hb];have:=h.nxt
  grind
 rw[a];have:=X8 h.nxt.2 l [] (by simpa using h.len) (by simpa using h.asc) λp hp=>⟨h.ids p hp,h.row p hp,h.num p hp⟩
 grind
theorem nE (h:VsP l nx):(∀r∈Ng l nx,Fw r=true)/\(Ng l nx).length<=1000:=by
 refine⟨λr hr=>?_,?_⟩
 ·
  cases hb:Fw r with
  |true=>rfl
  |false=>
   exfalso;obtain⟨i,hi,rfl⟩:=A5 hr;have h1:=YF h [] 1;obtain⟨e1,e2⟩:=HS<|Ab hi;rw[e1,JO]at h1
   cases hq:C4 [] 1 ((Ng l nx).take i)with
   |none=>grind
   |some q=>grind [Fq,Dv]
 unfold Ng;rw[AZ];have:=dP l h.row;have:=h.len;omega
structure AA8 (d d':AG):Prop where
 ab:Bn d'.Store=Bn d.Store
 nx:d'.Store.Next=d.Store.Next
theorem N3 (h:KC d r) {steps:List Bt} (hs:Steps d.Flash steps g) (hl:steps.length<=1048576) (hm:BQ g=some (d',true)):HQ d steps=some d':=by
 unfold HQ;rw[cE h.fl hs hl,Aa,hm];rfl
theorem S2:∀{n:Int} {ps:List Page} {p:Page},FQ n ps->(∀q∈ps,q.Seq<p.Seq)->n<=p.Seq->FQ n (ps++ [p])
 |n,[],p,_,_,h=>⟨h,trivial⟩
 |n,q::ps,p,ha,hq,h=>⟨ha.1,S2 ha.2 (λx hx=>hq x (by simp[hx])) (by grind)⟩
def gH (d:AG) (r:List An) (p:Page):Prop:=p.Kind=1/\Dx (Bn d.Store) p.Tx/\∃y,IY r p.Tx=some y/\p.Text=y.Page.Text
theorem gG {j:Nat} (h:KC d r) {a:List Int} (hl:∀x,x∈a↔Dx (Bn d.Store) x) (hy:r[j]?=some y) (hn:(Jd r a 1000000001)[j]?=some true):y.Page.Kind=1/\Dx (Bn d.Store) y.Page.Tx/\IY r y.Page.Tx=some y:=by
 rw[Tc r a _ hy]at hn
 injection hn with hn
 have b:=h.pages;have ht:=b.tx y<|Ao hy;have:Gg 1000000001 y=false:=by
  unfold Gg
  grind
 rw[this,Bool.false_or,DZ]at hn;obtain⟨c,hc,e⟩:=hn;have f:bC c r r.length=some j:=by simpa using e
 have h1:=sV f;rw[hy]at h1;obtain⟨_,k1,k2⟩:=VS h1
 grind
theorem Xc (h:KC d r) (l:r.length<=40) (b:Int):Kc d b=some ([],false)\/∃steps ps g,Kc d b=some (steps,true)/\GZ d.Flash steps ps g/\Bc g/\FQ d.Seq ps/\steps.length<=160/\(∀p∈ps,gH d r p/\Ik p)/\∀p∈ps,p.Seq<d.Seq+160:=by
 obtain⟨a,l1,l2,l3,l4⟩:=N8 h.st;have m:1<=d.Seq/\d.Seq<=1000000001:=by
  rw[h.seq];have h1:=M9 r;refine⟨h1.2.1,h1.2.2 _ (by omega) λy hy=>?_⟩;have:=(h.pages.seq y hy).2;omega
 unfold Kc;rw[h.scan.s,l1];simp only[Aa];rw[UF r a _ h.scan.len l4];have t:a.foldl (kE r) (r.map<|Gg 1000000001)=Jd r a 1000000001:=rfl
 let I:Nat->(List Bt×Int×List Block)->Prop:=λn o=>∃ps,GZ d.Flash o.1 ps (Flash.mk o.2.2)/\Bc (Flash.mk o.2.2)/\FQ d.Seq ps/\(∀p∈ps,p.Seq<o.2.1)/\d.Seq<=o.2.1/\o.2.1<=d.Seq+n/\o.1.length<=n/\∀p∈ps,gH d r p/\Ik p
 have I0:I (40*0) ([],d.Seq,d.Flash.Blocks):=by
  refine⟨[],rfl,h.fl,trivial,?_,?_,?_,?_,?_⟩
  ·grind
  ·exact Jb _
  ·grind
  ·exact A8 _
  grind
 obtain⟨c,h1,h2⟩:=AD (body:=λs:List Bt×Int×Int×List Block=>II b r (Jd r a 1000000001) s.1 s.2.1 s.2.2.1 s.2.2.2) (λ(o:List Bt×Int×List Block) i=>(o.1,o.2.1,i,o.2.2)) 4
  (λi o=>I (40*i) o) (λc=>c= .inr ([],false)\/∃steps sq bl,c= .inl steps/\I 160 (steps,sq,bl))
  (λo i hi ho=>by
   simp only[II];rw[cT];obtain⟨q,q1,q2⟩:=AD (body:=λs:List Bt×Int×Int×List Block=>GF b r (Jd r a 1000000001) (i:Int) s.1 s.2.1 s.2.2.1 s.2.2.2) (λ(o:List Bt×Int×List Block) j=>(o.1,o.2.1,j,o.2.2)) r.length
    (λj o=>I (40*i+j) o) (λq=>q= .inr (.inr<|.inr ([],false))\/∃o,q= .inl o/\I (40*i+40) o)
    (λo j hj hs=>by
     obtain⟨ss,sq,bl⟩:=o;obtain⟨ps,p1,p2,p3,p4,p5,p6,p7,p8⟩:=hs;simp only at p1 p2 p4 p5 p6 p7;have hx:=Ab hj;have f:j<(Jd r a 1000000001).length:=by grind [PY]
     have e:=Ab f;simp only[GF,EM hj,Ar,hx,e,Aa];rw[ad1];have skip:I (40*i+(j+1)) (ss,sq,bl):=⟨ps,p1,p2,p3,p4,p5,by show sq<=_;omega,by grind,p8⟩
     cases k:(Jd r a 1000000001)[j]with
     |false=>
      exact .inl ⟨(ss,sq,bl),rfl,skip⟩
     |true=>
      simp only[Av,Ad]
      cases hb:(r[j].Block !=b)with
      |true=>
       exact .inl ⟨(ss,sq,bl),rfl,skip⟩
      |false=>
       simp only[Ad,Aa]
       cases u:(r[j].Leaf !=(i:Int))with
       |true=>
        exact .inl ⟨(ss,sq,bl),rfl,skip⟩
       |false=>
        obtain⟨m1,m2,m3⟩:=gG h l3 hx<|by rw[e,k]
        rcases pA p2 p1 (by omega) (Page.mk r[j].Page.Kind sq r[j].Page.Tx r[j].Page.Part r[j].Page.Count r[j].Page.Text)with⟨s,g',w1,w2,w3,w4,_⟩|w
        ·rw[w1];simp only[Aa,Av,Ad];rw[Bu,AC,F9,BV,show((ss.length+1:Nat):Int)-1=(ss.length:Int) by omega,F8];simp only[Aa]
         cases v:(s.Block==b)with
         |true=>simp
         |false=>
          rw[Ca];refine .inl ⟨(ss++ [s],sq+1,g'.Blocks),rfl,_,w2,w3,S2 p3 (λq hq=>p4 q hq) p5,λp hp=>?_,by grind,by grind,by simp;omega,λp hp=>?_⟩
          ·grind
          rw[A7,Cb]at hp
          rcases hp with hp|rfl
          ·exact p8 p hp
          exact⟨⟨m1,m2,_,m3,rfl⟩,w4⟩
        grind)
    (λo hs=>⟨.inl (o.1,o.2.1,o.2.2),by simp[En,GF],.inr ⟨o,rfl,by grind⟩⟩) (s:=o) (by omega)
   rw[q1]
   rcases q2 with rfl|⟨o',rfl,q2⟩
   ·simp
   grind [ad1])
  (λo ho=>⟨.inl o.1,by rfl,.inr ⟨o.1,o.2.1,o.2.2,rfl,ho⟩⟩) (s:=([],d.Seq,d.Flash.Blocks)) I0
 grind
theorem pX {ps:List Page} (h:LY d r) {steps:List Bt} (hp:GZ d.Flash steps ps g) (ha:FQ d.Seq ps) (hl:steps.length<=160) (hm:∀p∈ps,gH d r p/\Ik p) (k:Nat):
  ∃m d',Steps d.Flash (steps.take k) m/\Bc m/\BQ m=some (d',true)/\d'.Flash=m/\LY d' (r++(BU steps ps).take k)/\AA8 d d'/\d'.Base=d.Base/\UY d.Flash m/\∀c,Dx (Bn d.Store) c->BX (r++(BU steps ps).take k) c=BX r c:=by
 have b:=(EI hp).2;have u:=h.few
 have e:∀y∈r,y.Page.Seq<d.Seq:=λy hy=>by rw[h.dev.seq];simp_all [M9]
 obtain⟨m,a⟩:=Rs k hp;have f:=UT h.dev.fl (EI a).1;have ascT:∀(ps:List Page) (n:Int) (k:Nat),FQ n ps->FQ n (ps.take k):=by
  intro ps
  induction ps with
  |nil=>grind
  |cons p ps ih=>
   intro n k ha
   cases k with
   |zero=>trivial
   |succ k=>exact⟨ha.1,ih _ k ha.2⟩
 have l:=WL h.dev.fl h.dev.sr a e<|ascT _ _ k ha;rw[TL]at l;obtain⟨d',u1,u2,u3⟩:=Kx f l;have v:=Ws b;have ascG:∀(ps:List Page) (n:Int) (i:Nat) (p:Page),FQ n ps->ps[i]?=some p->n<=p.Seq/\∀j q,j<i->ps[j]?=some q->q.Seq<p.Seq:=by
  intro ps
  induction ps with
  |nil=>grind
  |cons x ps ih=>
   intro n i p ha hp
   cases i with
   |zero=>
    simp only[List.getElem?_cons_zero,Ax]at hp;rw[<-hp];exact⟨ha.1,λj q hj=>by omega⟩
   |succ i=>
    obtain⟨i1,i2⟩:=ih _ i p ha.2 (by simpa using hp);have:=ha.1;refine⟨by omega,λj q hj hq=>?_⟩
    grind
 have main:∀n,n<=(BU steps ps).length->HK (r++(BU steps ps).take n)/\Fu (r++(BU steps ps).take n) (Dx<|Bn d.Store)/\AU (r++(BU steps ps).take n)=AU r/\∀c,Dx (Bn d.Store) c->BX (r++(BU steps ps).take n) c=BX r c:=by
  intro n
  induction n with
  |zero=>intro _;rw[List.take_zero,AW];exact⟨h.core,h.data,rfl,λ_ _=>rfl⟩
  |succ n ih=>
   intro hn;obtain⟨i1,i2,i3,i4⟩:=ih (by omega);have hx:(BU steps ps)[n]?=some (BU steps ps)[n]:=Ab (by omega);have o:=LG hx;obtain⟨⟨m1,m2,y,m3,m4⟩,m5⟩:=hm _<|Ao o;obtain⟨a1,a2⟩:=ascG ps d.Seq n _ ha o;rw[Ag (by omega),<-BD];have w:SC (BU steps ps)[n].Page.Text=BX r (BU steps ps)[n].Page.Tx:=by grind [BX]
   have s:C9 (r++(BU steps ps).take n)<=(BU steps ps)[n].Page.Seq:=by
    refine(M9 _).2.2 _ (m5.2.1.1) (λz hz=>?_)
    rcases A7.1 hz with hz|hz
    ·grind
    obtain⟨j,hj,rfl⟩:=A5 hz;rw[J5]at hj;rw[List.getElem_take];exact a2 j _ (by omega)<|LG<|Ab<|by omega
   refine⟨HK.add i1 (by simp;omega) m5 s (λhh=>by omega),e8 i2 (by grind),by grind [TK],λc hc=>?_⟩
   grind [MS,BX]
 have t:HK (r++(BU steps ps).take k)/\Fu (r++(BU steps ps).take k) (Dx<|Bn d.Store)/\AU (r++(BU steps ps).take k)=AU r/\∀c,Dx (Bn d.Store) c->BX (r++(BU steps ps).take k) c=BX r c:=by grind [BU]
 obtain⟨k1,k2,k3,k4⟩:=t;obtain⟨e1,e2,e3⟩:=Gw h.dev u2 (by rw[k3]);exact⟨m,d',(EI a).1,f,u1,u3,⟨u2,k1,by rw[e1];exact k2⟩,⟨e1,e2⟩,e3,λ_=>Rr a,k4⟩
theorem iX (h:KC d r) {a:List Int} (hl:a.length<=16777216) (t:ByteArray):∃v,NC d.Flash a t=some v/\((v=0/\∀c∈a,BX r c≠some t)\/(v∈a/\BX r v=some t)):=by
 have hr:=h.pages;unfold NC SK;rw[h.scan.s];obtain⟨b,h1,h2⟩:=AD (body:=λs:Int=>I4 r a t s) (λ(_:Unit) i=>i) a.length (λi _=>∀c∈a.take i,BX r c≠some t) (λb=>(b= .inl ()/\∀c∈a,BX r c≠some t)\/∃v,b= .inr v/\v∈a/\BX r v=some t)
  (λ_ i hi hs=>by
   have hx:=Ab hi;simp only[I4,EM hi,Ar,hx,Aa];obtain⟨u,ok,k1,k2⟩:=bW hr a[i];rw[k1,Aa,ad1]
   have no:BX r a[i]≠some t->∀c∈a.take (i+1),BX r c≠some t:=λe c hc=>by grind [Ag]
   cases ok with
   |false=>simp_all
   |true=>
    cases f:seq u t with
    |true=>grind [Lr]
    |false=>simp_all [Lr])
  (λ_ hs=>⟨_,by simp[En,I4],.inl ⟨rfl,by grind⟩⟩) (s:=()) (by simp)
 grind
structure AAy (q:YN):Prop where
 kind:1<=q.Kind/\q.Kind<=6
 vol:1<=q.Vol/\q.Vol<=9
 text:(L q.Text).length<=64
 sec:0<=q.Sector/\q.Sector<=15
 of_:0<=q.Of/\q.Of<=9
 cl:q.Kind=4->1<=q.Of
 no:q.Kind≠4->q.Of=0
 tx:q.Kind≠1->L q.Text=[]
theorem XU (q:YN):∃v,U8 q=some v/\(v=true->AAy q):=by
 unfold U8;simp only[Du,Aa];by_cases h1:1<=q.Kind/\q.Kind<=6
 ·rw[Ac h1];by_cases h2:1<=q.Vol/\q.Vol<=9
  ·rw[Ac h2];by_cases h3:Gf q.Text>64
   ·simp_all
   rw[Ah h3];rw[Bq]at h3;simp only[Av,Ad];have ht:(cond (q.Kind !=1) (some<|!(seq q.Text<|bs [])) (some false):Option Bool)=some (decide<|q.Kind≠1/\L q.Text≠ []):=by grind [OT,DL]
   rw[ht];simp only[Aa];by_cases h4:q.Kind≠1/\L q.Text≠ []
   ·grind
   rw[Ah h4]
   have a:q.Kind≠1->L q.Text=[]:=λhk=>Classical.byContradiction λhh=>h4 ⟨hk,hh⟩
   by_cases h5:q.Kind=4
   ·rw[show(q.Kind==4)=true by simpa using h5];by_cases h6:q.Sector=0
    ·rw[show(q.Sector==0)=true by simpa using h6];refine⟨_,rfl,λhh=>?_⟩;rw[Bz]at hh;exact⟨h1,h2,by omega,by omega,by omega,λ_=>hh.1,λhk=>absurd h5 hk,a⟩
    grind
   rw[show(q.Kind==4)=false by simpa using h5];by_cases h6:q.Of=0
   ·rw[show(q.Of !=0)=false by simp[h6]];by_cases h7:q.Kind=3\/q.Kind=5
    ·have:(cond (q.Kind==3) (some true) (some<|q.Kind==5):Option Bool)=some true:=by grind
     rw[this];refine⟨_,rfl,λhh=>?_⟩;rw[Q4]at hh;exact⟨h1,h2,by omega,by omega,by omega,λhk=>absurd hk h5,λ_=>h6,a⟩
    have:(cond (q.Kind==3) (some true) (some<|q.Kind==5):Option Bool)=some false:=by grind
    rw[this];refine⟨_,rfl,λhh=>?_⟩;rw[Bz]at hh;exact⟨h1,h2,by omega,hh,by omega,λhk=>absurd hk h5,λ_=>h6,a⟩
   grind
  simp_all [Ah]
 simp_all [Ah]
def vU (d:AG) (r:List An) (q:YN) (x:CD) (a:ByteArray):Prop:=Fw x=true/\x.Kind≠1/\x.Vol=q.Vol/\((L a=[]/\(x.Kind=4->Dx (Bn d.Store) x.Chunk/\BX r x.Chunk=some q.Text))\/(x.Kind=4/\x.Chunk=d.Store.Next/\L a≠ []/\SC a=some q.Text/\∀c,Dx (Bn d.Store) c->BX r c≠some q.Text))
theorem eS (h:KC d r) (q:YN):∃a text no,L0 d q=some (a,text,no)/\((a=[]/\text=bs [])\/(no=0/\∃x,a=[x]/\vU d r q x text))/\(no≠0->a=[]):=by
 have i:=h.st.len;have b:=h.st.nx;obtain⟨v,a1,a2⟩:=XU q;unfold L0;rw[a1];simp only[Aa]
 cases v with
 |false=>exact⟨_,_,_,rfl,.inl ⟨rfl,rfl⟩,λ_=>rfl⟩
 |true=>
  have hq:=a2 rfl;simp only[Av,Ad];obtain⟨w,hw⟩:∃w,Dz d.Store q.Vol=some w:=by
   rcases EL d.Store (by omega) q.Vol with⟨e,_⟩|⟨k,_,e,_⟩<;>exact⟨_,e⟩
  rw[hw];by_cases h34:q.Kind=3\/q.Kind=4
  ·have:(cond (q.Kind==3) (some true) (some<|q.Kind==4):Option Bool)=some true:=by grind
   rw[this];simp only[Aa,Ak]
   cases decide (w>=0)with
   |true=>grind
   |false=>
    obtain⟨j2,g⟩:∃j2,(cond (q.Kind==4) ((Dz d.Store q.Of).bind λv3=>some<|decide<|v3<0) (some false):Option Bool)=some j2:=by grind [EL]
    rw[g];simp only[Aa]
    cases j2 with
    |true=>grind
    |false=>
     cases decide (ln d.Store.Vols>=3)with
     |true=>grind
     |false=>
      refine⟨_,_,_,rfl,.inr ⟨rfl,_,rfl,zQ hq.vol hq.of_,by simp,rfl,.inl ⟨DL _,λhh=>by simp at hh⟩⟩,λhh=>absurd rfl hh⟩
  have:(cond (q.Kind==3) (some true) (some<|q.Kind==4):Option Bool)=some false:=by grind
  rw[this];simp only[Aa,Ad]
  cases decide (w>=0)with
  |false=>exact⟨_,_,_,rfl,.inl ⟨rfl,rfl⟩,λ_=>rfl⟩
  |true=>
   simp only[Av,Ad]
   cases k1:(q.Kind==1)with
   |true=>
    obtain⟨j,l1,l2,l3,l4⟩:=N8 h.st;obtain⟨c,f1,f2⟩:=iX h l4 q.Text;rw[l1,Aa,f1];simp only[Aa]
    rcases f2 with⟨rfl,f2⟩|⟨f2,f3⟩
    ·obtain⟨z,z1,z2,z3⟩:=rV q.Text hq.text;rw[show((0:Int)==0)=true from rfl,z1];refine⟨_,_,_,rfl,.inr ⟨rfl,_,rfl,wZ hq.vol (by have:=hq.sec;omega) ⟨b.1,b.2⟩,by simp,rfl,.inr ⟨rfl,rfl,?_,?_,λc hc=>f2 c<|(l3 c).2 hc⟩⟩,λhh=>absurd rfl hh⟩
     ·grind
     grind [SC]
    have f:=(l3 c).1 f2;have l:=ZG h.st f;rw[show(c==0)=false by grind];refine⟨_,_,_,rfl,.inr ⟨rfl,_,rfl,wZ hq.vol (by have:=hq.sec;omega) (by omega),by simp,rfl,.inl ⟨DL _,λ_=>⟨f,f3⟩⟩⟩,λhh=>absurd rfl hh⟩
   |false=>
    cases k2:(q.Kind==2)with
    |true=>
     refine⟨_,_,_,rfl,.inr ⟨rfl,_,rfl,?_,by simp,rfl,.inl ⟨DL _,λhh=>by simp at hh⟩⟩,λhh=>absurd rfl hh⟩;have:=hq.vol;have:=hq.sec
     grind [Fw]
    |false=>
     cases k5:(q.Kind==5)with
     |true=>
      refine⟨_,_,_,rfl,.inr ⟨rfl,_,rfl,?_,by simp,rfl,.inl ⟨DL _,λhh=>by simp at hh⟩⟩,λhh=>absurd rfl hh⟩;have:=hq.vol
      grind [Fw]
     |false=>grind
theorem dS (h:Dv l nx x=some (l',nx')) (hk:x.Kind≠1):(∀c,Dx l' c->Dx l c\/c=x.Chunk)/\nx<=nx'/\nx'<=max nx (x.Chunk+1):=by
 unfold Dv at h;split at h
 ·cases h
 split at h
 ·split at h
  ·cases h
  injection h with h
  injection h with h1 h2
  subst h1 h2;refine⟨λc hc=>?_,by omega,by omega⟩;obtain⟨h0,p,hp,hx⟩:=hc;unfold mU at hp;simp only[A7,AY,Cb]at hp
  rcases hp with(hp|rfl)|hp
  ·exact .inl ⟨h0,p,hp.1,hx⟩
  ·have zz:c∉Tu:=λhz=>by have:=Dl hz;omega
   split at hx
   ·cases hg:Oq l x.Arg with
    |none=>grind
    |some row=>
     rw[hg]at hx;obtain⟨w,a,d⟩:=AI.1 hg;have b:=List.mem_of_find?_eq_some a;exact .inl ⟨h0,w,b,by grind⟩
   exact absurd hx zz
  exact .inl ⟨h0,p,hp.1,hx⟩
 split at h
 ·cases h
 split at h
 ·injection h with h
  injection h with h1 h2
  subst h1 h2;refine⟨λc hc=>?_,by omega,by omega⟩;obtain⟨h0,p,hp,hx⟩:=hc;exact .inl ⟨h0,p,(AY.1 hp).1,hx⟩
 injection h with h
 injection h with h1 h2
 subst h1 h2;refine⟨λc hc=>?_,by omega,by omega⟩;obtain⟨h0,p,hp,hx⟩:=hc;obtain⟨w,hw,rfl⟩:=AA.1 hp;split at hx
 ·rcases Bs hx with hx|hx
  ·exact .inl ⟨h0,w,hw,hx⟩
  exact .inr hx
 exact .inl ⟨h0,w,hw,hx⟩
theorem hO (h:Dv l nx x=some (l',nx')) (hk:x.Kind≠1):∀p∈l',(∃p'∈l,p'.1=p.1)\/p.1=x.Vol:=by
 unfold Dv at h;split at h
 ·cases h
 split at h
 ·grind [mU]
 split at h
 ·cases h
 split at h
 ·injection h with h
  injection h with h1 h2
  subst h1 h2
  exact λp hp=> .inl ⟨p,(AY.1 hp).1,rfl⟩
 grind [lL]
theorem WQ (h:KC d r):∃v,Nx d=some v:=by
 have hr:=h.pages;unfold Nx
 cases(d.Base !=sb d.Tx 1)with
 |true=>exact⟨_,rfl⟩
 |false=>
  rw[h.scan.s,Aa,OZ r hr];simp only[Aa];obtain⟨g1,_⟩:=Rj hr;obtain⟨b,h1,_⟩:=AD (body:=λs:Int=>Hx d (AU r) s) (λ(_:Unit) i=>i) (AU r).length (λ_ _=>True) (λ_=>True)
   (λ_ i hi _=>by
    have hx:=Ab hi;simp only[Hx,EM hi,Ar,hx,Aa];rw[ad1]
    cases((AU r)[i].Num==d.Base)with
    |false=>simp
    |true=>
     cases a:(AU r)[i].Recs with
     |nil=>exact .inr ⟨_,rfl,trivial⟩
     |cons q m=>grind [gi])
   (λ_ _=>⟨.inl (),by simp[En,Hx],trivial⟩) (s:=()) trivial
  rw[h1]
  cases b with
  |inl u=>exact⟨_,rfl⟩
  |inr v=>exact⟨v,rfl⟩
theorem WV (h:KC d r):∃v,N2 d=some v:=by
 have hn:=h.fl.n;obtain⟨a,l1,_,_,l4⟩:=N8 h.st;unfold N2;rw[h.scan.s,l1];simp only[Aa];rw[UF r a d.Base h.scan.len l4,UF r a 1000000000 h.scan.len l4]
 have c:∀b,a.foldl (kE r) (r.map<|Gg b)=Jd r a b:=λ_=>rfl
 rw[c,c];obtain⟨b,h1,_⟩:=AD (body:=λs:Int×Int×Int=>H5 d r (Jd r a d.Base) (Jd r a 1000000000) s.1 s.2.1 s.2.2) (λ(o:Int×Int) i=>(o.1,o.2,i)) d.Flash.Blocks.length (λ_ _=>True) (λ_=>True)
  (λo i hi _=>by
   have hx:=Ab hi;have hP:=h.fl.blk _<|Ay hi;simp only[H5,EM hi,Ar,hx,Aa];rw[pJ r _ (i:Int) h.scan.len<|PY _ _ _,pJ r _ (i:Int) h.scan.len<|PY _ _ _,Fg _ hP.four,ad1];simp only[Aa,S1]
   cases(bif !d.Flash.Blocks[i].Bad then _ else false)with
   |true=>simp
   |false=>grind)
  (λo _=>⟨o.1,by simp[En,H5],trivial⟩) (s:=(-1,4)) trivial
 grind
theorem KC.seqs (h:KC d r):0<=d.Seq/\d.Seq<=1000000001:=by
 rw[h.seq];have h1:=M9 r;refine⟨by omega,h1.2.2 _ (by omega) λy hy=>?_⟩;have:=(h.pages.seq y hy).2;omega
theorem YR (h:∀y∈r',y.Page.Kind=2->y.Page.Tx<Dm r+n):Dm r'<=Dm r+n:=(YS r').2.2 _ (by have:=(YS r).2.1;omega) h
theorem Uv (n:Nat) (hy:y∈r) (hk:y.Page.Kind=2):y.Page.Tx<Dm r+n:=by have:=(YS r).1 y hy hk;omega
theorem Yh {seq tx:Int} (h:p∈BR seq tx T):p.Tx=tx:=by grind [BR]
theorem YY (h:∀y∈r',y.Page.Seq<C9 r+n):C9 r'<=C9 r+n:=(M9 r').2.2 _ (by have:=(M9 r).2.1;omega) h
theorem Uy (n:Nat) (hy:y∈r):y.Page.Seq<C9 r+n:=by have:=(M9 r).1 y hy;omega
theorem gB {seq tx:Int} (h:p∈BR seq tx T):p.Seq<seq+T.length:=by grind [BR]
theorem X6 {c:Int} {a:ByteArray} (h:p∈Cv d c a++BR (Ht d a) d.Tx T):p.Seq<d.Seq+1+T.length:=by
 rcases A7.1 h with h|h
 ·grind [Cv]
 have h1:=gB h
 grind [Ht]
theorem Mq {seq tx:Int} (h:p∈BR seq tx T):p.Kind=2:=by grind [BR]
def nU (m:Flash) (s:Bt) (g:Flash):Prop:=Bc g/\UY m g/\((s.Kind=1/\IP 0 g.Blocks=IP 0 m.Blocks)\/(s.Kind=2/\IP 0 g.Blocks=(IP 0 m.Blocks).filter λy=>y.Block !=s.Block))
def Y7 (f:Flash) (ss:List Bt) (k:Nat) (g:Flash):Prop:=∃m,Steps f (ss.take k) m/\(g=m\/∃s,ss[k]?=some s/\OP m s/\nU m s g)
theorem Qu:∀{f:Flash} {a:List Bt} {g m:Flash},Steps f a g->Steps f a m->g=m
 |f,[],g,m,h,k=>by rw[show g=f from h,show m=f from k]
 |f,s::a,g,m,h,k=>Qu h.2 k.2
theorem nB {m:Flash} {a b:List Bt} (h:Y7 f (a++b) k g) (hs:Steps f a m):(k<a.length/\Y7 f a k g)\/(a.length<=k/\Y7 m b (k-a.length) g):=by
 obtain⟨x,h1,h2⟩:=h;by_cases e:k<a.length
 ·left;rw[List.take_append_of_le_length<|by omega]at h1;rw[JS e]at h2;exact⟨e,x,h1,h2⟩
 right;rw[List.take_append,AS<|by omega]at h1;rw[CW<|by omega]at h2;obtain⟨y,y1,y2⟩:=(Ni _ _ _ _).1 h1;rw[Qu y1 hs]at y2;exact⟨by omega,x,y2,h2⟩
structure Ja (n:Nat) (d:AG) (r:List An) (d':AG) (r':List An):Prop where
 good:LY d' r'
 ab:Bn d'.Store=Bn d.Store
 nx:d'.Store.Next=d.Store.Next
 pg:∀y∈r',y.Page.Kind=1->∃z∈r,z.Page.Kind=1/\z.Page.Tx=y.Page.Tx/\z.Page.Text=y.Page.Text
 tx:Dm r'<=Dm r+n
 wear:∀w:Int,Hr d.Flash w->Hr d'.Flash (w+n)
 text:∀c,Dx (Bn d.Store) c->BX r' c=BX r c
 sq:C9 r'<=C9 r+200*n
structure As (d:AG) (r:List An) (d':AG) (r':List An):Prop where
 good:LY d' r'
 ab:Bn d'.Store=Bn d.Store
 nx:d'.Store.Next=d.Store.Next
 tx:Dm r'<=Dm r+1
 wear:∀w:Int,Hr d.Flash w->Hr d'.Flash (w+1)
 text:∀c,Dx (Bn d.Store) c->BX r' c=BX r c
theorem As.torn (h:As d a e b) (hg:Bc g) (hp:IP 0 g.Blocks=IP 0 e.Flash.Blocks) (hw:UY e.Flash g):∃x,BQ g=some (x,true)/\x.Flash=g/\As d a x b:=by
 obtain⟨x,u1,u2,u3⟩:=Kx hg (r:=b) (by rw[hp];exact h.good.dev.sr);obtain⟨e1,e2,_⟩:=Gw h.good.dev u2 rfl;exact⟨x,u1,u3,⟨⟨u2,h.good.core,by rw[e1];exact h.good.data⟩,by rw[e1,h.ab],by rw[e2,h.nx],h.tx,λw hh=>by rw[u3];exact hw _<|h.wear w hh,h.text⟩⟩
theorem Us (h:UY f g) (w:Int) (hw:Hr f w):Hr g (w+n):=λb hb=>by have:=h w hw b hb;omega
theorem Ja.refl (h:LY d r):Ja n d r d r:=⟨h,rfl,rfl,λy hy hk=>⟨y,hy,hk,rfl,rfl⟩,by omega,Us λ_ h=>h,λ_ _=>rfl,by omega⟩
theorem Ja.trans {g:AG} {c:List An} (h:Ja n d a e b) (k:Ja m e b g c):Ja (n+m) d a g c:=⟨k.good,by rw[k.ab,h.ab],by rw[k.nx,h.nx],λy hy hk=>by
 obtain⟨z,z1,z2,z3,z4⟩:=k.pg y hy hk;obtain⟨w,w1,w2,w3,w4⟩:=h.pg z z1 z2
 grind,by have:=h.tx;have:=k.tx;omega,λw hw=>by
 have:=k.wear _<|h.wear w hw
 grind,λc hc=>by rw[k.text c (by rw[h.ab];exact hc),h.text c hc],by have:=h.sq;have:=k.sq;omega⟩
theorem Ja.mono (h:Ja n d a e b) (hm:n<=m):Ja m d a e b:={h with
 tx:=by have:=h.tx;omega
 wear:=λw hw x hx=>by have:=h.wear w hw x hx;omega
 sq:=by have:=h.sq;omega}
theorem Ja.torn (h:Ja n d a e b) (hg:Bc g) (hp:IP 0 g.Blocks=IP 0 e.Flash.Blocks) (hw:UY e.Flash g):∃x,BQ g=some (x,true)/\x.Flash=g/\Ja n d a x b:=by
 obtain⟨x,u1,u2,u3⟩:=Kx hg (r:=b) (by rw[hp];exact h.good.dev.sr);obtain⟨e1,e2,_⟩:=Gw h.good.dev u2 rfl;exact⟨x,u1,u3,⟨⟨u2,h.good.core,by rw[e1];exact h.good.data⟩,by rw[e1,h.ab],by rw[e2,h.nx],h.pg,h.tx,λw hh=>by rw[u3];exact hw _<|h.wear w hh,h.text,h.sq⟩⟩
def M7 (n:Nat) (d:AG) (r:List An) (steps:List Bt):Prop:=(∃m,Steps d.Flash steps m)/\∀k g,k<=steps.length->Y7 d.Flash steps k g->∃x rx,BQ g=some (x,true)/\x.Flash=g/\Ja n d r x rx
theorem Yd {steps:List Bt} (h1:∀s∈steps,s.Kind=1) (hc:∀k,k<=steps.length->∃x rx,Steps d.Flash (steps.take k) x.Flash/\BQ x.Flash=some (x,true)/\Ja n d r x rx):M7 n d r steps:=by
 refine⟨?_,λk g hk hg=>?_⟩
 ·obtain⟨x,rx,c1,_⟩:=hc steps.length (A8 _)
  grind
 obtain⟨x,rx,c1,c2,c3⟩:=hc k hk;obtain⟨m,m1,m2⟩:=hg;have:=Qu m1 c1;subst this
 rcases m2 with rfl|⟨s,s1,_,s2,s3,⟨_,s4⟩|⟨s4,_⟩⟩
 ·grind
 ·obtain⟨y,y1,y2,y3⟩:=c3.torn s2 s4 s3
  grind
 grind
theorem M7.full {steps:List Bt} (h:LY d r) (hc:M7 n d r steps) (hl:steps.length<=1000000):∃x rx,HQ d steps=some x/\Steps d.Flash steps x.Flash/\Ja n d r x rx:=by
 obtain⟨⟨m,hm⟩,hk⟩:=hc;obtain⟨x,rx,x1,x2,x3⟩:=hk steps.length m (A8 _) ⟨m,by grind,.inl rfl⟩;exact⟨x,rx,N3 h.dev hm (by omega) x1,by rw[x2];exact hm,x3⟩
theorem nM {re:List An} {a b:List Bt} (hk:Ja n d r e re) (hs:Steps d.Flash a e.Flash) (ha:M7 n d r a) (hb:M7 m e re b):M7 (n+m) d r (a++b):=by
 refine⟨?_,λk g c hg=>?_⟩
 ·obtain⟨x,hx⟩:=hb.1;simp_all [Ni];grind
 rw[AC]at c
 rcases nB hg hs with⟨e1,e2⟩|⟨e1,e2⟩
 ·obtain⟨x,rx,x1,x2,x3⟩:=ha.2 k g (by omega) e2;exact⟨x,rx,x1,x2,x3.mono<|by omega⟩
 obtain⟨x,rx,x1,x2,x3⟩:=hb.2 _ g (by omega) e2;exact⟨x,rx,x1,x2,hk.trans x3⟩
theorem VR (r m:List An) (c:Int) (h:∀y∈m,¬(y.Page.Kind=1/\y.Page.Tx=c)):IY (r++m) c=IY r c:=by grind [Sj,IY]
theorem iZ (h:LY d r) (hw:Hr d.Flash 999999999):∃steps ok,NG d=some (steps,ok)/\steps.length<=200/\(ok=false->steps=[])/\(ok=true->M7 1 d r steps):=by
 have hv:=h.dev.st.vs;obtain⟨dead,d1,d2,d3⟩:=VC h.dev;unfold NG;rw[d1];simp only[Aa]
 cases hd:dead with
 |cons b m=>
  rw[Ac (by grind [Bu]:ln (b::m)>0),show gi (b::m) 0=some b from Ar (i:=0)];refine⟨_,_,rfl,by simp,(λhh=>by cases hh),λ_=>?_⟩;obtain⟨x,x1,x2,x3⟩:=d3 b (by rw[hd];simp);have hc:rI d.Flash b:=⟨x,x1,x2,λe=>by have:=hw x<|Ao (Cu x1).2;omega⟩;have hs:OP d.Flash (Bt.mk 2 b 0<|bs []):= .inr ⟨rfl,hc⟩;obtain⟨w1,w2⟩:=OF h.dev.fl hc;have he:KD d.Flash (Bt.mk 2 b 0<|bs [])=OG d.Flash b:=by rfl
  have wp:∀g,Bc g->IP 0 g.Blocks=((IP 0 d.Flash.Blocks).filter λy=>y.Block !=b)->(∀w:Int,Hr d.Flash w->Hr g (w+1))->∃x rx,BQ g=some (x,true)/\x.Flash=g/\Ja 1 d r x rx:=by
   intro g g1 g2 g3;obtain⟨d',u1,u2,u3,u4,u5,_,u6⟩:=sP h x3 g1 g2;exact⟨d',_,u1,u2,u3,u4,u5,λy hy hk=>⟨y,(AY.1 hy).1,hk,rfl,rfl⟩,YR λy hy hk=>Uv _ (AY.1 hy).1 hk,by rw[u2];exact g3,u6,YY (n:=200*1) λy hy=>Uy _ (AY.1 hy).1⟩
  refine⟨⟨_,hs,rfl⟩,λk g hk hg=>?_⟩;obtain⟨q,q1,q2⟩:=hg
  cases k with
  |zero=>
   rw[show q=d.Flash from q1]at q2
   rcases q2 with rfl|⟨s,s1,_,s2,s3,⟨s4,_⟩|⟨_,s4⟩⟩
   ·obtain⟨x,u1,u2,u3⟩:=(Ja.refl (n:=1) h).torn h.dev.fl rfl λ_ hh=>hh
    grind
   ·grind
   simp only[List.getElem?_cons_zero,Ax]at s1;rw[<-s1]at s4
   exact wp g s2 s4 λw hh y hy=>by have:=s3 w hh y hy;omega
  |succ k=>grind [XJ,Steps]
 |nil=>
  rw[show decide (ln ([]:List Int)>0)=false from rfl];obtain⟨v,v1⟩:=WQ h.dev;rw[v1];simp only[Aa]
  cases v with
  |false=>
   unfold Pb;rw[Zw h.dev.st];simp only[Aa];obtain⟨b1,b2⟩:=nE hv
   rcases S3 h.dev.fl h.dev.seqs (Ng (Bn d.Store) d.Store.Next) (by unfold Ng;simp) b2 b1 (bs [])with w|⟨steps,T,g,a,w1,w2,w3,w4,w5,w6,w7,w8,w9⟩
   ·grind
   rw[w2];simp only[Aa];have j:=(EI w7).2;have l:(BR (Ht d<|bs []) d.Tx T).length=T.length:=by unfold BR;grind
   have o:Cv d a.Chunk (bs [])=[]:=by rfl
   rw[o,A0,l]at j;refine⟨_,_,rfl,by omega,(λhh=>by cases hh),λ_=>Yd (Oy w7) λk hk=>?_⟩;obtain⟨m,d',r',c1,c2,c3,c4,c5,rfl,cw,c6,c7,c8,c9⟩:=SB h b1 w3 w4 w5 w6 w7 w9 (λhh=>absurd (DL _) hh) k hk;have f:Bn d'.Store=Bn d.Store/\d'.Store.Next=d.Store.Next:=by
    by_cases e:k<steps.length
    ·obtain⟨e1,e2,_⟩:=Gw h.dev c4 (by rw[c8 e]);exact⟨e1,e2⟩
    obtain⟨q,hq⟩:=(c9<|by omega).1;have hB:kL (Tx.mk d.Tx q<|Ng (Bn d.Store) d.Store.Next)=true:=rfl;have f:=c4.ab
    grind [PI,YF,LA]
   have hX:∀y∈(BU steps<|Cv d a.Chunk (bs [])++BR (Ht d<|bs []) d.Tx T).take k,y.Page.Kind=2/\y.Page.Tx=d.Tx:=λy hy=>by grind [Ko,Mq,Yh]
   refine⟨d',_,by rw[c5];exact c1,by rw[c5];exact c3,⟨c4,c6,by grind⟩,f.1,f.2,λy hy hk=>?_,YR λy hy hk=>?_,by rw[c5];exact Us (n:=1) cw,λc hc=>?_,YY (n:=200*1) λy hy=>?_⟩
   ·grind
   ·rcases A7.1 hy with hh|hh
    ·exact Uv _ hh hk
    rw[(hX y hh).2,h.dev.tx];omega
   ·grind [VR,BX]
   rcases A7.1 hy with hh|hh
   ·exact Uy _ hh
   have:=X6<|Ko _ _ _ y hh;rw[h.dev.seq]at this;omega
  |true=>
   simp only[Av,Ad];obtain⟨vi,vi1⟩:=WV h.dev;rw[vi1];simp only[Aa]
   cases decide (vi<0)with
   |true=>grind
   |false=>
    rcases Xc h.dev h.few vi with w|⟨steps,ps,g,w1,w2,w3,w4,w5,w6,w7⟩
    ·grind
    rw[w1];refine⟨steps,true,rfl,by omega,(λhh=>by cases hh),λ_=>Yd (Oy w2) λk hk=>?_⟩;obtain⟨m,d',c1,c2,c3,c4,c5,c6,_,cw,c7⟩:=pX h w2 w4 w5 w6 k;refine⟨d',_,by rw[c4];exact c1,by rw[c4];exact c3,c5,c6.ab,c6.nx,λy hy hk=>?_,YR λy hy hk=>?_,by rw[c4];exact Us (n:=1) cw,c7,YY (n:=200*1) λy hy=>?_⟩
    ·rcases A7.1 hy with hh|hh
     ·grind
     obtain⟨⟨_,_,z,z1,z2⟩,_⟩:=w6 _<|Ko _ _ _ _ hh
     grind [VS]
    ·rcases A7.1 hy with hh|hh
     ·exact Uv _ hh hk
     have:=(w6 _<|Ko _ _ _ _ hh).1.1;omega
    rcases A7.1 hy with hh|hh
    ·exact Uy _ hh
    have:=w7 _<|Ko _ _ _ _ hh;rw[h.dev.seq]at this;omega
theorem Ts (h:Bc f):∃v:Int,Lz f=some v:=by
 obtain⟨v,v1,_⟩:=nI f h.cap (by have:=h.few;omega);exact⟨v,v1⟩
theorem i7 (h:LY d r) (hw:Hr d.Flash 999999000) (most:Int):∃d' all r',L3 d most=some (d',all)/\Ja 20 d r d' r'/\all.length<=4000/\Steps d.Flash all d'.Flash/\M7 20 d r all:=by
 unfold L3;rw[T3 h.dev];simp only[Aa]
 have j:∀{n:Nat} {a:List Bt},n<=20->M7 n d r a->M7 20 d r a:=λhn hc=>⟨hc.1,λk g hk hg=>by
  obtain⟨x,rx,x1,x2,x3⟩:=hc.2 k g hk hg
  exact⟨x,rx,x1,x2,x3.mono hn⟩⟩
 obtain⟨b,h1,d',all,r',h2,h3,h4,h5,h6⟩:=AD (body:=λs:List Bt×Int×List Block×List Vol×List Bk×Int×Int×Int×Int=>H7 most s.1 s.2.1 s.2.2.1 s.2.2.2.1 s.2.2.2.2.1 s.2.2.2.2.2.1 s.2.2.2.2.2.2.1 s.2.2.2.2.2.2.2.1 s.2.2.2.2.2.2.2.2)
  (λ(o:List Bt×AG) i=>(o.1,i,o.2.Flash.Blocks,o.2.Store.Vols,o.2.Store.Arena.Knots,o.2.Store.Next,o.2.Seq,o.2.Tx,o.2.Base)) 20
  (λi o=>o.1.length<=200*i/\∃r',Ja i d r o.2 r'/\Steps d.Flash o.1 o.2.Flash/\M7 i d r o.1)
  (λb=>∃d' all r',(b= .inr (d',all)\/b= .inl (all,d'.Flash.Blocks,d'.Store.Vols,d'.Store.Arena.Knots,d'.Store.Next,d'.Seq,d'.Tx,d'.Base))/\Ja 20 d r d' r'/\all.length<=4000/\Steps d.Flash all d'.Flash/\M7 20 d r all)
  (λo i hi hs=>by
   obtain⟨all,e⟩:=o;obtain⟨l,r',hg,c,f⟩:=hs;simp only at l hg c f;have m:AG.mk (Flash.mk e.Flash.Blocks) (Store.mk e.Store.Vols (Arena.mk e.Store.Arena.Knots) e.Store.Next) e.Seq e.Tx e.Base=e:=rfl;have p:Flash.mk e.Flash.Blocks=e.Flash:=rfl;simp only[H7];rw[m,p];obtain⟨v,v1⟩:=Ts hg.good.dev.fl;rw[v1,Ac (by omega:(i:Int)<20)];simp only[Ak,Aa,S1]
   cases(bif decide ((i:Int)<most)then decide (v<12)else false)with
   |false=>
    exact .inr ⟨_,rfl,e,all,r',.inr rfl,hg.mono (by omega),by omega,c,j (by omega) f⟩
   |true=>
    obtain⟨steps,ok,c1,c2,_,c3⟩:=iZ hg.good (λx hx=>by have:=hg.wear _ hw x hx;omega);rw[c1];simp only[Aa]
    cases ok with
    |false=>
     exact .inr ⟨_,rfl,e,all,r',.inl rfl,hg.mono (by omega),by omega,c,j (by omega) f⟩
    |true=>
     obtain⟨d',r2,k1,k2,k3⟩:=(c3 rfl).full hg.good (by omega);rw[k1,Aa,BL (by omega),ad1]
     exact .inl ⟨(all++steps,d'),rfl,by simp;omega,r2,hg.trans k3,(Ni _ _ _ _).2 ⟨_,c,k2⟩,nM hg c f<|c3 rfl⟩)
  (λo hs=>by simp_all [H7];grind) (s:=([],d)) ⟨by simp,r,Ja.refl h,rfl,⟨⟨_,rfl⟩,λk g hk hg=>by
   obtain⟨q,q1,q2⟩:=hg;rw[List.take_nil]at q1;rw[show q=d.Flash from q1]at q2
   rcases q2 with rfl|⟨s,s1,_⟩
   ·obtain⟨x,u1,u2,u3⟩:=(Ja.refl (n:=0) h).torn h.dev.fl rfl λ_ hh=>hh
    grind
   simp at s1⟩⟩
 rw[h1]
 rcases h2 with rfl|rfl
 ·grind
 exact⟨d',all,r',rfl,h3,h4,h5,h6⟩
theorem oU {r:Int} (h:k<16):(Ej K r)[k]?=some (O6 K r k):=by grind [Ej]
theorem cH (h:Cr s) (vol:Int) (hk:k<16):∃c,MO s vol (k:Int)=some c/\((Oq (Bn s) vol=none/\c=0)\/∃a,Oq (Bn s) vol=some a/\a[k]?=some c/\0<=c/\(c≠0->Dx (Bn s) c)):=by
 have hl:=h.len;unfold MO
 rcases EL s (by omega) vol with⟨e,e2⟩|⟨i,v,e,e2,e3,_⟩
 ·grind [Na]
 rw[e];simp only[Aa];have hm:=Ao e2;have hr:=h.root _<|AA.2 ⟨v,hm,rfl⟩;rw[cF,Ar,e2,Aa,V8 _ (by have:=h.few;omega) h.ar hr hk];have hg:=MZ h.asc hm;rw[e3]at hg;have h0:=d7 h.ar hr _<|W6 hk;exact⟨_,rfl,.inr ⟨_,hg,oU hk,h0,λb=>⟨by omega,_,AA.2 ⟨v,hm,rfl⟩,W6 hk⟩⟩⟩
theorem bN (h:LY d r) (vol:Int) (hk:k<16):(Oq (Bn d.Store) vol=none/\La r d.Store vol (k:Int)=some (bs [],false))\/
  ∃a c,Oq (Bn d.Store) vol=some a/\a[k]?=some c/\MO d.Store vol (k:Int)=some c/\((c=0/\La r d.Store vol (k:Int)=some (bs [],true))\/(0<c/\Dx (Bn d.Store) c/\∃u,BX r c=some u/\La r d.Store vol (k:Int)=some (u,true))):=by
 have hl:=h.dev.st.len;obtain⟨c,c1,c2⟩:=cH h.dev.st vol hk;unfold La;rw[c1]
 rcases EL d.Store (by omega) vol with⟨e,e2⟩|⟨i,v,e,e2,e3,_⟩
 ·grind [Na]
 have hg:=MZ h.dev.st.asc<|Ao e2;rw[e3]at hg
 rcases c2 with⟨c2,_⟩|⟨a,c2,c3,c4,c5⟩
 ·grind
 rw[e];simp only[Aa];rw[cF];right;by_cases e0:c=0
 ·grind
 rw[show(c==0)=false by simpa using e0];have b:=c5 e0;obtain⟨u,hu⟩:=h.data.data c b;obtain⟨w,ok,t1,t2⟩:=bW h.dev.pages c
 grind
theorem iS (h:KC d r) {q:YN} {a:List CD} {b:ByteArray} (hp:L0 d q=some (a,b,0)):AAy q:=by
 obtain⟨v,a1,a2⟩:=XU q
 grind [L0]
def eX (r r':List An) (c:Int) (a:ByteArray):Prop:=(∀y∈r',y.Page.Kind=1->(∃z∈r,z.Page.Kind=1/\z.Page.Tx=y.Page.Tx/\z.Page.Text=y.Page.Text)\/(L a≠ []/\y.Page.Tx=c/\y.Page.Text=a))/\Dm r'<=Dm r+1/\C9 r'<=C9 r+10
theorem sO (h:LY d r) {q:YN} {a:ByteArray} (hx:vU d r q x a):Df d [x] a=some ([],false)\/∃steps d' r',Df d [x] a=some (steps,true)/\steps.length<=10/\HQ d steps=some d'/\LY d' r'/\
  (Bn d'.Store,d'.Store.Next)=(Dv (Bn d.Store) d.Store.Next x).getD (Bn d.Store,d.Store.Next)/\d.Store.Next<=d'.Store.Next/\d'.Store.Next<=d.Store.Next+1/\eX r r' x.Chunk a/\UY d.Flash d'.Flash/\Steps d.Flash steps d'.Flash/\((∀c,Dx (Bn d.Store) c->BX r' c=BX r c)/\(L a≠ []->BX r' x.Chunk=SC a))/\1<=steps.length/\∀k g,k<steps.length->Y7 d.Flash steps k g->∃y ry,BQ g=some (y,true)/\y.Flash=g/\As d r y ry/\eX r ry x.Chunk a:=by
 obtain⟨x1,x2,xv,x3⟩:=hx;have h6:=h.dev.st.nx
 have i:∀z∈ [x],Fw z=true:=λz hz=>by grind
 rcases S3 h.dev.fl h.dev.seqs [x] (by simp) (by simp) i a with w|⟨steps,T,g,b,w1,w2,w3,w4,w5,w6,w7,w8,w9⟩
 ·exact .inl w
 right;have j:b=x:=by simpa using w1.symm
 subst j;have o:=(EI w7).2;have h2:(BR (Ht d a) d.Tx T).length=T.length:=by unfold BR;grind
 have h7:(Cv d b.Chunk a).length<=1:=by grind [Cv]
 rw[AC,h2]at o
 have t:L a≠ []->¬Dx (Bn d.Store) b.Chunk:=λht h3=>by
  rcases x3 with⟨x3,_⟩|⟨_,x4,_⟩
  ·exact ht x3
  have:=ZG h.dev.st h3;omega
 have tk:∀k c,Dx (Bn d.Store) c->BX (r++(BU steps<|Cv d b.Chunk a++BR (Ht d a) d.Tx T).take k) c=BX r c:=λk c hc=>by grind [VR,Ko,Mq,BX,Cv]
 have tn:L a≠ []->BX (r++(BU steps<|Cv d b.Chunk a++BR (Ht d a) d.Tx T).take steps.length) b.Chunk=SC a:=λe=>by
  rw[AS (by unfold BU;grind),show Cv d b.Chunk a=[Page.mk 1 d.Seq b.Chunk 0 1 a] by grind [Cv]]
  cases steps with
  |nil=>grind
  |cons s ss=>
   show BX (r++An.mk s.Block s.Leaf (Page.mk 1 d.Seq b.Chunk 0 1 a)::BU ss (BR (Ht d a) d.Tx T)) b.Chunk=_;unfold BX;rw[List.append_cons,Yk _ _ (λy hy=>by have:=Mq (Ko ss _ _ y (by rw[Hq];exact hy));omega),MS,Cl ⟨rfl,rfl⟩];rfl
 have fw:∀k,eX r (r++(BU steps<|Cv d b.Chunk a++BR (Ht d a) d.Tx T).take k) b.Chunk a:=λk=>by
  have cP:∀y∈r++(BU steps<|Cv d b.Chunk a++BR (Ht d a) d.Tx T).take k,y∈r\/y.Page∈Cv d b.Chunk a++BR (Ht d a) d.Tx T:=λy hy=>(A7.1 hy).imp id<|Ko _ _ _ y
  refine⟨λy hy hk=>?_,YR (n:=1) λy hy hk=>?_,YY (n:=10) λy hy=>?_⟩
  ·grind [Mq,Cv]
  ·rcases cP y hy with hh|hh
   ·exact Uv _ hh hk
   rcases A7.1 hh with hh|hh
   ·grind [Cv]
   rw[Yh hh,h.dev.tx];omega
  rcases cP y hy with hh|hh
  ·exact Uy _ hh
  have:=X6 hh;rw[h.dev.seq]at this;omega
 have cut:∀k g,k<steps.length->Y7 d.Flash steps k g->∃y ry,BQ g=some (y,true)/\y.Flash=g/\As d r y ry/\eX r ry b.Chunk a:=λk g hk hg=>by
  obtain⟨m,y,ry,c1,c2,c3,c4,c5,hr',cw,c6,c7,c8,_⟩:=SB h i w3 w4 w5 w6 w7 w9 t k (by omega);obtain⟨e1,e2,_⟩:=Gw h.dev c4 (by rw[c8 hk]);subst hr';have h4:As d r y (r++(BU steps<|Cv d b.Chunk a++BR (Ht d a) d.Tx T).take k):=⟨⟨c4,c6,by rw[e1];exact c7⟩,e1,e2,(fw k).2.1,by grind [Us],tk k⟩;obtain⟨q,q1,q2⟩:=hg;have:=Qu q1 c1;subst this
  rcases q2 with rfl|⟨s,s1,_,s2,s3,⟨_,s4⟩|⟨s4,_⟩⟩
  ·grind
  ·obtain⟨z,z1,z2,z3⟩:=h4.torn s2 (by rw[c5];exact s4) (by rw[c5];exact s3)
   grind
  grind [Oy]
 obtain⟨m,d',r',c1,c2,c3,c4,c5,hr',cw,c6,c7,_,c9⟩:=SB h i w3 w4 w5 w6 w7 w9 t steps.length<|A8 _;rw[<-c5]at cw;rw[Hq]at c1;have u:Steps d.Flash steps d'.Flash:=by rw[c5];exact c1
 have v:eX r r' b.Chunk a:=by grind
 have tt:(∀c,Dx (Bn d.Store) c->BX r' c=BX r c)/\(L a≠ []->BX r' b.Chunk=SC a):=by grind
 obtain⟨⟨qn,hq⟩,c10⟩:=c9 rfl;have hB:¬kL (Tx.mk d.Tx qn [b])=true:=by grind [kL]
 have f:=c4.ab;rw[hq,PI,BE hB,VU,<-h.dev.ab]at f;have h5:C4 (Bn d.Store) d.Store.Next [b]=Dv (Bn d.Store) d.Store.Next b:=by rfl
 simp only[h5]at f;have h0:=N3 h.dev c1 (by omega) c3
 cases l:Dv (Bn d.Store) d.Store.Next b with
 |none=>
  rw[l]at f;have e1:Bn d'.Store=Bn d.Store:=Cn Prod.fst f;have e2:d'.Store.Next=d.Store.Next:=Cn Prod.snd f;exact⟨steps,d',r',w2,by omega,h0,⟨c4,c6,by rw[e1];exact c7⟩,by grind,by omega,by omega,v,cw,u,tt,by omega,cut⟩
 |some p=>
  obtain⟨l',nx'⟩:=p;rw[l]at f;have e1:Bn d'.Store=l':=Cn Prod.fst f;have e2:d'.Store.Next=nx':=Cn Prod.snd f;obtain⟨v1,v2,v3⟩:=dS l x2
  have hz:∀c,Dx l' c->c=b.Chunk->b.Kind≠4->False:=λc hc h8 hk=>by
   have:b.Chunk=0:=by grind [Fw]
   have:=hc.1;omega
  have h1:b.Chunk<=d.Store.Next:=by
   by_cases hk:b.Kind=4
   ·rcases x3 with⟨_,x4⟩|⟨_,x4,_⟩
    ·have:=ZG h.dev.st (x4 hk).1;omega
    omega
   grind [Fw]
  refine⟨steps,d',r',w2,by omega,h0,⟨c4,c6,?_⟩,by grind,by omega,by omega,v,cw,u,tt,by omega,cut⟩;rw[e1]
  rcases x3 with⟨x3,x4⟩|⟨x3,x4,x5,x6,x7⟩
  ·refine c7.mono λc hc=>?_
   grind
  exact(c10 _ x6 x5 x7).mono v1
def sE (r r':List An) (nx:Int) (a:ByteArray):Prop:=(∀y∈r',y.Page.Kind=1->(∃z∈r,z.Page.Kind=1/\z.Page.Tx=y.Page.Tx/\z.Page.Text=y.Page.Text)\/(y.Page.Tx=nx/\SC y.Page.Text=some a))/\Dm r'<=Dm r+21/\C9 r'<=C9 r+4010
def zA (d d':AG) (v:Int):Prop:=∀p∈Bn d'.Store,(∃p'∈Bn d.Store,p'.1=p.1)\/p.1=v
theorem Ja.q (h:Ja n d r e r') (hn:n<=20) (nx:Int) (t:ByteArray):sE r r' nx t:=⟨λy hy hk=> .inl (h.pg y hy hk),by have:=h.tx;omega,by have:=h.sq;omega⟩
theorem Kp (h:Bn d'.Store=Bn d.Store) (v:Int):zA d d' v:=λp hp=> .inl ⟨p,by grind,rfl⟩
theorem vA (h:LY d r) (hw:Hr d.Flash 999999000) (q:YN):∃d' steps t no r',U6 d q=some (d',steps,t,no)/\LY d' r'/\d.Store.Next<=d'.Store.Next/\d'.Store.Next<=d.Store.Next+1/\sE r r' d.Store.Next q.Text/\zA d d' q.Vol/\∀w:Int,Hr d.Flash w->Hr d'.Flash (w+20):=by
 have a:Ja 20 d r d r:=Ja.refl h;unfold U6;rw[T3 h.dev,Zs h.dev];simp only[Aa,Av,Ad];obtain⟨o,v,no,p1,p2,p3⟩:=eS h.dev q;rw[p1];simp only[Aa]
 cases f:(no !=0)with
 |true=>exact⟨_,_,_,_,r,rfl,h,by omega,by omega,a.q (by omega) _ _,Kp rfl _,a.wear⟩
 |false=>
  have g:no=0:=by simpa using f
  subst g;have hq:=iS h.dev p1;simp only[Ad]
  cases h0:(q.Kind==6)with
  |true=>
   simp only[Ak];obtain⟨k,hk⟩:∃k:Nat,q.Sector=(k:Int):=⟨_,(AT hq.sec.1).symm⟩;unfold V3;rw[h.dev.scan.s,hk];simp only[Aa]
   rcases bN h q.Vol (k:=k) (by have:=hq.sec;omega)with⟨_,e⟩|⟨h1,c,_,_,_,⟨_,e⟩|⟨_,_,u,_,e⟩⟩
   ·rw[e];exact⟨_,_,_,_,r,rfl,h,by omega,by omega,a.q (by omega) _ _,Kp rfl _,a.wear⟩
   ·rw[e];exact⟨_,_,_,_,r,rfl,h,by omega,by omega,a.q (by omega) _ _,Kp rfl _,a.wear⟩
   rw[e];exact⟨_,_,_,_,r,rfl,h,by omega,by omega,a.q (by omega) _ _,Kp rfl _,a.wear⟩
  |false=>
   simp only[Ad];obtain⟨v5,i⟩:=Ts h.dev.fl;rw[i];simp only[Aa];have clean:∃e all re,(cond (decide<|v5<12) ((L3 d 20).bind λv6=>some (v6.2,v6.1.Flash.Blocks,v6.1.Store.Vols,v6.1.Store.Arena.Knots,v6.1.Store.Next,v6.1.Seq,v6.1.Tx,v6.1.Base)) (some ([],d.Flash.Blocks,d.Store.Vols,d.Store.Arena.Knots,d.Store.Next,d.Seq,d.Tx,d.Base)):Option (List Bt×List Block×List Vol×List Bk×Int×Int×Int×Int))=some (all,Flash.Blocks<|AG.Flash e,e.Store.Vols,e.Store.Arena.Knots,e.Store.Next,e.Seq,e.Tx,e.Base)/\Ja 20 d r e re/\all.length<=4000:=by
    cases decide (v5<12)with
    |false=>grind
    |true=>
     obtain⟨e,all,re,k1,k2,k3,_⟩:=i7 h hw 20
     grind
   obtain⟨e,all,re,k1,k5,k4⟩:=clean;have k2:=k5.good;rw[k1];simp only[Aa];have j:AG.mk (Flash.mk e.Flash.Blocks) (Store.mk e.Store.Vols (Arena.mk e.Store.Arena.Knots) e.Store.Next) e.Seq e.Tx e.Base=e:=rfl;have l:Flash.mk e.Flash.Blocks=e.Flash:=rfl;rw[j,l];obtain⟨recs2,text2,no2,s1,s2,_⟩:=eS k2.dev q;rw[s1];simp only[Aa];obtain⟨v9,m⟩:=Ts k2.dev.fl;rw[m];have h2:=k5.nx
   rcases s2 with⟨rfl,rfl⟩|⟨_,x,rfl,s2⟩
   ·have hw:Df e [] (bs [])=some ([],true):=rfl;rw[hw];simp only[Aa,Av,Ad]
    cases decide (v9<8)with
    |true=>exact⟨_,_,_,_,re,rfl,k2,by omega,by omega,k5.q (by omega) _ _,Kp k5.ab _,k5.wear⟩
    |false=>
     simp only[Ad];obtain⟨d',u1,u2,u3⟩:=Kx k2.dev.fl k2.dev.sr;obtain⟨e1,e2,_⟩:=Gw k2.dev u2 rfl;rw[N3 k2.dev (steps:=[]) rfl (by simp) u1,Aa,BL (by simp;omega)];exact⟨_,_,_,_,re,rfl,⟨u2,k2.core,by rw[e1];exact k2.data⟩,by omega,by omega,k5.q (by omega) _ _,Kp (by rw[e1,k5.ab]) _,by rw[u3];exact k5.wear⟩
   rcases sO k2 s2 with w|⟨steps,d',r',w1,w2,w3,w4,w7,w5,w6,w8,w9,_⟩
   ·rw[w];exact⟨_,_,_,_,re,rfl,k2,by omega,by omega,k5.q (by omega) _ _,Kp k5.ab _,k5.wear⟩
   rw[w1];simp only[Aa,Av,Ad]
   cases decide (v9<8)with
   |true=>exact⟨_,_,_,_,re,rfl,k2,by omega,by omega,k5.q (by omega) _ _,Kp k5.ab _,k5.wear⟩
   |false=>
    simp only[Ad];rw[w3,Aa,BL<|by omega];refine⟨_,_,_,_,r',rfl,w4,by omega,by omega,⟨λy hy hk=>?_,by have:=w8.2.1;have:=k5.tx;omega,by have:=w8.2.2;have:=k5.sq;omega⟩,λp hp=>?_,λw hh=>w9 _<|k5.wear w hh⟩
    ·rcases w8.1 y hy hk with⟨z,z1,z2,z3,z4⟩|⟨t1,t2,t3⟩
     ·obtain⟨w,a1,a2,a3,a4⟩:=k5.pg z z1 z2
      grind
     obtain⟨_,_,_,s3⟩:=s2
     grind
    have e1:=Cn Prod.fst w7;simp only at e1;rw[e1]at hp
    cases b:Dv (Bn e.Store) e.Store.Next x with
    |none=>
     rw[b]at hp;exact .inl ⟨p,by rw[<-k5.ab];exact hp,rfl⟩
    |some lp=>
     rw[b]at hp;obtain⟨l',nx'⟩:=lp;have n:p∈l':=hp
     rcases hO b s2.2.1 p n with⟨p',q1,q2⟩|hh
     ·exact .inl ⟨p',by rw[<-k5.ab];exact q1,q2⟩
     exact .inr<|by rw[hh,s2.2.2.1]
structure F5 (c:AN):Prop where
 i0:0<=c.i_
 i1:c.i_<=(c.b_.length:Int)
 len:c.b_.length<=1048576
theorem rO (a:Int):0<=yI .i64 a 255/\yI .i64 a 255<=255:=by
 unfold yI;have h:(BitVec.ofInt IntKind.i64.bits a&&&BitVec.ofInt IntKind.i64.bits 255).toNat<=255:=by
  refine J4 Nat.and_le_right ?_;exact Nat.le_of_eq rfl
 grind [M8]
theorem Tt (h:F5 c):∃v c',Hc c=some (v,c')/\F5 c'/\0<=v/\v<=255:=by
 have:=h.i0;have:=h.i1;have:=h.len;unfold Hc;by_cases e:c.i_<ln c.b_
 ·rw[Ac e,Ak,P6 h.i0<|by grind [Bu]];rw[Bu]at e;rw[Aa,Ca (a:=c.i_) (by omega)<|by omega];exact⟨_,_,rfl,⟨by grind,by grind,h.len⟩,rO _⟩
 rw[Ah e,Ad];exact⟨_,_,rfl,⟨h.i0,h.i1,h.len⟩,rO _⟩
theorem zP {a n:Int} (h0:0<=a) (hn:0<n):∃v,rm .i64 a n=some v/\0<=v/\v<n:=by
 unfold rm;rw[BE (by omega),Int.tmod_eq_emod_of_nonneg h0];exact⟨_,rfl,Int.emod_nonneg _ (by omega),Int.emod_lt_of_pos _ hn⟩
theorem EK (h:F5 c) (n:Int):∃v c',A9 c n=some (v,c')/\F5 c'/\0<=v/\(0<n->v<n):=by
 unfold A9;by_cases h0:n<=0
 ·simp_all;grind
 by_cases h1:n<=256
 ·grind [Tt,zP]
 rw[Ah h1,Ad];obtain⟨v1,c1,a1,a2,a3,a4⟩:=Tt h;obtain⟨v2,c2,b1,b2,b3,b4⟩:=Tt a2;obtain⟨v3,c3,d1,d2,d3,d4⟩:=Tt b2;obtain⟨v4,c4,e1,e2,e3,e4⟩:=Tt d2;rw[a1,Aa,b1,Aa,d1,Aa,e1,Aa,MU (by omega) (by omega),MU (by omega) (by omega),MU (by omega) (by omega),Ca (a:=v1*16777216) (b:=v2*65536) (by omega) (by omega),Ca (a:=v1*16777216+v2*65536) (b:=v3*256) (by omega) (by omega),Ca (a:=v1*16777216+v2*65536+v3*256) (b:=v4) (by omega)<|by omega];obtain⟨w,w1,w2,w3⟩:=zP (a:=v1*16777216+v2*65536+v3*256+v4) (n:=n) (by omega)<|by omega
 grind
theorem Da (h:F5 c) (hn:0<n):∃(v:Nat) (c':AN),A9 c (n:Int)=some ((v:Int),c')/\F5 c'/\v<n:=by
 obtain⟨v,c',k1,k2,k3,k4⟩:=EK h (n:Int);exact⟨v.toNat,c',by grind,k2,by omega⟩
theorem YJ {l:List Int} (h:F5 c) (hl:0<l.length):∃v c',I8 c l=some (v,c')/\F5 c'/\v∈l:=by
 unfold I8
 grind [Da,Bu,Ar]
theorem yR {l:List ByteArray} (h:F5 c) (hl:0<l.length):∃v c',PP c l=some (v,c')/\F5 c'/\v∈l:=by
 unfold PP;obtain⟨v,c',k1,k2,k3⟩:=Da h hl;simp_all [Bu,Ar];grind
theorem Rt (h:F5 c) (n:Int):∃v c',DI c n=some (v,c')/\F5 c':=by
 unfold DI;obtain⟨v,c',k1,k2,_⟩:=EK h n;rw[k1];exact⟨_,_,rfl,k2⟩
theorem FO (h:F5 c):F5 (AN.mk c.b_ c.i_ c.h_):=h
theorem AAu (h:code.length<=1048576):∃c,RK code=some c/\F5 c:=by
 unfold RK;obtain⟨b,h1,_⟩:=AD (body:=λs:Int×Int=>JY code s.1 s.2) (λ(o:Int) i=>(o,i)) code.length (λ_ _=>True) (λ_=>True)
  (λo i hi _=>by
   have hx:=Ab hi;simp only[JY,Ms,Ac hi,Ak,Aa,Ar,hx];rw[ad1 (i:=i)<|by omega]
   cases decide ((i:Int)<4000)with
   |true=>grind
   |false=>grind)
  (λo _=>⟨o,by grind [Ms,JY],trivial⟩) (s:=ad 36501<|ln code) trivial
 rw[h1];exact⟨_,rfl,⟨Jb _,by grind,h⟩⟩
def vO:List ByteArray:=[bs [],bs [97],bs [98,98],bs [97,98,99,100,97,98,99,100,97,98,99,100],bs [104,101,108,108,111],bs [104,101,108,108,111,32,104,101,108,108,111,32,104,101,108,108,111],bs [122,122,122,122,122,122,122,122,122,122,122,122],bs [113,49],bs [113,50],bs [113,51]]
theorem yL (h:F5 c):∃v c',PK c=some (v,c')/\F5 c'/\v∈vO:=by
 unfold PK;obtain⟨v,c',k1,k2,k3⟩:=yR h (l:=vO)<|by simp[vO]
 grind [vO]
structure vI (q:YN):Prop where
 kind:1<=q.Kind/\q.Kind<=6
 vol:1<=q.Vol/\q.Vol<=3
 rest:(q.Kind=1/\q.Text∈vO/\(0<=q.Sector/\q.Sector<=15)/\q.Of=0)\/(q.Kind≠1/\L q.Text=[]/\(((q.Kind=2\/q.Kind=6)/\(0<=q.Sector/\q.Sector<=15)/\q.Of=0)\/(q.Sector=0/\((q.Kind=4/\1<=q.Of/\q.Of<=9)\/((q.Kind=3\/q.Kind=5)/\q.Of=0)))))
theorem yT (h:F5 c) (d:AG) (hv:d.Store.Vols.length<=3) (o:∀v∈d.Store.Vols,1<=v.Id/\v.Id<=3):∃q c',PL c d=some (q,c')/\F5 c'/\vI q:=by
  unfold PL;obtain⟨k,c1,a1,a2,a3⟩:=YJ h (l:=[1,1,1,1,1,1,2,3,4,5,6]) (by simp);rw[a1];simp only[Aa];obtain⟨v2,c2,b1,b2,b3,b4⟩:=EK a2 3;have g:1<=k/\k<=6:=by simp at a3;omega
  have r:ad 1 v2=1+v2:=Ca (by omega) (by omega);rw[b1];simp only[Aa]
  have J1:∃x y c3,(cond ((ln d.Store.Vols)==0) (some (3,ad 1 v2,c2.b_,c2.i_,c2.h_)) ((cond (k !=3) (cond (k !=4) ((DI c2 8).bind λv3=>
 some (!v3.1,v3.2.b_,v3.2.i_,v3.2.h_))<|some (false,c2.b_,c2.i_,c2.h_)) (some (false,c2.b_,c2.i_,c2.h_)):Option (Bool×List Int×Int×Int)).bind λj2=>
 cond j2.1 ((A9 (AN.mk j2.2.1 j2.2.2.1 j2.2.2.2)<|ln d.Store.Vols).bind λv4=>
 (gi d.Store.Vols v4.1).bind λx1=>
 some (k,x1.Id,v4.2.b_,v4.2.i_,v4.2.h_)) (some (k,ad 1 v2,j2.2.1,j2.2.2.1,j2.2.2.2))):Option (Int×Int×List Int×Int×Int))=some (x,y,AN.b_ c3,c3.i_,c3.h_)/\F5 c3/\(1<=x/\x<=6)/\1<=y/\y<=3:=by
   cases hz:(ln d.Store.Vols==0)with
   |true=>exact⟨_,_,c2,rfl,b2,by omega,by omega,by omega⟩
   |false=>
    have j:0<d.Store.Vols.length:=by grind [Bu]
    have J2:∃b c3,(cond (k !=3) (cond (k !=4) ((DI c2 8).bind λv3=>some (!v3.1,v3.2.b_,v3.2.i_,v3.2.h_))<|some (false,c2.b_,c2.i_,c2.h_)) (some (false,c2.b_,c2.i_,c2.h_)):Option (Bool×List Int×Int×Int))=some (b,AN.b_ c3,c3.i_,c3.h_)/\F5 c3:=by
     cases(k !=3)with
     |false=>grind
     |true=>
      cases(k !=4)with
      |false=>grind
      |true=>
       obtain⟨v3,c3,d1,d2⟩:=Rt b2 8;rw[d1];exact⟨_,c3,rfl,d2⟩
    obtain⟨b,c3,e1,e2⟩:=J2;rw[e1];simp only[Aa]
    cases b with
    |false=>exact⟨_,_,c3,rfl,e2,g,by omega,by omega⟩
    |true=>
     obtain⟨v4,c4,f1,f2,f3⟩:=Da (FO e2) j;rw[Bu,f1,Aa,Ar,Ab f3];exact⟨_,_,c4,rfl,f2,g,o _<|Ay f3⟩
  obtain⟨x,y,c3,j1,j1c,jx,jy⟩:=J1;rw[j1];simp only[Aa];have J3:∃b c4,(cond (x==5) ((DI (AN.mk c3.b_ c3.i_ c3.h_) 3).bind λv8=>some (!v8.1,v8.2.b_,v8.2.i_,v8.2.h_)) (some (false,c3.b_,c3.i_,c3.h_)):Option (Bool×List Int×Int×Int))=some (b,AN.b_ c4,c4.i_,c4.h_)/\F5 c4:=by
   cases(x==5)with
   |false=>grind
   |true=>
    obtain⟨v8,c4,d1,d2⟩:=Rt (FO j1c) 3;rw[d1];exact⟨_,c4,rfl,d2⟩
  obtain⟨b,c4,j3,j3c⟩:=J3;rw[j3];simp only[Aa,S1];have a:1<=(bif b then(1:Int)else x)/\(bif b then(1:Int)else x)<=6:=by grind
  generalize (bif b then(1:Int)else x)=j4 at a
  cases m:(j4==1)with
  |true=>
   obtain⟨t,c5,t1,t2,t3⟩:=yL<|FO j3c;rw[t1];simp only[Aa];obtain⟨v10,c6,u1,u2,u3,u4⟩:=EK t2 16;rw[u1];have hj:=Q4.1 m;exact⟨_,_,rfl,u2,⟨a,jy,.inl ⟨hj,t3,by grind,rfl⟩⟩⟩
  |false=>
   have e:j4≠1:=by simpa using m
   have p:(cond (j4==2) (j4==2)<|j4==6)=decide (j4=2\/j4=6):=by grind
   rw[p];by_cases f:j4=2\/j4=6
   ·rw[Ac f];obtain⟨v11,c6,u1,u2,u3,u4⟩:=EK (FO j3c) 16;rw[u1];exact⟨_,_,rfl,u2,⟨a,jy,.inr ⟨e,DL _,.inl ⟨f,by grind,rfl⟩⟩⟩⟩
   rw[Ah f]
   cases n:(j4==4)with
   |true=>
    obtain⟨v12,c6,u1,u2,u3,u4⟩:=EK (FO j3c) 3;have h44:=Q4.1 n;rw[u1]
    cases s:d.Store.Vols with
    |nil=>
     exact⟨_,_,rfl,u2,⟨a,jy,.inr ⟨e,DL _,.inr ⟨rfl,.inl ⟨h44,by grind [Ca]⟩⟩⟩⟩⟩
    |cons v vs=>
     rw[Ac (by grind [Bu]:ln (v::vs)>0),show gi (v::vs) 0=some v from Ar (i:=0)];exact⟨_,_,rfl,u2,⟨a,jy,.inr ⟨e,DL _,.inr ⟨rfl,.inl ⟨h44,by grind⟩⟩⟩⟩⟩
   |false=>
    exact⟨_,_,rfl,FO j3c,⟨a,jy,.inr ⟨e,DL _,.inr ⟨rfl,.inr ⟨by grind,rfl⟩⟩⟩⟩⟩
theorem WD (h:3<=n/\n<=10):Bc (Flash.mk (List.replicate n (Block.mk false 0 LN))):=by
 refine⟨by simpa using h,λb hb=>?_⟩
 grind [eD]
theorem NB (h:3<=n/\n<=10):Jq (n:Int)=some (Flash.mk (List.replicate n (Block.mk false 0 LN)),true):=by
 unfold Jq;rw[Du,Ac<|by omega];simp only[Aa,Av,Ad];have q:=gK (body:=λs:Int×List Block=>H6 (n:Int) s.1 s.2) n (λ_=>Block.mk false 0 LN)
  (λi a hi ho=>by grind [Ym,BL,ad1,H6])
  (λa=>by grind [H6])
 rw[q,Aa,KG,E4]
theorem Ye:∀(n:Nat) (i:Int),IP i (List.replicate n (Block.mk false 0 LN))=[]
 |0,i=>rfl
 |n+1,i=>by
  rw[List.replicate_succ,IP,Ye n (i+1),RV i 0 _ (λy hy=>by rw[Dl hy];simp)];rfl
theorem eZ (h:3<=n/\n<=10):∃d,Mm (n:Int)=some (d,true)/\LY d []/\Bn d.Store=[]/\d.Store.Next=1/\d.Flash=Flash.mk (List.replicate n (Block.mk false 0 LN)):=by
 have hP:=WD h;have b:SR (IP 0 (Flash.mk<|List.replicate n<|Block.mk false 0 LN).Blocks) []:=by
  rw[Ye];exact⟨List.Pairwise.nil,λ_=>rfl⟩
 obtain⟨d,u1,u2,u3⟩:=Kx hP b;have a:=u2.ab;have:LA (Cw<|AU [])=([],1):=rfl;rw[this]at a
 injection a with e1 e2
 refine⟨d,?_,⟨u2,⟨⟨by simp,by simp,by simp,by simp,by simp,by simp⟩,List.Pairwise.nil,⟨λy hy=>by cases hy⟩⟩,?_⟩,e1,e2,u3⟩
 ·grind [NB,Mm]
 rw[e1];refine⟨λc hc=>?_,λc c' hc=>?_⟩
 ·obtain⟨_,p,hp,_⟩:=hc;cases hp
 obtain⟨_,p,hp,_⟩:=hc;cases hp
structure sF (d:AG) (r:List An):Prop where
 ids:∀p∈Bn d.Store,1<=p.1/\p.1<=3
 pg:∀y∈r,y.Page.Kind=1->y.Page.Tx<=13/\∃s∈vO,SC y.Page.Text=some s
structure Ext (d:AG) (r:List An):Prop extends sF d r where
 tx:Dm r<=1000
 sq:C9 r<=100000
 wear:Hr d.Flash 1000
theorem vI.text {q:YN} (h:vI q):q.Text∈vO:=by
 rcases h.rest with⟨_,h2,_⟩|⟨_,h2,_⟩
 ·exact h2
 grind [IX,DL,vO]
theorem sF.step {q:YN} (h:sF d r) (hq:vI q) (hn:d.Store.Next<=13) (hf:sE r r' d.Store.Next q.Text) (hi:zA d d' q.Vol):sF d' r':=by
 refine⟨λp hp=>?_,λy hy hk=>?_⟩
 ·rcases hi p hp with⟨p',h1,h2⟩|h1
  ·rw[<-h2];exact h.ids p' h1
  rw[h1];exact hq.vol
 rcases hf.1 y hy hk with⟨z,z1,z2,z3,z4⟩|⟨h1,h2⟩
 ·have:=h.pg z z1 z2
  grind
 exact⟨by omega,_,hq.text,h2⟩
theorem dA (h:F5 c):∃d c' r,Me c=some (d,c')/\F5 c'/\LY d r/\d.Store.Next<=13/\Ext d r:=by
 unfold Me;obtain⟨v,c1,a1,a2,a3⟩:=Da h (n:=4) (by omega);rw[show((4:Nat):Int)=4 from rfl]at a1;rw[a1,Aa,Ca,show(5:Int)+(v:Int)=((5+v:Nat):Int) by omega];obtain⟨d0,b1,b2,b3,b4,b5⟩:=eZ (n:=5+v) (by omega);rw[b1];simp only[Aa];obtain⟨a,h1,d,cc,r,h2,h3,h4,h5,h6⟩:=AD (body:=λs:Int×List Block×List Vol×List Bk×Int×Int×Int×Int×List Int×Int×Int=>G4 s.1 s.2.1 s.2.2.1 s.2.2.2.1 s.2.2.2.2.1 s.2.2.2.2.2.1 s.2.2.2.2.2.2.1 s.2.2.2.2.2.2.2.1 s.2.2.2.2.2.2.2.2.1 s.2.2.2.2.2.2.2.2.2.1 s.2.2.2.2.2.2.2.2.2.2)
  (λ(o:AG×AN) i=>(i,o.1.Flash.Blocks,o.1.Store.Vols,o.1.Store.Arena.Knots,o.1.Store.Next,o.1.Seq,o.1.Tx,o.1.Base,o.2.b_,o.2.i_,o.2.h_)) 12
  (λi o=>F5 o.2/\(∃r,LY o.1 r/\sF o.1 r/\Dm r<=1+21*i/\C9 r<=1+4010*i/\Hr o.1.Flash (20*i))/\o.1.Store.Next<=1+i)
  (λa=>∃d cc r,a=(d.Flash.Blocks,d.Store.Vols,d.Store.Arena.Knots,d.Store.Next,d.Seq,d.Tx,d.Base,AN.b_ cc,cc.i_,cc.h_)/\F5 cc/\LY d r/\d.Store.Next<=13/\Ext d r)
  (λo i hi hs=>by
   obtain⟨e,cu⟩:=o;obtain⟨k1,⟨r,k2,kx,kt,kq,kw⟩,k3⟩:=hs;simp only at k1 k2 k3 kx kw;have f:AG.mk (Flash.mk e.Flash.Blocks) (Store.mk e.Store.Vols (Arena.mk e.Store.Arena.Knots) e.Store.Next) e.Seq e.Tx e.Base=e:=rfl;simp only[G4];rw[f];obtain⟨w,c3,w1,w2,w3⟩:=Da (FO k1) (n:=12) (by omega);rw[show((12:Nat):Int)=12 from rfl]at w1;rw[w1];simp only[Aa];by_cases b:(i:Int)<(w:Int)
   ·rw[Ac b,Ak];obtain⟨q,c4,q1,q2,q3⟩:=yT w2 e k2.dev.st.len λv hv=>kx.ids (v.Id,Ej e.Store.Arena.Knots v.Root)<|AA.2 ⟨v,hv,rfl⟩;rw[q1];simp only[Aa];obtain⟨d',steps,t,no,r',s1,s2,s3,s4,s5,s6,s7⟩:=vA k2 (λx hx=>by have:=kw x hx;omega) q;rw[s1,Aa,ad1];exact .inl ⟨(d',c4),rfl,q2,⟨r',s2,kx.step q3 (by omega) s5 s6,by have:=s5.2.1;omega,by have:=s5.2.2;omega,λx hx=>by have:=s7 _ kw x hx;omega⟩,by grind⟩
   rw[Ah b,Ad]
   exact .inr ⟨_,rfl,e,c3,r,rfl,w2,k2,by omega,⟨kx,by omega,by omega,λx hx=>by have:=kw x hx;omega⟩⟩)
  (λo hs=>by
   obtain⟨e,cu⟩:=o;obtain⟨k1,⟨r,k2,kx,kt,kq,kw⟩,k3⟩:=hs;simp only at k1 k2 k3 kx kw;simp only[G4];obtain⟨w,c3,w1,w2,w3⟩:=Da (FO k1) (n:=12) (by omega);rw[show((12:Nat):Int)=12 from rfl]at w1;rw[show((12:Nat):Int)=12 from rfl,w1,Aa,cF]
   exact⟨_,rfl,e,c3,r,rfl,w2,k2,by omega,⟨kx,by omega,by omega,λx hx=>by have:=kw x hx;omega⟩⟩) (s:=(d0,c1)) ⟨a2,⟨[],b2,⟨λp hp=>(by grind),λy hy=>by cases hy⟩,by simp[Dm],by simp[C9],λx hx=>by grind⟩,by grind⟩
 rw[h1,h2];exact⟨d,cc,r,rfl,h3,h4,h5,h6⟩
theorem UW (k:IntKind) (n:Nat) (h:n<=12) (hk:k= .u8\/k= .u64):k.wrap (n:Int)=(n:Int):=by
 have:n=0\/n=1\/n=2\/n=3\/n=4\/n=5\/n=6\/n=7\/n=8\/n=9\/n=10\/n=11\/n=12:=by omega
 rcases hk with rfl|rfl<;>rcases this with rfl|rfl|rfl|rfl|rfl|rfl|rfl|rfl|rfl|rfl|rfl|rfl|rfl<;>rfl
set_option maxRecDepth 20000 in
theorem Xx (n:Nat) (h:n<=12):∃v,Td (IntKind.u64.wrap (n:Int))=some v:=by
 rw[UW _ n h<|.inr rfl];unfold Td VW;generalize hT:(bs _)=T;have a:13<=(L T).length:=by rw[<-hT,DL];decide
 rw[cF,Aa,cF,Aa,cF,Aa,UW _ n h<|.inl rfl,DO (i:=n) _<|by omega];exact⟨_,rfl⟩
theorem lJ {γ:Type} (a:γ->Int) (l:List γ) (hl:l.length<=12):∃r,Nv (LS a) l=some r/\QA a r/\By a l r:=by
 obtain⟨v,hv⟩:=Xx l.length hl;obtain⟨r,h1,h2,h3⟩:=Hj a [] l [] (by simp;omega);unfold Nv
 grind [Bu,Az,BV,DH,E8]
theorem Wd (x a b:Int):HF x a b=some (decide (a<=x/\x<=b)):=by
 unfold HF
 grind
theorem Kw {l:List Int} (h:l.length<=1048576):GM l=some l:=by grind [Jy,GM]
theorem P2 (a:Arena) (h:rG a.Knots):GO a=some a:=by
 unfold GO;have q:=Sd (body:=λs:Int×List Bk=>GN a s.1 s.2) a.Knots (λk=>k)
  (λi x b hx ho=>by
   have hi:=(Af.1 hx).1;have hk:=h.2 x<|Ao hx;simp only[GN,EM hi,Ar,hx,Aa];rw[Kw hk];simp only[Aa];have:=h.1;rw[BL (by simp;omega),ad1]
   rfl)
  (λb=>by simp[En,GN])
 rw[q];simp
theorem Py (s:Store) (h:rG s.Arena.Knots) (hv:s.Vols.length<=1048576):GL s=some s:=by
 unfold GL;rw[Jy (by omega),P2 _ h];rfl
theorem Ol (a:Arena) (ha:a.Knots.length<=1048576):Ho a=some (Cq a.Knots):=by grind [S9,IL]
theorem Px (a:Arena) (ha:a.Knots.length<=1048576) (r:Int):Fo a r=some (decide (0<=r/\r<(a.Knots.length:Int))&&!(B4 a.Knots r).Leaf):=by
 unfold Fo;rw[Wd,Bu,BV]
 grind [Gm]
theorem cU {a:Arena} {r:Int} (ha:a.Knots.length<=1048576) (hr:CJ a.Knots r=true):(cond (r !=(-1)) ((Fo a r).bind λv2=>some (!v2)) (some false):Option Bool)=some false:=by grind [B8,Px]
theorem gU {r:Int} {s:Nat} {n:Int} (a:Arena) (ha:a.Knots.length<=1048000) (hK:Cq a.Knots=true) (hr:CJ a.Knots r=true) (hs:s<16) (hn:0<=n):
  UI a r (s:Int) n=some (Arena.mk (Ix a.Knots r s n),(a.Knots.length:Int)+1):=by
 unfold UI;rw[P2 _ (JQ hK<|by omega),Ol a (by omega),Wd,hK];rw[Ac (by omega:0<=(s:Int)/\(s:Int)<=15),Ah (by omega:¬n<0)];simp only[Av,Ad,Aa];have hq:(cond (r !=(-1)) ((Fo a r).bind λv2=>cond (!v2) (some true)<|some false) (some false):Option Bool)=some false:=by grind [B8,Px]
 rw[hq,mk4];simp only[Aa,Ad];have fin:∀(lf tp:List Int),lf.length=4->tp.length=4->Ix a.Knots r s n=a.Knots++ [Bk.mk true<|lf.set (s %4) n,Bk.mk false<|tp.set (s/4) (a.Knots.length:Int)]->
   ((gi lf<|Int.tmod (s:Int) 4).bind λx4=>(gi tp<|qu (s:Int) 4).bind λx5=>(ap 32 a.Knots [Bk.mk true<|si lf (Int.tmod (s:Int) 4) n,Bk.mk false<|si tp (qu (s:Int) 4)<|ln a.Knots]).bind λq2=>some (Arena.mk q2,ad (ln a.Knots) 1))=some (Arena.mk<|Ix a.Knots r s n,(a.Knots.length:Int)+1):=by
  intro lf tp h1 h2 h3;rw[xE hs,nY,Ar,Ar,Ab (by omega),Ab (by omega),Aa,BL (by simp;omega),CP,CP,Bu,<-h3,ad1];rfl
 rcases B8 hr with rfl|⟨h0,h1,hl⟩
 ·rw[Ah (by omega:¬(-1:Int)>=0)];simp only[Ad,Aa];have hx:gi [(-1:Int),-1,-1,-1] (qu (s:Int) 4)=some (-1):=by
   rw[xE hs,Ar]
   grind
  rw[hx,Aa,Ah (by omega:¬(-1:Int)>=0)];have:=fin [0,0,0,0] [-1,-1,-1,-1] rfl rfl rfl
  grind
 rw[cT,Gm h0 h1];have h4:=(Ee hK h0 h1).1;rw[Aa,Kw<|by omega];simp only[Aa];have hx:gi (B4 a.Knots r).Kids (qu (s:Int) 4)=some (MF (B4 a.Knots r)<|s/4):=by rw[xE hs,dL (by omega:s/4<(B4 a.Knots r).Kids.length)]
 rw[hx];simp only[Aa]
 rcases EG hK h0 h1 hl (show s/4<4 by omega)with e|⟨e1,e2,e3⟩
 ·grind [Ix,O2,R5]
 rw[cT,Gm e1<|by omega]
 grind [Ee,Kw,Ix,O2,R5]
theorem UL (l:List Int) (n:Int) (hl:l.length<=1048576):LE l n=some (l.contains n):=by
 unfold LE;obtain⟨b,h1,h2⟩:=AD (body:=λs:Int=>Kr l n s) (λ(_:Unit) i=>i) l.length (λi _=>n∉l.take i) (λb=>(b= .inr true/\n∈l)\/(b= .inl ()/\n∉l))
  (λ_ i hi hs=>by
   have hx:=Ab hi;simp only[Kr,EM hi,Ar,hx,Aa];rw[ad1]
   cases e:(l[i]==n)with
   |true=>grind
   |false=>
    refine .inl ⟨(),by rfl,?_⟩
    grind [Ag])
  (λ_ hs=>⟨.inl (),by simp[En,Kr],.inr ⟨rfl,by grind⟩⟩) (s:=()) (by simp)
 grind
theorem Sk {r:Int} (a:Arena) (ha:a.Knots.length<=1048000) (hK:Cq a.Knots=true) (hr:CJ a.Knots r=true):∃l,MW a r=some l/\l.length<=5/\∀i:Nat,(i:Int)∈l↔LU a.Knots r i=true:=by
 unfold MW;rw[Px a<|by omega]
 rcases B8 hr with rfl|⟨h0,h1,hl⟩
 ·simp[LU]
 rw[Ac ⟨h0,h1⟩,hl,Gm h0 h1];simp only[DF,Bool.and_self,Av,Ad,Aa];obtain⟨h4,hk⟩:=Ee hK h0 h1;obtain⟨l,q1,q2,q3⟩:=AD (body:=λs:List Int×Int=>IQ a (B4 a.Knots r) s.1 s.2) (λ(o:List Int) i=>(o,i)) (B4 a.Knots r).Kids.length
  (λi o=>o.length<=1+i/\∀n:Nat,(n:Int)∈o↔(r=(n:Int)\/(n:Int)∈(B4 a.Knots r).Kids.take i)) (λo=>o.length<=5/\∀n:Nat,(n:Int)∈o↔(r=(n:Int)\/(n:Int)∈(B4 a.Knots r).Kids))
  (λo i hi ho=>by
   have hx:=Ab hi;have et:(B4 a.Knots r).Kids.take (i+1)=(B4 a.Knots r).Kids.take i++ [(B4 a.Knots r).Kids[i]]:=Ag hi;refine .inl ?_;simp only[IQ,EM hi,Ar,hx,Aa];rw[Wd,Bu,BV,ad1];simp only[Aa];have b:(B4 a.Knots r).Kids[i]=MF (B4 a.Knots r) i:=by grind
   rcases EG hK h0 h1 hl (show i<4 by omega)with e|⟨e1,e2,e3⟩
   ·grind
   rw[cT,UL o _<|by omega];simp only[Aa]
   cases hc:o.contains (B4 a.Knots r).Kids[i]with
   |true=>
    grind
   |false=>
    rw[BL (by simp;omega)];refine⟨_,rfl,by simp;omega,λn=>?_⟩
    grind)
  (λo ho=>⟨o,by simp[En,IQ],by have:=ho.1;omega,by grind⟩) (s:=[r]) ⟨by simp,λn=>by simp[eq_comm]⟩
 grind [LU]
theorem Xq (hr:EO r):∃l,Aj (λs:List Int×Int=>Iq r s.1 s.2) ([],0)=some l/\l.Nodup/\(∀x,x∈l↔∃y∈r,y.Page.Kind=2/\y.Page.Tx=x)/\l.length<=r.length:=by
 have a:=hr.len;obtain⟨l,h1,h2,h3,h4⟩:=AD (body:=λs:List Int×Int=>Iq r s.1 s.2) (λ(o:List Int) i=>(o,i)) r.length (λi o=>o.Nodup/\(∀x,x∈o↔∃y∈r.take i,y.Page.Kind=2/\y.Page.Tx=x)/\o.length<=i) (λo=>o.Nodup/\(∀x,x∈o↔∃y∈r,y.Page.Kind=2/\y.Page.Tx=x)/\o.length<=r.length)
  (λo i hi ho=>by
   have hx:=Ab hi;have et:r.take (i+1)=r.take i++ [r[i]]:=by simp
   refine .inl ?_;simp only[Iq,EM hi,Ar,hx,Aa];rw[ad1,UL o _<|by omega]
   cases hk:(r[i].Page.Kind==2)with
   |false=>grind
   |true=>
    cases hc:o.contains r[i].Page.Tx with
    |true=>grind
    |false=>
     rw[BL<|by grind];refine⟨_,rfl,?_,λx=>?_,by simp;omega⟩
     ·grind
     grind)
  (λo ho=>⟨o,by simp[En,Iq],by grind⟩) (s:=[]) ⟨CV,by simp,by simp⟩
 grind
theorem lI {l:List Int} (hr:EO r) (h1:l.Nodup) (h2:∀x,x∈l↔∃y∈r,y.Page.Kind=2/\y.Page.Tx=x):YU l=CZ r:=by
 obtain⟨n1,n2,n3⟩:=Fl r λy hy=>(hr.tx y hy).1;refine UR ?_ n1 λx=>?_
 ·have hs:(YU l).Pairwise λx y=>x<=y:=by grind [List.pairwise_mergeSort,YU]
  have hd:(YU l).Nodup:=by grind [List.mergeSort_perm,YU]
  unfold asc;exact(hs.and hd).imp (λh=>by omega)
 simp_all [YU]
theorem XZ (t:ByteArray) (ht:(L t).length<=20000):∀(n a:Nat) (c:List CD),(L t).length-a<=n->a<=(L t).length->c.length<=a->Aj (λs:List CD×Int=>JM t s.1 s.2) (c,(a:Int))=Aj (λs:List CD×ByteArray×Int×Bool=>D3 t s.1 s.2.1 s.2.2.1 s.2.2.2) (c,t,(a:Int),false)
 |n,a,c,hn,ha,ho=>by
  rw[Az,Az];simp only[D3,JM];rw[Bq];by_cases d:a<(L t).length
  ·rw[Ac (by omega:(a:Int)<((L t).length:Int))];rw[DO t d,ad1];obtain⟨r1,a1,a2,a3⟩:=GY t ((a+1:Nat):Int) (by omega) ⟨by omega,by omega⟩;have f:oI r1.2.1:=by
    rcases a3 with⟨_,_,e⟩|⟨_,_,b,_,_,e,_,_,e2,_⟩
    ·rw[e];exact⟨by omega,by omega⟩
    rw[e];exact⟨by omega,by omega⟩
   obtain⟨r2,b1,b2,b3⟩:=GY t r1.2.1 (by omega) f;rw[a2,Aa,b2];have l1:CA (DK.mk t ((a+1:Nat):Int) false)=some (if r1.2.2=true then(r1.1,DK.mk t r1.2.1 false)else(0,DK.mk t ((a+1:Nat):Int) true)):=by grind [CA]
   rw[l1]
   cases h1:r1.2.2 with
   |false=>grind [CA]
   |true=>
    simp only[Cm,Aa,Av,Ad];have l2:CA (DK.mk t r1.2.1 false)=some (if r2.2.2=true then(r2.1,DK.mk t r2.2.1 false)else(0,DK.mk t r1.2.1 true)):=by grind [CA]
    rw[l2]
    cases h2:r2.2.2 with
    |false=>rfl
    |true=>
     simp only[Cm,Aa,Av,Ad];obtain⟨v,c1,c2,_⟩:=eN<|CD.mk (qu (IntKind.i64.wrap ((L t)[a].toNat:Int)) 16) (Int.tmod (IntKind.i64.wrap ((L t)[a].toNat:Int)) 16) r1.1 r2.1;rw[c1,c2];simp only[Aa]
     cases v with
     |false=>rfl
     |true=>
      rw[BL (by simp;omega)]
      rcases b3 with⟨e,_⟩|⟨_,aa,b,m,k1,k2,k3,k4,k5,_⟩
      ·grind
      rcases a3 with⟨e,_⟩|⟨_,aa',b',m',p1,p2,p3,p4,p5,_⟩
      ·grind
      rw[k2]
      match n,hn with
      |n+1,hn=>exact XZ t ht n b _ (by omega) k5 (by simp;omega)
      |0,hn=>omega
  grind
theorem Xp (t:ByteArray) (ht:(L t).length<=20000):Og t=GB t:=by
 have h:=XZ t ht (L t).length 0 [] (by omega) (by omega)<|by simp
 grind [Og,GB]
def zG:Page:=Page.mk 0 0 0 0 0<|bs []
theorem Yo (r:List An) (hl:r.length<=1048576) (t a c:Int) (h:(a=0/\c=0)\/(0<a/\0<c)):Pw r t a c=some (match P8 r t a c with|some y=>(y.Page,true)|none=>(zG,false)):=by
 have hp:∀y:An,(cond (y.Page.Kind==2) (cond (y.Page.Tx==t) (cond (y.Page.Part==a) (cond (c==0) (some true)<|some<|y.Page.Count==c)<|some false)<|some false) (some false):Option Bool)=some (fB t a c y):=by grind [fB]
 unfold Pw;obtain⟨b,h1,h2⟩:=AD (body:=λs:Int=>Kq r t a c s) (λ(_:Unit) i=>i) r.length (λi _=>∀(j:Nat) x,j<i->r[j]?=some x->fB t a c x=false) (λb=>match P8 r t a c with|some y=>b= .inr (y.Page,true)|none=>b= .inl ())
  (λ_ i hi hs=>by
   have hx:=Ab hi;simp only[Kq,EM hi,Ar,hx,Aa];rw[hp,ad1]
   cases e:fB t a c r[i]with
   |true=>grind [aC,P8]
   |false=>
    refine .inl ⟨(),by rfl,λj x hj d=>?_⟩
    grind)
  (λ_ hs=>⟨.inl (),by simp[En,Kq],by grind [kT,P8]⟩) (s:=()) (λj x hj=>by omega)
 rw[h1]
 cases hf:P8 r t a c with
 |none=>rw[hf]at h2;simp only at h2;rw[h2];rfl
 |some y=>grind
theorem qS (r:List An) (hr:EO r) (t:Int) (v:Page×Bool) (hv:1<=v.1.Count/\v.1.Count<=9):∀(n:Nat) (a:Int) (text:ByteArray) (seq:Int),a+n=11->1<=a->a<=v.1.Count->(L text).length<=90*a.toNat->
  ∃b,Aj (λs:ByteArray×Int×Int=>JI r t v s.1 s.2.1 s.2.2) (text,seq,a)=some b/\(match parts r t n a v.1.Count (L text) seq with
   |none=>b= .inr (Tx.mk 0 0 [],false)
   |some (x,q)=>∃u,b= .inl (u,q)/\L u=x/\(L u).length<=1000)
 |0,a,text,seq,hn,h1,hc,ht=>by omega
 |n+1,a,text,seq,hn,h1,hc,ht=>by
  rw[Az];simp only[JI,parts];by_cases e:a<v.1.Count
  ·rw[Ac e,Cl (.inr e)];rw[Yo r hr.len t a v.1.Count (.inr ⟨by omega,by omega⟩)];simp only[Aa]
   cases hf:P8 r t a v.1.Count with
   |none=>grind
   |some y=>
    simp only[Av,Ad];have hy:=P7 hf;have d:=hr.text y hy.1;have c:=kG hy.2 (by omega);rw[FP text y.Page.Text (by omega),Aa,Ca,c];have es:Pq a seq y=(if y.Page.Seq<seq then y.Page.Seq else seq):=by grind [Pq]
    rw[es,<-FC];exact qS r hr t v hv n (a+1) _ _ (by omega) (by omega) (by omega)<|by grind [FC]
  simp_all [Ah];grind
theorem ZL (r:List An) (hr:EO r) (t:Int):∃x ok,Ob r t=some (x,ok)/\Iw r t=(if ok=true then some x else none)/\x.Recs.length<=20000:=by
 unfold Ob Iw;rw[Yo r hr.len t 0 0<|.inl ⟨rfl,rfl⟩];simp only[Aa]
 have a:parts r t 11 0 0 [] 0=(match P8 r t 0 0 with
  |none=>none
  |some y=>parts r t 10 1 y.Page.Count (L y.Page.Text) y.Page.Seq):=by rfl
 rw[a]
 cases hf:P8 r t 0 0 with
 |none=>simp
 |some y=>
  simp only[Av,Ad];have hy:=P7 hf;have c:=hr.text y hy.1;have hc:=hr.cnt y hy.1;obtain⟨b,h1,h2⟩:=qS r hr t (y.Page,true) hc 10 1 y.Page.Text y.Page.Seq (by omega) (by omega) hc.1 (by omega);rw[h1];simp only[Aa]
  cases hp:parts r t 10 1 y.Page.Count (L y.Page.Text) y.Page.Seq with
  |none=>grind
  |some w=>
   obtain⟨x,q⟩:=w;rw[hp]at h2;obtain⟨u,rfl,rfl,h4⟩:=h2;simp only[Ei];obtain⟨l,ok,r1,r2,r3⟩:=WI u (by omega);rw[Xp u (by omega),r1,AAm,r2];simp_all;grind
theorem dI (r:List An) (hr:EO r):Sr r=some (AU r):=by
 have c:=hr.len;have a:=Fl r λy hy=>(hr.tx y hy).1;obtain⟨l,l1,l2,l3,l4⟩:=Xq hr;unfold Sr;rw[l1];simp only[Aa];unfold Vq;rw[Cl (by omega),lI hr l2 l3];simp only[Aa];obtain⟨b,h1,h2⟩:=AD (body:=λs:List Tx×Int=>Kt r (CZ r) s.1 s.2) (λ(o:List Tx) i=>(o,i)) (CZ r).length (λi o=>o=((CZ r).take i).filterMap (Iw r)) (λb=>b=AU r)
  (λo i hi ho=>by
   have hx:=Ab hi;have et:(CZ r).take (i+1)=(CZ r).take i++ [(CZ r)[i]]:=Ag hi;simp only[Kt,EM hi,Ar,hx,Aa];rw[ad1];obtain⟨z,ok,k1,k2,k3⟩:=ZL r hr (CZ r)[i]
   grind [BL])
  (λo ho=>⟨o,by simp[En,Kt],by rw[ho,Hq];rfl⟩) (s:=[]) rfl
 grind
theorem mQ (x:Tx):Sl x=some (kL x):=by grind [Bu,Sl,kL,gi]
theorem XB {c:Nat} {s:Bt} (hc:s.Block=(c:Int)) (B:Int×List Block->Option ((Int×List Block)⊕List Block)) (hB:∀i bl,B (i,bl)=He s i bl):∀(n i:Nat) (bl:List Block) (x:Block),bl[c]?=some x->i+n=x.Leaves.length->x.Leaves.length<=4->(∀(k:Nat),k<i->x.Leaves[k]?=some (Leaf.mk 2 (bs [])))->
  Aj B ((i:Int),bl)=some (bl.set c (Block.mk x.Bad x.Wear (List.replicate x.Leaves.length (Leaf.mk 2 (bs [])))))
 |0,i,bl,x,hx,hi,h4,hk=>by
  rw[Az,hB];simp only[He,hc,Ar,hx,Aa,Ms];rw[cF];have e:x.Leaves=List.replicate x.Leaves.length (Leaf.mk 2 (bs [])):=by
   apply BC
   grind
  rw[<-e];have:bl.set c x=bl:=by
   apply BC
   grind
  cases x
  grind
 |n+1,i,bl,x,hx,hi,h4,hk=>by
  have a:i<x.Leaves.length:=by omega
  have hl:=Ab a;rw[Az,hB];simp only[He,hc,Ar,hx,Aa,EM a,hl,CP];rw[ad1];have:=XB (s:=s) hc B hB n (i+1) (bl.set c<|Block.mk x.Bad x.Wear<|x.Leaves.set i<|Leaf.mk 2<|bs []) (Block.mk x.Bad x.Wear<|x.Leaves.set i<|Leaf.mk 2<|bs []) (by grind) (by simp;omega) (by simpa using h4) (λk b=>by grind);simp_all
theorem wQ {s:Bt} (h:Bc f) (hs:OP f s):∃g,Lc f s=some (g,true)/\nU f s g:=by
 have hd:Kk f s=some (KD f s,true):=by grind [NE]
 unfold Lc;rw[hd,CT f h.cap];simp only[Aa,Av,Ad]
 rcases hs with⟨k1,hm⟩|⟨k1,hc⟩
 ·rw[show(s.Kind==1)=true by simpa using k1];simp only[Ak];obtain⟨_,_,A,B,e1,_,e2⟩:=HR h hm;obtain⟨x,x1,x2,x3,x4,x5,x6⟩:=hm;have hP:=h.blk x<|Ao (Cu x1).2;rw[x1];simp only[Aa];have hq:qu (Gf s.Text) 2=(((L s.Text).length/2:Nat):Int):=by grind [Bq,M8,qu]
  rw[hq,show sub s.Text 0 (((L s.Text).length/2:Nat):Int)=sub s.Text ((0:Nat):Int) (((L s.Text).length/2:Nat):Int)from rfl,E6 s.Text (IZ _)<|by omega];simp only[Aa];have hx:gi x.Leaves s.Leaf=some (x.Leaves[Je x.Leaves]'(by rw[hP.four];exact x4)):=by grind [Ar]
  rw[hx];simp only[Aa];refine⟨_,rfl,?_,λn hw=>YP hw<|hw x<|Ao (Cu x1).2,.inl ⟨k1,?_⟩⟩
  ·obtain⟨b0,b1⟩:=Cu x1;obtain⟨c,a⟩:∃c:Nat,s.Block=(c:Int):=⟨_,(AT b0).symm⟩;rw[a,x3,CP,CP];refine Kv h (Rd hP rfl x4 (.inr<|.inr ⟨rfl,?_⟩)<|by simp)
   grind [Iv]
  grind [LR]
 rw[show(s.Kind==1)=false by simp;omega];simp only[Ad];obtain⟨x,x1,x2,x3⟩:=hc;obtain⟨b0,b1⟩:=Cu x1;obtain⟨c,a⟩:∃c:Nat,s.Block=(c:Int):=⟨_,(AT b0).symm⟩;rw[a,Cp]at b1;have hP:=h.blk x<|Ao b1;have hl:=XB (s:=s) a (λq:Int×List Block=>He s q.1 q.2) (λ_ _=>rfl) x.Leaves.length 0 f.Blocks x b1 (by omega) (by rw[hP.four];omega) (λk hk=>by omega);rw[show((0:Nat):Int)=0 from rfl]at hl;rw[hl];refine⟨_,rfl,?_,λn hw y hy=>?_,.inr ⟨k1,?_⟩⟩
 ·refine Kv h ⟨by simp[hP.four],hP.wear,λy hy=>?_,λk y z hy hz h0=>?_⟩
  ·rw[Dl hy];exact .inr<|.inr ⟨rfl,by rw[DL];simp⟩
  grind
 ·rcases Bs hy with hy|rfl
  ·exact hw y hy
  exact hw x<|Ao b1
 grind [TE,RV]
theorem ZN (a:Arena) (ha:a.Knots.length<=1048000) (hK:Cq a.Knots=true) (R:List Int) (hc:R.length<=1000) (hR:∀r∈R,CJ a.Knots r=true) (v:List Int):∃l,Aj (λs:List Int×Int=>E0 a R v s.1 s.2) ([],0)=some (.inl l)/\l.length<=5000/\∀i:Nat,(i:Int)∈l↔Cs a.Knots R i=true:=by
 obtain⟨b,h1,l,rfl,h3,h4⟩:=AD (body:=λs:List Int×Int=>E0 a R v s.1 s.2) (λ(o:List Int) i=>(o,i)) R.length (λi o=>o.length<=5*i/\∀n:Nat,(n:Int)∈o↔Cs a.Knots (R.take i) n=true) (λb=>∃l,b= .inl l/\l.length<=5000/\∀i:Nat,(i:Int)∈l↔Cs a.Knots R i=true)
  (λo i hi ho=>by
   obtain⟨o1,o2⟩:=ho;have hx:=Ab hi;have hr:=hR _<|Ay hi;obtain⟨m,m1,m2,m3⟩:=Sk a ha hK hr;simp only[E0,EM hi,Ar,hx,Aa];rw[cU (by omega) hr];simp only[Aa,Ad];rw[m1,Aa,BL (by omega),ad1]
   simp_all [R8,Cs];grind)
  (λo ho=>⟨_,by simp[En,E0],o,rfl,by have:=ho.1;omega,by grind⟩) (s:=[]) ⟨by simp,λn=>by simp[Cs]⟩
 grind
theorem Xj (a:Arena) (ha:a.Knots.length<=1048000) (hK:Cq a.Knots=true) (R:List Int) (hR:∀r∈R,CJ a.Knots r=true) (l:List Int) (z:l.length<=5000) (hl:∀i:Nat,(i:Int)∈l↔Cs a.Knots R i=true):
  Aj (λs:List Int×Int×List Bk=>Ez a l s.1 s.2.1 s.2.2) (List.replicate a.Knots.length 0,0,[])=some (Ru a.Knots R a.Knots.length,R9 a.Knots R):=by
 have h:∀i:Nat,l.contains (i:Int)=Cs a.Knots R i:=λi=>by grind
 obtain⟨b,h1,h2⟩:=AD (body:=λs:List Int×Int×List Bk=>Ez a l s.1 s.2.1 s.2.2) (λ(o:List Int×List Bk) i=>(o.1,i,o.2)) a.Knots.length
  (λi o=>o=(Ru a.Knots R i,((List.range i).filter<|Cs a.Knots R).map<|Vj a.Knots R)) (λb=>b=(Ru a.Knots R a.Knots.length,R9 a.Knots R))
  (λo i hi ho=>by
   subst ho;have h0:(0:Int)<=(i:Int):=by omega
   have f:(i:Int)<(a.Knots.length:Int):=by omega
   simp only[Ez,EM hi];rw[Gm h0 f,UL l _ (by omega),h];simp only[Aa]
   cases hu:Cs a.Knots R i with
   |false=>
    rw[ad1];refine .inl ⟨(Ru a.Knots R i,((List.range i).filter<|Cs a.Knots R).map<|Vj a.Knots R),rfl,?_⟩;simp_all [Do,Ru];grind
   |true=>
    obtain⟨h4,hk⟩:=Ee hK h0 f;have n:gi (Ru a.Knots R i) (i:Int)=some 0:=by grind [Ar,Ru]
    rw[n,Kw<|by omega];simp only[Aa];have y:=vV (K:=a.Knots) (R:=R) i;have h3:(((List.range i).filter<|Cs a.Knots R).map<|Vj a.Knots R).length=aX a.Knots R i:=by rw[BG];rfl
    have d:si (Ru a.Knots R i) (i:Int) (ln<|((List.range i).filter<|Cs a.Knots R).map<|Vj a.Knots R)=Ru a.Knots R (i+1):=by simp_all [Bu,CP,MQ,Ru];grind
    have inner:Aj (λs:Int×List Int=>Ey (Ru a.Knots R i) (i:Int) (((List.range i).filter<|Cs a.Knots R).map<|Vj a.Knots R) (B4 a.Knots (i:Int)) s.1 s.2) (0,(B4 a.Knots (i:Int)).Kids)=some (Vj a.Knots R i).Kids:=by
     have q:=LB (body:=λs:Int×List Int=>Ey (Ru a.Knots R i) (i:Int) (((List.range i).filter<|Cs a.Knots R).map<|Vj a.Knots R) (B4 a.Knots (i:Int)) s.1 s.2) (λl k=>(k,l)) (λ_ x=>bif(B4 a.Knots (i:Int)).Leaf then x else O9 a.Knots R x) (B4 a.Knots (i:Int)).Kids
      (λk l x p t g=>by
       have u:=(Af.1 g).1;have v:k<4:=by omega
       have ex:x=MF (B4 a.Knots (i:Int)) k:=by grind
       have same:l.set k x=l:=by
        apply BC
        grind
       simp only[Ey,EM u,Ar,g,Aa];rw[d]
       cases j:(B4 a.Knots (i:Int)).Leaf with
       |true=>grind [ad1]
       |false=>
        simp only[DF,Ak,Ad,Aa]
        rcases EG hK h0 f j v with e|⟨e1,e2,e3⟩
        ·grind [ad1,O9]
        obtain⟨c,hc⟩:∃c:Nat,x=(c:Int):=⟨x.toNat,by omega⟩;have w:x∈(B4 a.Knots (i:Int)).Kids:=Ao g;have m:=R1 (Vb hK hR hu j) h0 w (by omega);rw[hc]at m;rw[hc,Ar];unfold Ru;rw[Lf (by omega),Aa,Cl ⟨by omega,m⟩,t,Aa,CP,ad1]
        rfl)
      (λl p=>by simp[En,Ey])
     rw[Hh]at q;rw[q];unfold Vj
     cases(B4 a.Knots (i:Int)).Leaf with
     |true=>simp
     |false=>rfl
    rw[inner,Aa,BL (by grind),Aa,ad1,d];refine .inl ⟨(_,_),rfl,?_⟩;congr 1;rw[Do,Cc,Lk hu,List.filter_nil,KH]
    rfl)
  (λo ho=>⟨o,by simp[En,Ez],ho⟩) (s:=(List.replicate a.Knots.length 0,[])) (by grind [KG,E4,Ru])
 grind
theorem gR (a:Arena) (ha:a.Knots.length<=1048000) (hK:Cq a.Knots=true) (R:List Int) (hc:R.length<=1000) (hR:∀r∈R,CJ a.Knots r=true):KV a R=some (Arena.mk (R9 a.Knots R),R.map (O9 a.Knots R)):=by
 unfold KV;rw[Kw<|by omega];simp only[Aa];obtain⟨l,l1,l2,l3⟩:=ZN a ha hK R hc hR R;rw[l1,Ol a (by omega),hK];simp only[Aa,Ei,Av,Ad];rw[Bu,VV (by omega) (by omega),Aa,Xj a ha hK R hR l l2 l3];simp only[Aa];have q:=LB (body:=λs:List Int×Int=>FW R (Ru a.Knots R a.Knots.length,R9 a.Knots R) s.1 s.2) (λl k=>(l,k)) (λ_ x=>O9 a.Knots R x) R
  (λk l x g h b=>by
   have hk:=(Af.1 b).1;simp only[FW,EM hk,Ar,b,Aa]
   rcases B8 (hR x<|Ao b)with e|⟨e1,e2,e3⟩
   ·rw[cF,ad1];have:O9 a.Knots R x=x:=by unfold O9;omega
    rw[this,show l.set k x=l from by
     apply BC
     grind]
   rw[cT];obtain⟨c,d⟩:∃c:Nat,x=(c:Int):=⟨x.toNat,by omega⟩;have f:=MH (K:=a.Knots) (Ao b) e1;rw[d]at f;rw[d,Ar];unfold Ru;rw[Lf (by omega),Aa,Cl ⟨by omega,f⟩,h,Aa,CP,ad1]
   rfl)
  (λl g=>by simp[En,FW])
 grind [Hh]
theorem NZ (h:StoreR s):JL s=some (Jh s):=by
 have hl:=h.len;have hf:=h.few;have d:(Bh s).length=s.Vols.length:=by unfold Bh;rw[BG]
 unfold JL;have hr:Aj (λq:List Int×Int=>DX s q.1 q.2) ([],0)=some (Bh s):=by
  obtain⟨b,h1,h2⟩:=AD (body:=λq:List Int×Int=>DX s q.1 q.2) (λ(o:List Int) i=>(o,i)) s.Vols.length (λi o=>o=(s.Vols.take i).map Vol.Root) (λb=>b=Bh s)
   (λo i hi ho=>by
    have hx:=Ab hi;simp only[DX,EM hi,Ar,hx,Aa]
    grind [BL,ad1,Dc])
   (λo ho=>⟨o,by simp[En,DX],by rw[ho,AS<|A8 _];rfl⟩) (s:=[]) rfl
  grind
 rw[hr];simp only[Aa];rw[gR _ (by omega) h.ar _ (by omega) h.root];simp only[Aa];have q:=LB (body:=λq:Int×List Vol=>Fp s (Arena.mk<|R9 s.Arena.Knots<|Bh s,(Bh s).map<|O9 s.Arena.Knots<|Bh s) q.1 q.2) (λl i=>(i,l)) (λ_ v=>Vol.mk v.Id<|O9 s.Arena.Knots (Bh s) v.Root) s.Vols
  (λi l x a e c=>by
   have hi:=(Af.1 c).1;simp only[Fp,EM hi]
   grind [Ar,CP,ad1,Bh])
  (λl a=>by simp[En,Fp])
 rw[Hh]at q;rw[q];rfl
theorem qD {R:List Int} {i:Nat} {n:Int} (hK:Cq K=true) (hR:∀r∈R,CJ K r=true) (hi:i<K.length) (hu:Cs K R i=true) (hl:(B4 K (i:Int)).Leaf=true) (hn:n∈(B4 K (i:Int)).Kids):∃r∈R,n∈Ej K r:=by
 unfold Cs at hu;obtain⟨r,hr,h⟩:=DZ.1 hu;unfold LU at h;rw[Ai,Bz,KJ,Bz,DZ]at h;obtain⟨h0,h⟩:=h
 rcases B8 (hR r hr)with e|⟨_,h1,h2⟩
 ·omega
 rcases h with h|⟨x,hx,he⟩
 ·grind
 obtain⟨h4,hk⟩:=Ee hK h0 h1;obtain⟨j,hj,a⟩:=A5 hx;have b:MF (B4 K r) j=(i:Int):=by grind
 obtain⟨g4,gk⟩:=Ee hK (r:=(i:Int)) (by omega) (by omega);obtain⟨t,ht,c⟩:=A5 hn;have d:MF (B4 K (i:Int)) t=n:=by grind
 refine⟨r,hr,AA.2 ⟨4*j+t,by simp;omega,?_⟩⟩
 grind [O6]
theorem TH (h:Cr s):MY s=some true:=by
 have hl:=h.len;have hf:=h.few;unfold MY;rw[Bu,cF,Ol _ (by omega),h.ar,Wd,Ac h.nx];obtain⟨b,h1,l,rfl,h3,h4⟩:=AD (body:=λq:List Int×Int=>IU s q.1 q.2) (λ(o:List Int) i=>(o,i)) s.Vols.length (λi o=>o.length<=5*i/\∀n:Nat,(n:Int)∈o↔Cs s.Arena.Knots ((Bh s).take i) n=true) (λb=>∃l,b= .inl l/\l.length<=5000/\∀i:Nat,(i:Int)∈l↔Cs s.Arena.Knots (Bh s) i=true)
  (λo i hi ho=>by
   obtain⟨o1,o2⟩:=ho;have hx:=Ab hi;have hm:s.Vols[i]∈s.Vols:=Ay hi;have a:s.Vols[i].Root∈Bh s:=AA.2 ⟨_,hm,rfl⟩;have hr:=h.root _ a;have f:(Bh s)[i]?=some s.Vols[i].Root:=by unfold Bh;grind
   obtain⟨m,m1,m2,m3⟩:=Sk s.Arena (by omega) h.ar hr;simp only[IU,EM hi,Ar,hx,Aa];rw[Wd,Ac<|h.ids _ hm,cU (by omega) hr];have hj:(cond (decide<|(i:Int)>0) ((gi s.Vols<|sb (i:Int) 1).bind λx2=>cond (decide<|x2.Id>=s.Vols[i].Id) (some true)<|some false) (some false):Option Bool)=some false:=by
    by_cases h0:i=0
    ·rw[cF]
    rw[cT,BV,show(i:Int)-1=((i-1:Nat):Int) by omega,Ar,Ab<|by omega];simp only[Aa];have:=Pn h.asc (show i-1<i by omega) (x:=s.Vols[i-1].Id) (y:=s.Vols[i].Id) (by grind) (by grind);rw[cF]
   rw[hj];simp only[Aa,Ad];rw[m1,Aa,BL (by omega),ad1]
   simp_all [R8,Cs];grind)
  (λo ho=>⟨_,by simp[En,IU],o,rfl,by have:=ho.1;omega,by grind [AS,Bh]⟩) (s:=[]) ⟨by simp,λn=>by simp[Cs]⟩
 rw[h1];simp only[Aa,Ei];obtain⟨c,q1,q2⟩:=AD (body:=λq:Int=>IT s l q) (λ(_:Unit) i=>i) s.Arena.Knots.length (λ_ _=>True) (λc=>c= .inl ())
  (λ_ i hi _=>by
   have hu:=h.used i hi;simp only[IT,EM hi];rw[Gm (by omega) (by omega),UL l _ (by omega),List.contains_iff_mem.2<|(h4 i).2 hu];simp only[Aa,Av,Ad];obtain⟨d,e1,e2⟩:=AD (body:=λq:Int=>IS s (B4 s.Arena.Knots (i:Int)) q) (λ(_:Unit) i=>i) (B4 s.Arena.Knots (i:Int)).Kids.length (λ_ _=>True) (λc=>c= .inl ())
    (λ_ k hk _=>by
     have hx:=Ab hk;have h44:=(Ee h.ar (r:=(i:Int)) (by omega)<|by omega).1;simp only[IS,EM hk,Ar,hx,Aa];rw[ad1]
     cases e:(B4 s.Arena.Knots (i:Int)).Leaf with
     |false=>simp
     |true=>
      obtain⟨r,r1,r2⟩:=qD h.ar h.root hi hu e<|Ay hk;have:=h.lt r r1 _ r2
      simp_all [Ah])
    (λ_ _=>⟨_,by simp[En,IS],rfl⟩) (s:=()) trivial
   rw[e1,e2];rw[ad1]
   simp)
  (λ_ _=>⟨_,by simp[En,IT],rfl⟩) (s:=()) trivial
 grind
def qN (l:List Vol) (v:Vol):List Vol:=(l.filter λw=>decide<|w.Id<v.Id)++ [v]++l.filter λw=>decide<|w.Id>v.Id
theorem oF {l:List Vol} {v:Vol} (h:(l.map Vol.Id).Pairwise (·<·)) (hv:∀w∈l,w.Id≠v.Id) (hl:l.length<=3):Nv (LS Bl) (l++ [v])=some (qN l v):=by
 have hk:∀x,Bl x=x.Id:=λ_=>rfl
 obtain⟨r,h1,h2,h3⟩:=lJ Bl (l++ [v]) (by simp;omega);have hs:QA Bl (qN l v):=by
  have:=Vo h v;rw[List.pairwise_map]at this
  exact this.imp λhh=>by grind
 have:r=qN l v:=by
  refine Nu _ h2 hs λk=>?_
  rw[h3 k];unfold qN;rw[Cc,Cc,Cc,Dt,Dt]
  rcases Int.lt_trichotomy k v.Id with e|e|e
  ·grind [Co]
  ·grind [Co]
  grind [Co]
 rw[h1,this]
theorem ZH {r:CD} (h:Cr s) (hn:Dz s r.Vol=some (-1)) (hv:∀v∈s.Vols,v.Id≠r.Vol) (h3:s.Vols.length≠3) {q:Int} (hq:(cond (decide (r.Arg>0)) ((Dz s r.Arg).bind λv1=>cond (decide (v1<0)) ((Dk s).bind λv2=>some (.inr (v2,false))) ((gi s.Vols v1).bind λx1=>some (.inl x1.Root))) (some (.inl (-1))):Option (Int⊕(Store×Bool)))=some (.inl q)):E9 s r=some (Store.mk (qN s.Vols (Vol.mk r.Vol q)) s.Arena s.Next,true):=by
 have hl:=h.len;have c:=JQ h.ar (by have:=h.few;omega);have a:=EB s c (by omega);unfold E9;rw[hq,hn];simp only[Aa,Ei];rw[cF,Bu,show((s.Vols.length:Int)==3)=false by simp;omega];rw[a];have k1:=Qb (body:=λq:List Vol×Int=>F7 s r q.1 q.2) s.Vols (λv=>decide<|v.Id<r.Vol) [] (by simp;omega)
  (λi v b hv ho=>by
   have hi:=(Af.1 hv).1;simp only[F7,EM hi,Ar,hv,Aa]
   grind [ad1,BL])
  (λb=>by simp[En,F7])
 rw[A0]at k1;rw[k1];simp only[Aa];have d:=XM s.Vols r.Vol;rw[BL (by simp;omega)];simp only[Aa];have k2:=Qb (body:=λq:List Vol×Int=>F6 s r q.1 q.2) s.Vols (λv=>decide<|v.Id>r.Vol) ((s.Vols.filter λv=>decide<|v.Id<r.Vol)++ [Vol.mk r.Vol q]) (by simp;omega)
  (λi v b hv ho=>by
   have hi:=(Af.1 hv).1;simp only[F6,EM hi,Ar,hv,Aa]
   grind [ad1,BL])
  (λb=>by simp[En,F6])
 rw[k2];rfl
theorem dX {r:CD} (h:Cr s) (hb:Fw r=true) (hk:r.Kind=2):∃t ok,E9 s r=some (t,ok)/\DC s r.Vol r.Arg=some (ok,t):=by
 have hl:=h.len;have a:=JQ h.ar (by have:=h.few;omega);have c:=EB s a (by omega);have hr:=hb;unfold Fw at hr;rw[hk]at hr;simp at hr
 have b:∀id,Qc s id=Dz s id:=λ_=>rfl
 have root:(E9 s r=some (s,false)/\DC s r.Vol r.Arg=some (false,s))\/∃q,(cond (decide<|r.Arg>0) ((Dz s r.Arg).bind λv1=>cond (decide<|v1<0) ((Dk s).bind λv2=>some<|.inr (v2,false))<|(gi s.Vols v1).bind λx1=>some<|.inl x1.Root) (some<|.inl<|-1):Option (Int⊕(Store×Bool)))=some (.inl q)/\(cond (r.Arg !=0) ((Dz s r.Arg).bind λv1=>cond (decide<|v1<0) (some<|.inr (false,s))<|(gi s.Vols v1).bind λx1=>some<|.inl x1.Root) (some<|.inl<|-1):Option (Int⊕(Bool×Store)))=some (.inl q):=by grind [EL,Ar,E9,DC]
 rcases root with⟨g1,g2⟩|⟨q,g1,g2⟩
 ·grind
 rcases EL s (by omega) r.Vol with⟨h1,h2⟩|⟨k,v,h1,h2,h3,_⟩
 ·by_cases h3:s.Vols.length=3
  ·simp_all [Bu,E9,DC]
  refine⟨_,true,ZH h h1 h2 h3 g1,?_⟩;unfold DC;rw[b,b,g2,h1];simp only[Aa,Ei];rw[cF,Bu,Ah (by omega:¬(s.Vols.length:Int)>=3)];rw[BL (by simp;omega)];simp only[Aa];rw[oF h.asc (v:=Vol.mk r.Vol q) h2 hl];rfl
 simp_all [E9,DC]
theorem iY (h:Cr s) (r:CD):UK s r=PS s r:=by
 have hl:=h.len;have d:=JQ h.ar (by have:=h.few;omega);have e:=EB s d (by omega);have c:=Py s d<|by omega
 have g:∀id,Qc s id=Dz s id:=λ_=>rfl
 have f:Qf r=some (Fw r):=by
  obtain⟨v,a1,a2,_⟩:=eN r
  grind [Le]
 have a:=Wy h r;unfold UK;rw[c,TH h,f];simp only[Aa,Av,Ad]
 cases hb:Fw r with
 |false=>grind [JH,Dv]
 |true=>
  simp only[Av,Ad];have hr:=hb;unfold Fw at hr;unfold PS at a⊢;rw[Mi h,Le,hb]at a⊢;simp only[Aa,Av,Ad]at a⊢;unfold MC
  cases k1:(r.Kind==1)with
  |true=>
   have e1:r.Kind=1:=by simpa using k1
   rw[e1]at hr;simp at hr;simp only[Ak,Aa,Av,Ad];have hj:(cond (r.Arg==0) (some 1) (some r.Arg):Option Int)=some (if 1>r.Arg then 1 else r.Arg):=by grind
   rw[hj];simp only[Aa];have hP:Cr (Store.mk [] (Arena.mk [])<|if 1>r.Arg then 1 else r.Arg):=by
    refine⟨⟨by simp,rfl,?_,by simp,by simp,by simp[Bh],by simp[Bh],by simp⟩,by simp⟩
    grind
   rw[NZ hP.toStoreR,Vh hP];rfl
  |false=>
   simp only[Ad];rw[k1]at hr a;simp only[Ad]at a
   cases k2:(r.Kind==2)with
   |true=>
    rw[k2]at a;simp only[Ak]at a⊢;obtain⟨t,ok,c1,c2⟩:=dX h hb (by simpa using k2);rw[c1]at a⊢;rw[c2];simp only[Aa]at a⊢;unfold JH at a
    cases ok with
    |false=>grind
    |true=>
     split at a
     ·grind
     obtain⟨t',q,hP,_⟩:=a
     injection q with q
     injection q with q _
     subst q;simp only[Av,Ad];have i:Store.mk t.Vols (Arena.mk t.Arena.Knots) t.Next=t:=rfl;rw[i,NZ hP.toStoreR,Vh hP];rfl
   |false=>
    simp only[Ad];rw[k2]at hr;rw[g]
    rcases EL s (by omega) r.Vol with⟨h1,h2⟩|⟨k,v,h1,h2,h3,_⟩
    ·grind
    rw[h1];simp only[Aa];rw[cF];simp only[Aa];have hm:=Ao h2;have j:=(Af.1 h2).1
    cases hc:(r.Chunk==1000000000)with
    |true=>grind
    |false=>
     simp only[Ad];have l:r.Chunk≠1000000000:=by simpa using hc
     rw[e];simp only[Aa]
     cases k3:(r.Kind==3)with
     |true=>
      simp only[Ak];rw[Bu,ad1];have d1:dr s.Vols 0 (k:Int)=some (s.Vols.take k):=by grind [dr]
      have d2:dr s.Vols ((k+1:Nat):Int) (s.Vols.length:Int)=some (s.Vols.drop<|k+1):=by grind [AS,dr]
      rw[d1,d2];simp only[Aa];rw[Jy (by simp;omega)];simp only[Aa];rw[BL (by simp;omega),QK h.asc h2,h3];simp only[Aa,Av,Ad];have hR:=rA h r.Vol;simp_all [JB,NZ]
     |false=>
      simp only[Ad];rw[k3]at hr;have ha:0<=r.Arg/\r.Arg<16/\0<=r.Chunk/\r.Chunk<=1000000000:=by grind
      obtain⟨t,ht⟩:∃t:Nat,r.Arg=(t:Int):=⟨_,(AT ha.1).symm⟩;have b:=h.root _<|AA.2 ⟨v,hm,rfl⟩;rw[Ar,h2];simp only[Aa];rw[ht,V4 _ (by have:=h.few;omega) h.ar b (by omega) ha.2.2.1,gU _ (by have:=h.few;omega) h.ar b (by omega) ha.2.2.1];simp only[Aa,Av,Ad];rw[CP,Ca];have hR:=vT h h2 (show t<16 by omega) ha.2.2.1<|show r.Chunk+1<=1000000000 by omega
      grind [JB,NZ]
theorem X4 (h:Cr s) (a:List CD) (hr:a.length<=1048576):Oj s a=Jr s a:=by
 have hl:=h.len;have d:=JQ h.ar (by have:=h.few;omega);have e:=EB s d (by omega);have c:=Py s d (by omega);unfold Oj Jr;rw[e,c];obtain⟨b,h1,h2,_⟩:=Sf (body:=λq:Int×List Vol×List Bk×Int=>D5 s a q.1 q.2.1 q.2.2.1 q.2.2.2) (body':=λq:Int×List Vol×List Bk×Int=>HG s a q.1 q.2.1 q.2.2.1 q.2.2.2) (λ(t:Store) i=>(i,t.Vols,t.Arena.Knots,t.Next)) a.length (λ_ t=>Cr t) (λ_=>True)
  (λt i hi hP=>by
   have hx:=Ab hi;have f:Store.mk t.Vols (Arena.mk t.Arena.Knots) t.Next=t:=rfl;have g:=Wy hP a[i];simp only[D5,HG,EM hi,Ar,hx,Aa];rw[f,iY hP]
   grind [ad1,JH])
  (λt _=>⟨by simp[En,D5,HG],.inl (t.Vols,t.Arena.Knots,t.Next),by simp[En,D5],trivial⟩) (s:=s) h
 grind
theorem Wh (l:List Tx) (hl:l.length<=1048576) (hr:∀x∈l,x.Recs.length<=20000):Mv l=some (Cw l):=by
 unfold Mv;obtain⟨b,h1,h2⟩:=AD (body:=λs:Int×Int=>GR l s.1 s.2) (λ(o:Int) i=>(o,i)) l.length (λi o=>o=(iJ (l.take i):Int)) (λb=>b=(iJ l:Int))
  (λo i hi ho=>by
   have hx:=Ab hi;have et:l.take (i+1)=l.take i++ [l[i]]:=Ag hi;have a:(l.take i).length=i:=by grind
   simp only[GR,EM hi,Ar,hx,Aa]
   grind [ad1,mQ,UQ])
  (λo ho=>⟨o,by simp[En,GR],by grind⟩) (s:=0) rfl
 rw[h1,h2];simp only[Aa];have d:=iI l;have hd:dr l (iJ l:Int) (ln l)=some (Cw l):=by
  unfold dr;rw[Bu,Cl (by omega),Cp,Cp,AS<|by simp];rfl
 rw[hd];simp only[Aa];obtain⟨b1,b2⟩:=PH l;obtain⟨c,q1,q2⟩:=AD (body:=λs:List Tx×Int=>GQ (Cw l) s.1 s.2) (λ(o:List Tx) i=>(o,i)) (Cw l).length (λi o=>o=(Cw l).take i) (λb=>b=Cw l)
  (λo i hi ho=>by
   have hx:=Ab hi;have e:=hr _<|b2 _<|Ay hi;have et:(Cw l).take (i+1)=(Cw l).take i++ [(Cw l)[i]]:=Ag hi;simp only[GQ,EM hi,Ar,hx,Aa];rw[Jy (by omega),Aa,BL (by grind),Aa,ad1]
   exact .inl ⟨_,rfl,by rw[et,<-ho]⟩)
  (λo ho=>⟨o,by simp[En,GQ],by grind⟩) (s:=[]) rfl
 grind
theorem ZQ (h:vB f r):Qh f=some (C9 r-1):=by
 have a:=h.len;unfold Qh;rw[h.i];simp only[Aa];obtain⟨b,h1,h2⟩:=AD (body:=λs:Int×Int=>IW r s.1 s.2) (λ(o:Int) i=>(o,i)) r.length (λi o=>o=C9 (r.take i)-1) (λb=>b=C9 r-1)
  (λo i hi ho=>by
   have hx:=Ab hi;have et:r.take (i+1)=r.take i++ [r[i]]:=Ag hi;simp only[IW,EM hi,Ar,hx,Aa];rw[ad1]
   grind [Uz])
  (λo ho=>⟨o,by simp[En,IW],by grind⟩) (s:=0) (by simp[C9])
 grind
theorem gW (r:List An) (hr:EO r):Aj (λs:Int×Int=>Gc r s.1 s.2) (0,1)=some (Dm r):=by
 have a:=hr.len;obtain⟨b,h1,h2⟩:=AD (body:=λs:Int×Int=>Gc r s.1 s.2) (λ(o:Int) i=>(i,o)) r.length (λi o=>o=Dm (r.take i)) (λb=>b=Dm r)
  (λo i hi ho=>by
   have hx:=Ab hi;have ht:=hr.tx _<|Ay hi;have et:r.take (i+1)=r.take i++ [r[i]]:=Ag hi;simp only[Gc,EM hi,Ar,hx,Aa]
   grind [Ca,Uw])
  (λo ho=>⟨o,by simp[En,Gc],by grind⟩) (s:=1) rfl
 grind
theorem Wj (l:List Tx) (hl:l.length<=1048576) (hr:∀x∈l,x.Recs.length<=20000):Aj (λs:Int×List Vol×List Bk×Int×Int=>Gb l s.1 s.2.1 s.2.2.1 s.2.2.2.1 s.2.2.2.2) (0,[],[],1,0)=Aj (λs:Int×List Vol×List Bk×Int×Int=>CQ l s.1 s.2.1 s.2.2.1 s.2.2.2.1 s.2.2.2.2) (0,[],[],1,0):=by
 obtain⟨b,h1,h2,_⟩:=Sf (body:=λs:Int×List Vol×List Bk×Int×Int=>CQ l s.1 s.2.1 s.2.2.1 s.2.2.2.1 s.2.2.2.2) (body':=λs:Int×List Vol×List Bk×Int×Int=>Gb l s.1 s.2.1 s.2.2.1 s.2.2.2.1 s.2.2.2.2) (λ(o:Store×Int) i=>(i,o.1.Vols,o.1.Arena.Knots,o.1.Next,o.2)) l.length (λ_ o=>Cr o.1) (λ_=>True)
  (λo i hi hP=>by
   obtain⟨t,b0⟩:=o;have hx:=Ab hi;have d:=hr _<|Ay hi;have c:Store.mk t.Vols (Arena.mk t.Arena.Knots) t.Next=t:=rfl;simp only[CQ,Gb,EM hi,Ar,hx,Aa];rw[c,X4 hP _ (by omega),ad1];have a:=TO hP l[i].Recs (by omega);unfold NY at a;obtain⟨j,hj⟩:∃j,(cond ((i:Int)==0) (some l[i].Num) (some b0):Option Int)=some j:=by
    cases((i:Int)==0)with
    |true=>exact⟨_,rfl⟩
    |false=>exact⟨_,rfl⟩
   rw[hj];split at a
   ·rw[a];exact⟨rfl,.inl ⟨(t,j),rfl,hP⟩⟩
   obtain⟨u,u1,u2,_⟩:=a;rw[u1]
   exact⟨rfl,.inl ⟨(u,j),rfl,u2⟩⟩)
  (λo _=>⟨by simp[En,CQ,Gb],(o.1.Vols,o.1.Arena.Knots,o.1.Next,o.2),by simp[En,CQ],trivial⟩) (s:=(Store.mk [] (Arena.mk []) 1,0)) XI
 grind
theorem QN (hf:Bc f):HT f=BQ f:=by
 obtain⟨r,hs,_⟩:=rY hf;have hr:=SZ hs hf;obtain⟨g1,g2⟩:=Rj hr;obtain⟨b1,b2⟩:=PH<|AU r;have a:=M9 r;have b:C9 r<=1000000001:=a.2.2 _ (by omega) (λy hy=>by have:=(hr.seq y hy).2;omega);unfold HT BQ;rw[Wx,Nl hf,hs.s,hs.i,CT f hf.cap,aD,CT f hf.cap,ZQ hs];unfold Lx Oe;simp only[Aa,Av,Ad];rw[RN r hr,gW r hr,OZ r hr,dI r hr];simp only[Aa];rw[OX _ g1 g2,Wh _ g1 g2];simp only[Aa];rw[Wj (Cw<|AU r) (by omega) λx hx=>g2 x<|b2 x hx,Ca,show C9 r-1+1=C9 r by omega]
theorem Y0 {r:Int} (h:Cr s) (hr:r∈Bh s):Qj s.Arena r=some (Ej s.Arena.Knots r):=by
 obtain⟨l,l1,l2,_⟩:=e9 s.Arena (rH h) r;rw[L4 s.Arena (by have:=h.few;omega) h.ar<|h.root r hr]at l1;rw[l2,l1]
theorem Xo {a b:Store} (ha:Cr a) (hb:Cr b) (e:Bn a=Bn b) (n:a.Next=b.Next):Mw a b=some true:=by
 have f:=ha.len;have d:a.Vols.length=b.Vols.length:=by grind [Nh]
 unfold Mw;rw[show(ln a.Vols !=ln b.Vols)=false by grind [Bu],show(a.Next !=b.Next)=false by rw[n];simp];obtain⟨q,h1,h2⟩:=AD (body:=λs:Int=>GT a b s) (λ(_:Unit) i=>i) a.Vols.length (λ_ _=>True) (λq=>q= .inl ())
  (λ_ i hi _=>by
   have hx:=Ab hi;have hy:=Ab (show i<b.Vols.length by omega);have c:(Bn a)[i]?=(Bn b)[i]? :=by rw[e]
   unfold Bn at c;rw[I2,I2,hx,hy]at c;simp only[EJ,Ax,Prod.mk.injEq]at c;obtain⟨e1,e2⟩:=c;simp only[GT,EM hi,Ar,hx,hy,Aa];rw[Y0 hb (AA.2 ⟨_,Ay (show i<b.Vols.length by omega),rfl⟩),Y0 ha<|AA.2 ⟨_,Ay hi,rfl⟩,e1,e2];simp only[Aa,bne_self_eq_false,Ad];generalize hR:Ej b.Arena.Knots b.Vols[i].Root=R;have g:R.length=16:=by grind [Ej]
   obtain⟨z,z1,z2⟩:=AD (body:=λs:Int=>GS R R s) (λ(_:Unit) i=>i) R.length (λ_ _=>True) (λq=>q= .inl ())
    (λ_ k hk _=>by
     have hx:=Ab hk;simp only[GS,EM hk,Ar,hx,Aa,bne_self_eq_false,Ad];rw[ad1]
     simp)
    (λ_ _=>⟨_,by simp[En,GS],rfl⟩) (s:=()) trivial
   rw[z1,z2];rw[ad1]
   simp)
  (λ_ _=>⟨_,by simp[En,GT],rfl⟩) (s:=()) trivial
 grind
theorem ZT (h:KC d r):Ok d=some true:=by
 obtain⟨m,m1,m2,m3⟩:=Kx h.fl h.sr;obtain⟨e1,e2,e3⟩:=Gw h m2 rfl;unfold Ok;rw[QN h.fl,m1];simp only[Aa,Ak];rw[TH h.st,Xo m2.st h.st e1 e2];rw[m2.seq,h.seq,m2.tx,h.tx,e3];simp
theorem AAj (l:List α) (hk:k<=l.length):dr l 0 (k:Int)=some (l.take k):=by
 unfold dr
 grind
theorem AAk (l:List α) (hk:k<=l.length):dr l (k:Int) (ln l)=some (l.drop k):=by grind [Bu,AS,dr]
theorem yH (h:code.length<=1048576):X7 code=some false:=by grind [Bu,X7]
theorem Vv (h:Bc f):LZ f f=some true:=by
 have hn:=h.n;unfold LZ;rw[show(ln f.Blocks !=ln f.Blocks)=false by simp,Ad];obtain⟨b,h1,h2⟩:=AD (body:=λs:Int=>Gt f f s) (λ(_:Unit) i=>i) f.Blocks.length (λ_ _=>True) (λb=>b= .inl ())
  (λ_ i hi _=>by
   have hx:=Ab hi;have hP:=h.blk _<|Ay hi;simp only[Gt,EM hi,Ar,hx,Aa];rw[show(f.Blocks[i].Bad==f.Blocks[i].Bad)=true by simp,show(f.Blocks[i].Wear !=f.Blocks[i].Wear)=false by simp,show(ln f.Blocks[i].Leaves !=ln f.Blocks[i].Leaves)=false by simp];obtain⟨c,q1,q2⟩:=AD (body:=λs:Int=>Gs f.Blocks[i] f.Blocks[i] s) (λ(_:Unit) i=>i) f.Blocks[i].Leaves.length (λ_ _=>True) (λb=>b= .inl ())
    (λ_ k hk _=>by
     have hx:=Ab hk;have h4:=hP.four
     have a:∀u:ByteArray,seq u u=true:=λu=>by rw[Lr];simp
     simp only[Gs,EM hk,Ar,hx,Aa,beq_self_eq_true,a,Bool.and_self,Av,Ad];rw[ad1]
     exact .inl ⟨(),rfl,trivial⟩)
    (λ_ _=>⟨_,by simp only[Gs,En],rfl⟩) (s:=()) trivial
   rw[q1,q2];rw[ad1]
   exact .inl ⟨(),rfl,trivial⟩)
  (λ_ _=>⟨_,by simp only[Gt,En],rfl⟩) (s:=()) trivial
 rw[h1,h2];rfl
theorem rX (h:F5 c) (hn:n<=100):∃t c',ML c (n:Int)=some (t,c')/\F5 c':=by
 unfold ML;rw[Ah (by omega:¬(n:Int)>5000)];simp only[Ad,Aa];obtain⟨b,h1,a,cc,rfl,h2⟩:=AD (body:=λs:List Int×Int×List Int×Int×Int=>I7 (n:Int) s.1 s.2.1 s.2.2.1 s.2.2.2.1 s.2.2.2.2) (λ(o:List Int×AN) i=>(o.1,i,o.2.b_,o.2.i_,o.2.h_)) n
  (λi o=>o.1.length=i/\F5 o.2) (λb=>∃(a:List Int) (cc:AN),b=(a,cc.b_,cc.i_,cc.h_)/\F5 cc)
  (λo i hi ho=>by
   obtain⟨o1,o2⟩:=ho;obtain⟨v,c3,e1,e2,_⟩:=Tt<|FO o2;simp only[I7];rw[cT,e1];simp only[Aa];rw[BL (by simp;omega),Aa,ad1]
   exact .inl ⟨(_,c3),rfl,by simp[o1],e2⟩)
  (λo ho=>⟨_,by simp only[I7];rw[cF],o.1,o.2,rfl,ho.2⟩) (s:=([],c)) ⟨rfl,h⟩
 rw[h1];exact⟨_,cc,rfl,h2⟩
theorem mM (h:F5 c):∃p c',PN c=some (p,c')/\F5 c':=by
 unfold PN;obtain⟨v1,c1,a1,b1,_⟩:=EK h 2;obtain⟨v2,c2,a2,b2,_⟩:=EK b1 30;obtain⟨v3,c3,a3,b3,_⟩:=EK b2 9;obtain⟨v4,c4,a4,b4,l4⟩:=Da b3 (n:=9) (by omega);obtain⟨t,c5,a5,b5⟩:=rX b4 (n:=v4) (by omega);rw[show((9:Nat):Int)=9 from rfl]at a4;rw[a1,Aa,a2,Aa,a3,Aa,a4,Aa,a5];simp only[Aa];have j:∃x cc,F5 cc/\(bif(ad 1 v1==2)then((DI c5 2).bind λv6=>some (v6.1,v6.2.b_,v6.2.i_,v6.2.h_))else some (false,c5.b_,c5.i_,c5.h_):Option (Bool×List Int×Int×Int))=some (x,cc.b_,cc.i_,cc.h_):=by
  cases ad 1 v1==2 with
  |false=>exact⟨false,c5,b5,rfl⟩
  |true=>
   obtain⟨x,cc,e1,e2⟩:=Rt b5 2;simp only[Ak];rw[e1];exact⟨x,cc,e2,rfl⟩
 obtain⟨x,cc,j1,j2⟩:=j;rw[j2];simp only[Aa]
 cases x with
 |false=>exact⟨_,_,rfl,j1⟩
 |true=>
  obtain⟨v7,c7,a7,b7,_⟩:=EK (FO j1) 4;obtain⟨v8,c8,a8,b8,_⟩:=EK b7<|ad 1 v7;simp only[Ak];rw[a7];simp only[Aa];rw[a8];exact⟨_,_,rfl,b8⟩
def vN (f:Flash):Prop:=∀b∈f.Blocks,b.Bad=false
theorem Z3 (h:vN f) (b l:Int) (x:Leaf):vN (LR f b l x):=by
 unfold LR
 cases hx:gi f.Blocks b with
 |none=>exact h
 |some y=>
  intro z hz
  rcases Bs hz with hz|rfl
  ·exact h z hz
  exact h y<|Ao (Cu hx).2
theorem nR (h:vN f) (b:Int):vN (OG f b):=by
 unfold OG
 cases hx:gi f.Blocks b with
 |none=>exact h
 |some y=>
  intro z hz
  rcases Bs hz with hz|rfl
  ·exact h z hz
  rfl
theorem tI (hf:Bc f) (h:vN f) (b l:Int) (t:ByteArray):∃g ok,Ig f b l t=some (g,ok)/\Bc g/\vN g:=by
 rcases OY hf b l t with⟨h1,h2⟩|⟨_,h2⟩
 ·exact⟨_,_,h2,(HR hf h1).1,Z3 h _ _ _⟩
 exact⟨_,_,h2,hf,h⟩
theorem gN (h:F5 c):∃f c',N1 c=some (f,c')/\F5 c'/\Bc f:=by
 obtain⟨v,c1,a1,b1,l1⟩:=Da h (n:=5) (by omega);rw[show((5:Nat):Int)=5 from rfl]at a1;unfold N1;rw[a1];simp only[Aa];rw[Ca,show(3:Int)+(v:Int)=((3+v:Nat):Int) by omega,NB<|by omega];simp only[Aa];obtain⟨b,q1,f,cc,rfl,q2,q3⟩:=AD (body:=λs:Int×List Block×List Int×Int×Int=>H3 s.1 s.2.1 s.2.2.1 s.2.2.2.1 s.2.2.2.2) (λ(o:Flash×AN) i=>(i,o.1.Blocks,o.2.b_,o.2.i_,o.2.h_)) 20
  (λ_ o=>Bc o.1/\vN o.1/\F5 o.2) (λb=>∃(f:Flash) (cc:AN),b=(f.Blocks,cc.b_,cc.i_,cc.h_)/\Bc f/\F5 cc)
  (λo i hi ho=>by
   obtain⟨f,cu⟩:=o;obtain⟨k1,k2,k3⟩:=ho;simp only at k1 k2 k3;have hn:=k1.n;simp only[H3];obtain⟨w,c3,w1,w2,_⟩:=EK (FO k3) 20;rw[w1];simp only[Aa];by_cases d:(i:Int)<w
   ·rw[Ac d,Ak];obtain⟨bb,c4,x1,x2,x3⟩:=Da w2 (n:=f.Blocks.length) (by omega);obtain⟨k,c5,y1,y2,_⟩:=EK x2 8;have hx:=Ab x3;have hP:=k1.blk _<|Ay x3;have e:=k2 _<|Ay x3;rw[Bu,x1];simp only[Aa];rw[y1];simp only[Aa];rw[Ar,hx];have a:Flash.mk f.Blocks=f:=rfl;rw[a]
    cases k==0 with
    |true=>
     simp only[Ak]
     rcases bU k1 (bb:Int)with⟨h1,h2⟩|⟨_,h2⟩
     ·rw[h2];simp only[Aa];rw[ad1];exact .inl ⟨(OG f bb,c5),rfl,(OF k1 h1).1,nR k2 _,y2⟩
     rw[h2];simp only[Aa];rw[ad1];exact .inl ⟨(f,c5),rfl,k1,k2,y2⟩
    |false=>
     simp only[Ad]
     cases k==1 with
     |true=>
      simp only[Ak,Aa];rw[Fg _ hP.four];simp only[Aa];by_cases h4:Je f.Blocks[bb].Leaves<4
      ·rw[Ac (by omega:((Je f.Blocks[bb].Leaves:Nat):Int)<4)];have hy:f.Blocks[bb].Leaves[Je f.Blocks[bb].Leaves]?=some (f.Blocks[bb].Leaves[Je f.Blocks[bb].Leaves]'(by rw[hP.four];exact h4)):=Ab _;simp only[Ak,Aa];rw[Ar,hy];simp only[Aa];have hm:ZE f (bb:Int) (Je f.Blocks[bb].Leaves:Int) (bs [116,111]):=⟨_,by rw[Ar];exact hx,e,rfl,h4,by rw[DL];simp,by rw[DL];simp⟩;have he:LR f (bb:Int) (Je f.Blocks[bb].Leaves:Int) (Leaf.mk 2<|bs [116,111])=Flash.mk (si f.Blocks (bb:Int)<|Block.mk f.Blocks[bb].Bad f.Blocks[bb].Wear<|si f.Blocks[bb].Leaves (Je f.Blocks[bb].Leaves:Int)<|Leaf.mk 2<|bs [116,111]):=by
        unfold LR;rw[Ar,hx]
       rw[ad1];exact .inl ⟨(LR f (bb:Int) (Je f.Blocks[bb].Leaves:Int)<|Leaf.mk 2<|bs [116,111],c5),by rw[he],(HR k1 hm).2.1,Z3 k2 _ _ _,y2⟩
      rw[Ah (by omega:¬((Je f.Blocks[bb].Leaves:Nat):Int)<4)];simp only[Ad,Aa];rw[ad1];exact .inl ⟨(f,c5),rfl,k1,k2,y2⟩
     |false=>
      simp only[Ad,Aa];rw[Fg _ hP.four];simp only[Aa];obtain⟨z,c6,z1,z2,z3⟩:=Da y2 (n:=5) (by omega);rw[show((5:Nat):Int)=5 from rfl]at z1;obtain⟨t,c7,t1,t2⟩:=rX z2 (n:=1+z) (by omega);rw[z1];simp only[Aa];rw[Ca,show(1:Int)+(z:Int)=((1+z:Nat):Int) by omega,t1];simp only[Aa];obtain⟨g,ok,g1,g2,g3⟩:=tI k1 k2 (bb:Int) (Je f.Blocks[bb].Leaves:Int) t;rw[g1];simp only[Aa];rw[ad1];exact .inl ⟨(g,c7),rfl,g2,g3,t2⟩
   rw[Ah d,Ad]
   exact .inr ⟨_,rfl,f,c3,rfl,k1,w2⟩)
  (λo ho=>by
   obtain⟨f,cu⟩:=o;obtain⟨k1,k2,k3⟩:=ho;simp only at k1 k2 k3;simp only[H3];obtain⟨w,c3,w1,w2,w3⟩:=Da (FO k3) (n:=20) (by omega);rw[show((20:Nat):Int)=20 from rfl]at w1;rw[show((20:Nat):Int)=20 from rfl,w1,Aa,cF]
   exact⟨_,rfl,f,c3,rfl,k1,w2⟩) (s:=(Flash.mk<|List.replicate (3+v)<|Block.mk false 0 LN,c1)) ⟨WD (by omega),λb hb=>by rw[(List.mem_replicate.1 hb).2],b1⟩
 rw[q1];simp only[Aa];have a:Flash.mk f.Blocks=f:=rfl;have hn:=q2.n;rw[a];obtain⟨x,c8,e1,e2⟩:=Rt (FO q3) 4;rw[e1];simp only[Aa]
 cases x with
 |false=>exact⟨_,_,rfl,e2,q2⟩
 |true=>
  obtain⟨bb,c9,x1,x2,x3⟩:=Da e2 (n:=f.Blocks.length) (by omega);have hx:=Ab x3;simp only[Ak];rw[Bu,x1];simp only[Aa];unfold SO;rw[CT f q2.cap,Bu,BV,Du,Ac (by omega:(0:Int)<=(bb:Int)/\(bb:Int)<=(f.Blocks.length:Int)-1)];simp only[Aa,Ak];rw[Ar,hx];simp only[Aa];rw[CP];refine⟨_,_,rfl,x2,by simpa using q2.n,λy hy=>?_⟩
  rcases Bs hy with hy|rfl
  ·exact q2.blk y hy
  have:=q2.blk _<|Ay x3;exact⟨this.four,this.wear,this.leaf,this.turn⟩
def Mt (f:Flash):Prop:=f.Blocks.length<=10/\∀b∈f.Blocks,b.Leaves.length<=4
theorem Mt.cap (h:Mt f):Xt f:=⟨by have:=h.1;omega,λb hb=>by have:=h.2 b hb;omega⟩
theorem Bc.little (h:Bc f):Mt f:=⟨h.n.2,λb hb=>by rw[(h.blk b hb).four];omega⟩
theorem Rb {b:Block} (h:Mt f) (n:Nat) (hb:b.Leaves.length<=4):Mt (Flash.mk (f.Blocks.set n b)):=⟨by simpa using h.1,λx hx=>by
 rcases Bs hx with hx|rfl
 ·exact h.2 x hx
 exact hb⟩
theorem qF (h:F5 c):∃f c',RJ c=some (f,c')/\Mt f:=by
 obtain⟨f,c1,a1,b1,d1⟩:=gN h;have hn:=d1.n;have hl:=d1.little;unfold RJ;rw[a1];simp only[Aa];rw[CT f d1.cap];simp only[Aa];obtain⟨bb,c2,a2,b2,l2⟩:=Da b1 (n:=f.Blocks.length) (by omega);obtain⟨k,c3,a3,b3,_⟩:=EK b2 16;have hx:=Ab l2;have h4:=(d1.blk _<|Ay l2).four;rw[Bu,a2];simp only[Aa];rw[a3];simp only[Aa];rw[Ar,hx];simp only[Aa]
 cases k==0 with
 |true=>
  obtain⟨v,c4,a4,b4,l4⟩:=Da b3 (n:=4) (by omega);obtain⟨w,c5,a5,b5,_⟩:=EK b4 5;rw[show((4:Nat):Int)=4 from rfl]at a4;have hy:=Ab (show v<f.Blocks[bb].Leaves.length by omega);simp only[Ak];rw[a4];simp only[Aa];rw[a5];simp only[Aa];rw[Ar,hy];simp only[Aa];rw[CP,CP];exact⟨_,_,rfl,Rb hl _<|by simp[h4]⟩
 |false=>
  simp only[Ad]
  cases k==1 with
  |true=>
   simp only[Ak];rw[show(1:Int)=((1:Nat):Int)from rfl,AAk _<|by omega];simp only[Aa];rw[CP];exact⟨_,_,rfl,Rb hl _<|by simp[h4]⟩
  |false=>
   simp only[Ad]
   cases k==2 with
   |true=>
    obtain⟨v,c4,a4,b4,_⟩:=YJ b3 (l:=[-1,1000000000,1000000001]) (by simp);simp only[Ak];rw[a4];simp only[Aa];rw[CP];exact⟨_,_,rfl,Rb hl _<|by simp[h4]⟩
   |false=>
    simp only[Ad]
    cases k==3 with
    |true=>
     obtain⟨v,c4,a4,b4,l4⟩:=Da b3 (n:=3) (by omega);rw[show((3:Nat):Int)=3 from rfl]at a4;simp only[Ak];rw[a4];simp only[Aa];rw[AAj _<|by omega];refine⟨_,_,rfl,?_,λb hb=>hl.2 b<|List.mem_of_mem_take hb⟩;simp only[J5];omega
    |false=>exact⟨_,_,rfl,hl⟩
theorem gM (h:F5 c):∃f c',N0 c=some (f,c')/\Mt f:=by
 obtain⟨x,c1,a1,b1⟩:=Rt h 3;unfold N0;rw[a1];simp only[Aa]
 cases x with
 |true=>
  obtain⟨f,c2,e1,e2⟩:=qF b1;simp only[Ak];rw[e1];exact⟨f,_,rfl,e2⟩
 |false=>
  simp only[Ad];rw[show(4:Int)=((4:Nat):Int)from rfl,NB<|by omega];simp only[Aa];obtain⟨b,q1,f,cc,rfl,q2⟩:=AD (body:=λs:Int×List Block×List Int×Int×Int=>H1 s.1 s.2.1 s.2.2.1 s.2.2.2.1 s.2.2.2.2) (λ(o:Flash×AN) i=>(i,o.1.Blocks,o.2.b_,o.2.i_,o.2.h_)) 14
   (λ_ o=>Bc o.1/\vN o.1/\o.1.Blocks.length=4/\F5 o.2) (λb=>∃(f:Flash) (cc:AN),b=(f.Blocks,cc.b_,cc.i_,cc.h_)/\Bc f)
   (λo i hi ho=>by
    obtain⟨f,cu⟩:=o;obtain⟨k1,k2,k4,k3⟩:=ho;simp only at k1 k2 k3 k4;simp only[H1];obtain⟨w,c3,w1,w2,_⟩:=EK (FO k3) 14;rw[w1];simp only[Aa];by_cases a:(i:Int)<w
    ·rw[Ac a,Ak];obtain⟨p,c4,p1,p2⟩:=mM w2;obtain⟨t,ok,t1,_⟩:=eT p;obtain⟨bb,c5,x1,x2,x3⟩:=Da p2 (n:=4) (by omega);rw[show((4:Nat):Int)=4 from rfl]at x1;rw[p1];simp only[Aa];rw[t1];simp only[Aa];rw[x1];simp only[Aa]
     cases ok with
     |false=>
      simp only[Ad];rw[ad1];exact .inl ⟨(f,c5),rfl,k1,k2,k4,x2⟩
     |true=>
      have hx:=Ab (show bb<f.Blocks.length by omega);have hP:=k1.blk _ (Ay<|show bb<f.Blocks.length by omega);have d:Flash.mk f.Blocks=f:=rfl;simp only[Ak];rw[Ar,hx];simp only[Aa];rw[Fg _ hP.four,d];simp only[Aa]
      rcases OY k1 (bb:Int) (Je f.Blocks[bb].Leaves:Int) t with⟨h1,h2⟩|⟨_,h2⟩
      ·rw[h2];simp only[Aa];rw[ad1];refine .inl ⟨(_,c5),rfl,(HR k1 h1).1,Z3 k2 _ _ _,?_,x2⟩;show(LR f _ _ _).Blocks.length=4;unfold LR;rw[Ar,hx];simp only[CP];simpa using k4
      rw[h2];simp only[Aa];rw[ad1];exact .inl ⟨(f,c5),rfl,k1,k2,k4,x2⟩
    rw[Ah a,Ad]
    exact .inr ⟨_,rfl,f,c3,rfl,k1⟩)
   (λo ho=>by
    obtain⟨f,cu⟩:=o;obtain⟨k1,k2,k4,k3⟩:=ho;simp only at k1 k2 k3;simp only[H1];obtain⟨w,c3,w1,w2,w3⟩:=Da (FO k3) (n:=14) (by omega);rw[show((14:Nat):Int)=14 from rfl]at w1;rw[show((14:Nat):Int)=14 from rfl,w1,Aa,cF]
    exact⟨_,rfl,f,c3,rfl,k1⟩) (s:=(Flash.mk<|List.replicate 4<|Block.mk false 0 LN,c1)) ⟨WD (by omega),λb hb=>by rw[(List.mem_replicate.1 hb).2],rfl,b1⟩
  rw[q1];exact⟨_,_,rfl,q2.little⟩
theorem nH (h:Bc f) (b:Int):∃g ok,Lc f (Bt.mk 2 b 0 (bs []))=some (g,ok)/\Bc g:=by
 rcases NE h (Bt.mk 2 b 0<|bs [])with⟨h1,h2⟩|⟨_,h2⟩
 ·obtain⟨g,g1,g2,_⟩:=wQ h h1;exact⟨g,true,g1,g2⟩
 unfold Lc;rw[h2,CT f h.cap];exact⟨f,false,rfl,h⟩
theorem eY (hs:code.length<=1048576):∃f,IJ code=some f/\Mt f:=by
 obtain⟨c,c1,c2⟩:=AAu hs;obtain⟨x,c3,a1,b1⟩:=Rt c2 4;unfold IJ;rw[c1,Aa,a1];simp only[Aa]
 cases x with
 |true=>
  obtain⟨f,c4,e1,e2⟩:=gM b1;simp only[Ak];rw[e1];exact⟨f,rfl,e2⟩
 |false=>
  obtain⟨d,c',r,d1,d2,d3,_⟩:=dA b1;obtain⟨y,c5,a2,b2⟩:=Rt d2 4;simp only[Ad];rw[d1];simp only[Aa];rw[a2];simp only[Aa]
  cases y with
  |false=>exact⟨_,rfl,d3.dev.fl.little⟩
  |true=>
   obtain⟨v,c6,a3,b3,_⟩:=EK b2 5;obtain⟨g,ok,g1,g2⟩:=nH d3.dev.fl v;simp only[Ak];rw[a3];simp only[Aa];rw[g1];exact⟨_,rfl,g2.little⟩
theorem Sv (hs:code.length<=1048576):Hu code=some true:=by
 obtain⟨f,f1,f2⟩:=eY hs;obtain⟨v,v1,v2⟩:=Uf f f2.cap;unfold Hu;rw[yH hs];simp only[Aa,Ad];rw[f1];simp only[Aa]
 cases v with
 |false=>
  have hi:∃m,HT f=some (m,false):=by
   unfold HT;rw[Wx,v1];exact⟨_,rfl⟩
  have hS:∃m,BQ f=some (m,false):=by
   unfold BQ;rw[v1];exact⟨_,rfl⟩
  obtain⟨m,hm⟩:=hi;obtain⟨w,hw⟩:=hS;rw[hm,hw,v1];rfl
 |true=>
  have hf:=v2.1 rfl;obtain⟨d,r,d1,d2,d3⟩:=N6 hf;rw[QN hf,d1,v1];simp only[Aa,beq_self_eq_true,Av,Ad];rw[ZT d2,TY d2.st d2.st,Mi d2.st,d3,Vv hf];simp
theorem fnMountsAny_true (code:List Int) (hc:ol (oK .u8) code):Hu code=some true:=by
 by_cases h:code.length<=1048576
 ·exact Sv h
 unfold Hu X7;rw[Bu,Ac<|by omega];rfl
end Go.TI
