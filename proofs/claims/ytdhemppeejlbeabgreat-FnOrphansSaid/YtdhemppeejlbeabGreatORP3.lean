/- A page of a chunk that no transaction behind it names. No condition; no program is in sight. -/
import Derived.Test.YtdhemppeejlbeabGreatORP2
set_option linter.unusedVariables false
set_option linter.unusedSimpArgs false
namespace Go.TI
open Go
theorem Xb (x a b:Int):Jc x a b=some (decide (a<=x/\x<=b)):=by
 unfold Jc;by_cases h:x>=a
 ·rw [Ad h,Af];by_cases h2:x<=b
  ·rw [Ad h2,Ad ⟨h,h2⟩]
  rw [Ae h2,Ae λhh=>h2 hh.2]
 rw [Ae h,Ac,Ae λhh=>h hh.1]
theorem Lp {l:List Int} (h:l.length<=1048576):Ia l=some l:=by
 unfold Ia;rw [K9 (by omega)];rfl
theorem Qp (a:Arena) (h:sV a.Knots):Ic a=some a:=by
 unfold Ic;have q:=Tb (body:=λs:Int×List BI=>Ib a s.1 s.2) a.Knots (λk=>k)
  (λi x b hx ho=>by
   have hi:=(Ag.1 hx).1;have hk:=h.2 x (A6 hx);simp only [Ib,AG,Ad hi,Af,AB,hx,Aa];rw [Lp hk];simp only [Aa];have:=h.1;rw [Cq (by simp;omega),ad1 (by omega)]
   rfl)
  (λb=>by simp only [Ib,AG,Aq,Aw,Ac])
 rw [q];simp
theorem Qm (s:Store) (h:sV s.Arena.Knots) (hv:s.Vols.length<=1048576):HZ s=some s:=by
 unfold HZ;rw [K9 (by omega),Qp _ h];rfl
theorem OZ (a:Arena) (ha:a.Knots.length<=1048576):I8 a=some (CU a.Knots):=by rw [TA,JN a ha]
theorem Ql (a:Arena) (ha:a.Knots.length<=1048576) (r:Int):G9 a r=some (decide (0<=r/\r<(a.Knots.length:Int))&&!(BD a.Knots r).Leaf):=by
 unfold G9;rw [Xb,BW,C5 (by omega) (by omega)];simp only [Aa];by_cases h:0<=r/\r<(a.Knots.length:Int)
 ·rw [Ad (by omega:0<=r/\r<=(a.Knots.length:Int)-1),Ad h,Af,HB h.1 h.2];simp
 rw [Ae (by omega:¬(0<=r/\r<=(a.Knots.length:Int)-1)),Ae h,Ac];simp
theorem eW {a:Arena} {r:Int} (ha:a.Knots.length<=1048576) (hr:D8 a.Knots r=true):(bif(r !=(-1))then((G9 a r).bind λv2=>some (!v2))else(some false):Option Bool)=some false:=by
 rcases Ck hr with rfl|⟨h0,h1,hl⟩
 ·rfl
 rw [show(r !=(-1))=true by simp;omega,Af,Ql a ha,Ad ⟨h0,h1⟩,hl];rfl
theorem jI {r:Int} {s:Nat} {n:Int} (a:Arena) (ha:a.Knots.length<=1048000) (hK:CU a.Knots=true) (hr:D8 a.Knots r=true) (hs:s<16) (hn:0<=n):
  VL a r (s:Int) n=some (Arena.mk (IM a.Knots r s n),(a.Knots.length:Int)+1):=by
 unfold VL;rw [Qp _ (KS hK (by omega)),OZ a (by omega),Xb,hK];simp only [Aa,Ak,Ac];rw [Ad (by omega:0<=(s:Int)/\(s:Int)<=15),Ae (by omega:¬n<0)];simp only [Ak,Ac,Aa];have hq:(bif(r !=(-1))then((G9 a r).bind λv2=>bif(!v2)then(some true)else(some false))else(some false):Option Bool)=some false:=by
  rcases Ck hr with rfl|⟨h0,h1,hl⟩
  ·rfl
  rw [show(r !=(-1))=true by simp;omega,Af,Ql a (by omega),Ad ⟨h0,h1⟩,hl];rfl
 rw [hq,mk4];simp only [Aa,Ac];have fin:∀(lf tp:List Int),lf.length=4->tp.length=4->IM a.Knots r s n=a.Knots++ [BI.mk true (lf.set (s %4) n),BI.mk false (tp.set (s/4) (a.Knots.length:Int))]->
   ((gi lf (Int.tmod (s:Int) 4)).bind λx4=>(gi tp (qu (s:Int) 4)).bind λx5=>(ap 32 a.Knots [(BI.mk true (si lf (Int.tmod (s:Int) 4) n)),(BI.mk false (si tp (qu (s:Int) 4) (ln a.Knots)))]).bind λq2=>some ((Arena.mk q2),(ad (ln a.Knots) 1)))=some (Arena.mk (IM a.Knots r s n),(a.Knots.length:Int)+1):=by
  intro lf tp h1 h2 h3;rw [yR hs,pK,AB,AB,Ab (by omega),Ab (by omega)];simp only [Aa];rw [Cq (by simp;omega),Ey,Ey,BW,<-h3,ad1 (by omega)];rfl
 rcases Ck hr with rfl|⟨h0,h1,hl⟩
 ·rw [Ae (by omega:¬(-1:Int)>=0)];simp only [Ac,Aa];have hx:gi [(-1:Int),(-1),(-1),(-1)] (qu (s:Int) 4)=some (-1):=by
   rw [yR hs,AB];have:s/4<4:=by omega
   match s/4,this with
   |0,_=>rfl
   |1,_=>rfl
   |2,_=>rfl
   |3,_=>rfl
   |n+4,h=>omega
  rw [hx];simp only [Aa];rw [Ae (by omega:¬(-1:Int)>=0)];simp only [Ac,Aa];have:=fin [0,0,0,0] [(-1),(-1),(-1),(-1)] rfl rfl rfl;rw [hx]at this;exact this
 rw [Ad (by omega:r>=0),Af,HB h0 h1];have h4:=(Fc hK h0 h1).1;simp only [Aa];rw [Lp (by omega)];simp only [Aa];have hx:gi (BD a.Knots r).Kids (qu (s:Int) 4)=some (JZ (BD a.Knots r) (s/4)):=by rw [yR hs,fK (by omega:s/4<(BD a.Knots r).Kids.length)]
 rw [hx];simp only [Aa]
 rcases FO hK h0 h1 hl (show s/4<4 by omega)with e|⟨e1,e2,e3⟩
 ·rw [Ae (by omega:¬JZ (BD a.Knots r) (s/4)>=0)];simp only [Ac,Aa];have:=fin [0,0,0,0] (BD a.Knots r).Kids rfl h4 (by unfold IM Nc Rp;simp only [Ax (show¬r<0 by omega),Au (show JZ (BD a.Knots r) (s/4)<0 by omega)]);rw [hx]at this;exact this
 rw [Ad (by omega:JZ (BD a.Knots r) (s/4)>=0),Af,HB e1 (by omega)];have h5:=(Fc hK e1 (by omega)).1;simp only [Aa];rw [Lp (by omega)];simp only [Aa];have:=fin (BD a.Knots (JZ (BD a.Knots r) (s/4))).Kids (BD a.Knots r).Kids h5 h4 (by unfold IM Nc Rp;simp only [Ax (show¬r<0 by omega),Ax (show¬JZ (BD a.Knots r) (s/4)<0 by omega)]);rw [hx]at this;exact this
theorem VO (l:List Int) (n:Int) (hl:l.length<=1048576):M6 l n=some (l.contains n):=by
 unfold M6;obtain⟨b,h1,h2⟩:=Bf (body:=λs:Int=>Jy l n s) (λ(_:Unit) i=>i) l.length (λi _=>n∉l.take i) (λb=>(b= .inr true/\n∈l)\/(b= .inl ()/\n∉l))
  (λ_ i hi hs=>by
   have hx:=Ab hi;simp only [Jy,AG,Ad hi,Af,AB,hx,Aa];rw [ad1 (by omega)]
   cases e:(l[i]==n)with
   |true=>exact .inr ⟨_,rfl,.inl ⟨rfl,by
    have e2:l[i]=n:=by simpa using e
    rw [<-e2]
    exact AC hi⟩⟩
   |false=>
    refine .inl ⟨(),by simp only [Ac],?_⟩;rw [Ap hi,Ai,Ay];rintro(h|h)
    ·exact hs h
    rw [h]at e;simp at e)
  (λ_ hs=>⟨.inl (),by simp only [Jy,AG,Aq,Aw,Ac],.inr ⟨rfl,by rw [AL]at hs;exact hs⟩⟩) (s:=()) (by simp)
 have h1':Av (λs:Int=>Jy l n s) 0=some b:=h1;rw [h1']
 rcases h2 with⟨rfl,h⟩|⟨rfl,h⟩
 ·simp [h]
 simp [h]
theorem Ti {r:Int} (a:Arena) (ha:a.Knots.length<=1048000) (hK:CU a.Knots=true) (hr:D8 a.Knots r=true):∃l,NL a r=some l/\l.length<=5/\∀i:Nat,(i:Int)∈l↔M9 a.Knots r i=true:=by
 unfold NL;rw [Ql a (by omega)];simp only [Aa]
 rcases Ck hr with rfl|⟨h0,h1,hl⟩
 ·rw [Ae (by omega:¬((0:Int)<= -1/\(-1:Int)<(a.Knots.length:Int)))];exact⟨[],rfl,by simp,λi=>by simp [M9]⟩
 rw [Ad ⟨h0,h1⟩,hl,HB h0 h1];simp only [AH,HF,Ak,Ac,Aa];obtain⟨h4,hk⟩:=Fc hK h0 h1;obtain⟨l,q1,q2,q3⟩:=Bf (body:=λs:List Int×Int=>JT a (BD a.Knots r) s.1 s.2) (λ(o:List Int) i=>(o,i)) (BD a.Knots r).Kids.length
  (λi o=>o.length<=1+i/\∀n:Nat,(n:Int)∈o↔(r=(n:Int)\/(n:Int)∈(BD a.Knots r).Kids.take i)) (λo=>o.length<=5/\∀n:Nat,(n:Int)∈o↔(r=(n:Int)\/(n:Int)∈(BD a.Knots r).Kids))
  (λo i hi ho=>by
   obtain⟨o1,o2⟩:=ho;have hx:=Ab hi;have et:(BD a.Knots r).Kids.take (i+1)=(BD a.Knots r).Kids.take i++ [(BD a.Knots r).Kids[i]]:=Ap hi;refine .inl ?_;simp only [JT,AG,Ad hi,Af,AB,hx,Aa];rw [Xb,BW,C5 (by omega) (by omega),ad1 (by omega)];simp only [Aa];have b:(BD a.Knots r).Kids[i]=JZ (BD a.Knots r) i:=by
    have:=(hk i (by omega)).1;rw [hx]at this;injection this
   rcases FO hK h0 h1 hl (show i<4 by omega)with e|⟨e1,e2,e3⟩
   ·rw [Ae (by omega),Ac];refine⟨o,rfl,by omega,λn=>?_⟩;rw [o2,et,Ai,Ay,b,e];constructor
    ·rintro(h|h)
     ·exact .inl h
     exact .inr (.inl h)
    rintro(h|h|h)
    ·exact .inl h
    ·exact .inr h
    omega
   rw [Ad (by omega),Af,VO o _ (by omega)];simp only [Aa]
   cases hc:o.contains (BD a.Knots r).Kids[i]with
   |true=>
    have hm:(BD a.Knots r).Kids[i]∈o:=by simpa using hc
    refine⟨o,rfl,by omega,λn=>?_⟩;rw [o2,et,Ai,Ay];constructor
    ·rintro(h|h)
     ·exact .inl h
     exact .inr (.inl h)
    rintro(h|h|h)
    ·exact .inl h
    ·exact .inr h
    rw [<-h]at hm;exact(o2 n).1 hm
   |false=>
    simp only [AH,Af];rw [Cq (by simp;omega)];refine⟨_,rfl,by simp;omega,λn=>?_⟩;rw [Ai,Ay,o2,et,Ai,Ay];constructor
    ·rintro((h|h)|h)
     ·exact .inl h
     ·exact .inr (.inl h)
     exact .inr (.inr h)
    rintro(h|h|h)
    ·exact .inl (.inl h)
    ·exact .inl (.inr h)
    exact .inr h)
  (λo ho=>⟨o,by simp only [JT,AG,Aq,Aw,Ac],by have:=ho.1;omega,by have:=ho.2;rw [AL]at this;exact this⟩) (s:=[r]) ⟨by simp,λn=>by simp [eq_comm]⟩
 rw [q1];refine⟨l,rfl,q2,λi=>?_⟩;rw [q3];unfold M9;rw [Ad h0,CJ,Cy,A7,CQ];constructor
 ·rintro(h|h)
  ·exact .inl h
  exact .inr ⟨_,h,by simp⟩
 rintro(h|⟨x,h,k⟩)
 ·exact .inl h
 right;have:x=(i:Int):=by simpa using k
 rw [<-this];exact h
theorem bU (a:Arena) (ha:a.Knots.length<=1048000) (hK:CU a.Knots=true) (R:List Int) (hc:R.length<=1000) (hR:∀r∈R,D8 a.Knots r=true) (v:List Int):∃l,Av (λs:List Int×Int=>F9 a R v s.1 s.2) ([],0)=some (.inl l)/\l.length<=5000/\∀i:Nat,(i:Int)∈l↔C1 a.Knots R i=true:=by
 obtain⟨b,h1,l,rfl,h3,h4⟩:=Bf (body:=λs:List Int×Int=>F9 a R v s.1 s.2) (λ(o:List Int) i=>(o,i)) R.length (λi o=>o.length<=5*i/\∀n:Nat,(n:Int)∈o↔C1 a.Knots (R.take i) n=true) (λb=>∃l,b= .inl l/\l.length<=5000/\∀i:Nat,(i:Int)∈l↔C1 a.Knots R i=true)
  (λo i hi ho=>by
   obtain⟨o1,o2⟩:=ho;have hx:=Ab hi;have hr:=hR _ (AC hi);obtain⟨m,m1,m2,m3⟩:=Ti a ha hK hr;simp only [F9,AG,Ad hi,Af,AB,hx,Aa];rw [eW (by omega) hr];simp only [Aa,Ac];rw [m1];simp only [Aa];rw [Cq (by omega),ad1 (by omega)];refine .inl ⟨o++m,rfl,by simp;omega,λn=>?_⟩;rw [Ai,o2,m3];unfold C1
   rw [S3 hx,Cy])
  (λo ho=>⟨_,by simp only [F9,AG,Aq,Aw,Ac],o,rfl,by have:=ho.1;omega,by have:=ho.2;rw [AL]at this;exact this⟩) (s:=[]) ⟨by simp,λn=>by simp [C1]⟩
 exact⟨l,h1,h3,h4⟩
theorem Yf (a:Arena) (ha:a.Knots.length<=1048000) (hK:CU a.Knots=true) (R:List Int) (hR:∀r∈R,D8 a.Knots r=true) (l:List Int) (h7:l.length<=5000) (hl:∀i:Nat,(i:Int)∈l↔C1 a.Knots R i=true):
  Av (λs:List Int×Int×List BI=>F8 a l s.1 s.2.1 s.2.2) (List.replicate a.Knots.length 0,0,[])=some (QP a.Knots R a.Knots.length,Rq a.Knots R):=by
 have n:∀i:Nat,l.contains (i:Int)=C1 a.Knots R i:=λi=>by
  cases hu:C1 a.Knots R i with
  |true=>exact List.contains_iff_mem.2 ((hl i).2 hu)
  |false=>
   cases hc:l.contains (i:Int)with
   |false=>rfl
   |true=>have:=(hl i).1 (by simpa using hc);rw [hu]at this;cases this
 obtain⟨b,h1,h2⟩:=Bf (body:=λs:List Int×Int×List BI=>F8 a l s.1 s.2.1 s.2.2) (λ(o:List Int×List BI) i=>(o.1,i,o.2)) a.Knots.length
  (λi o=>o=(QP a.Knots R i,((List.range i).filter (C1 a.Knots R)).map (V5 a.Knots R))) (λb=>b=(QP a.Knots R a.Knots.length,Rq a.Knots R))
  (λo i hi ho=>by
   subst ho;have h0:(0:Int)<=(i:Int):=by omega
   have g:(i:Int)<(a.Knots.length:Int):=by omega
   simp only [F8,AG,Ad hi,Af];rw [HB h0 g,VO l _ (by omega),n];simp only [Aa]
   cases hu:C1 a.Knots R i with
   |false=>
    simp only [AH,Af];rw [ad1 (by omega)];refine .inl ⟨(QP a.Knots R i,((List.range i).filter (C1 a.Knots R)).map (V5 a.Knots R)),rfl,?_⟩;congr 1
    ·unfold QP;apply CI;intro j hj;by_cases e:j=i
     ·subst e;rw [Ax (by omega),Ax (by rw [hu];simp)]
     by_cases h:j<i/\C1 a.Knots R j=true
     ·rw [Au h,Au ⟨by omega,h.2⟩]
     rw [Ax h,Ax (λh3=>h ⟨by omega,h3.2⟩)]
    rw [Ed,AQ,BN (by rw [hu];simp)];simp
   |true=>
    simp only [Ak,Ac];obtain⟨h4,hk⟩:=Fc hK h0 g;have w:gi (QP a.Knots R i) (i:Int)=some 0:=by
     unfold QP;rw [AB,Hv hi,Ax (by omega)]
    rw [w,Lp (by omega)];simp only [Aa];have h6:=xH (K:=a.Knots) (R:=R) i;have p:(((List.range i).filter (C1 a.Knots R)).map (V5 a.Knots R)).length=Yb a.Knots R i:=by rw [Be];rfl
    have f:si (QP a.Knots R i) (i:Int) (ln (((List.range i).filter (C1 a.Knots R)).map (V5 a.Knots R)))=QP a.Knots R (i+1):=by
     rw [BW,p,Ey];unfold QP;apply ND;intro j hj;by_cases e:j=i
     ·subst e;rw [Au ⟨by omega,hu⟩,Au rfl]
     rw [Ax e];by_cases h:j<i/\C1 a.Knots R j=true
     ·rw [Au h,Au ⟨by omega,h.2⟩]
     rw [Ax h,Ax (λh3=>h ⟨by omega,h3.2⟩)]
    have inner:Av (λs:Int×List Int=>F7 (QP a.Knots R i) (i:Int) (((List.range i).filter (C1 a.Knots R)).map (V5 a.Knots R)) (BD a.Knots (i:Int)) s.1 s.2) (0,(BD a.Knots (i:Int)).Kids)=some (V5 a.Knots R i).Kids:=by
     have q:=M3 (body:=λs:Int×List Int=>F7 (QP a.Knots R i) (i:Int) (((List.range i).filter (C1 a.Knots R)).map (V5 a.Knots R)) (BD a.Knots (i:Int)) s.1 s.2) (λl k=>(k,l)) (λ_ x=>bif(BD a.Knots (i:Int)).Leaf then x else Mc a.Knots R x) (BD a.Knots (i:Int)).Kids
      (λk l x y m d=>by
       have z:=(Ag.1 d).1;have t:k<4:=by omega
       have ex:x=JZ (BD a.Knots (i:Int)) k:=by have:=(hk k t).1;rw [d]at this;injection this
       have same:l.set k x=l:=by
        apply C7;intro j;rw [Ci];split
        ·rename_i e5;subst e5;rw [Au (Ag.1 m).1,m]
        rfl
       simp only [F7,AG,Ad z,Af,AB,d,Aa];rw [f]
       cases u:(BD a.Knots (i:Int)).Leaf with
       |true=>
        simp only [Ak,Ac,Af,Aa];rw [same,ad1 (by omega)]
       |false=>
        simp only [AH,Af,Ac,Aa]
        rcases FO hK h0 g u t with e|⟨e1,e2,e3⟩
        ·rw [Ae (by omega:¬x>=0),Ac,ad1 (by omega)];have:Mc a.Knots R x=x:=by unfold Mc;rw [Ax (by omega)]
         rw [this,same]
        rw [Ad (by omega:x>=0),Af];obtain⟨c,hc⟩:∃c:Nat,x=(c:Int):=⟨x.toNat,by omega⟩;have h5:x∈(BD a.Knots (i:Int)).Kids:=A6 d;have v:=Sy (Wf hK hR hu u) h0 h5 (by omega);rw [hc]at v;rw [hc,AB];unfold QP;rw [Hv (by omega)];simp only [Aa];rw [Au ⟨by omega,v⟩,m];simp only [Aa];rw [Ey,ad1 (by omega)];unfold Mc;rw [Au (by omega)]
        rfl)
      (λl y=>by simp only [F7,AG,Aq,Aw,Ac])
     rw [Ix]at q;rw [q];unfold V5
     cases(BD a.Knots (i:Int)).Leaf with
     |true=>simp
     |false=>rfl
    rw [inner];simp only [Aa];rw [Cq (by rw [p];simp;omega)];simp only [Aa];rw [ad1 (by omega),f];refine .inl ⟨(_,_),rfl,?_⟩;congr 1;rw [Ed,AQ,BM hu,FW,Cl]
    rfl)
  (λo ho=>⟨o,by simp only [F8,AG,Aq,Aw,Ac],ho⟩) (s:=(List.replicate a.Knots.length 0,[])) (by
   unfold QP;simp only [Nat.not_lt_zero,false_and,Ga];rw [Je,Ch]
   rfl)
 rw [<-h2];exact h1
theorem jG (a:Arena) (ha:a.Knots.length<=1048000) (hK:CU a.Knots=true) (R:List Int) (hc:R.length<=1000) (hR:∀r∈R,D8 a.Knots r=true):LQ a R=some (Arena.mk (Rq a.Knots R),R.map (Mc a.Knots R)):=by
 unfold LQ;rw [Lp (by omega)];simp only [Aa];obtain⟨l,l1,l2,l3⟩:=bU a ha hK R hc hR R;rw [l1,OZ a (by omega),hK];simp only [Aa,BA,Ak,Ac];rw [BW,TW (by omega) (by omega)];simp only [Aa];rw [Yf a ha hK R hR l l2 l3];simp only [Aa];have hb:(λs:List Int×Int=>Ec R (QP a.Knots R a.Knots.length,Rq a.Knots R) s.1 s.2)=(λs:List Int×Int=>Ec R (QP a.Knots R a.Knots.length,Rq a.Knots R) s.1 s.2):=rfl;have q:=M3 (body:=λs:List Int×Int=>Ec R (QP a.Knots R a.Knots.length,Rq a.Knots R) s.1 s.2) (λl k=>(l,k)) (λ_ x=>Mc a.Knots R x) R
  (λk l x h d b=>by
   have hk:=(Ag.1 b).1;simp only [Ec,AG,Ad hk,Af,AB,b,Aa]
   rcases Ck (hR x (A6 b))with e|⟨e1,e2,e3⟩
   ·rw [Ae (by omega:¬x>=0),Ac,ad1 (by omega)];have:Mc a.Knots R x=x:=by unfold Mc;rw [Ax (by omega)]
    rw [this,show l.set k x=l from by
     apply C7;intro j;rw [Ci];split
     ·rename_i e5;subst e5;rw [Au (Ag.1 d).1,d]
     rfl]
   rw [Ad (by omega:x>=0),Af];obtain⟨c,f⟩:∃c:Nat,x=(c:Int):=⟨x.toNat,by omega⟩;have g:=N3 (K:=a.Knots) (A6 b) e1;rw [f]at g;rw [f,AB];unfold QP;rw [Hv (by omega)];simp only [Aa];rw [Au ⟨by omega,g⟩,d];simp only [Aa];rw [Ey,ad1 (by omega)];unfold Mc;rw [Au (by omega)]
   rfl)
  (λl h=>by simp only [Ec,AG,Aq,Aw,Ac])
 rw [Ix]at q;have q':Av (λs:List Int×Int=>Ec R (QP a.Knots R a.Knots.length,Rq a.Knots R) s.1 s.2) (R,0)=some (R.map (Mc a.Knots R)):=q;rw [q'];rfl
variable {r r' b a:List A4} {d e d':Bc} {y:A4} {n k m j:Nat} {s:Store} {g f:Flash} {c nx nx':Int} {P:Int->Prop} {T:List ByteArray} {l l':Vs} {p:Page} {K:Ks} {x:Dk} {ps:List Page}
theorem M5 (h:StoreR s):KO s=some (Ki s):=by
 have hl:=h.len;have hf:=h.few;have e:(B9 s).length=s.Vols.length:=by unfold B9;rw [Be]
 unfold KO;have hr:Av (λq:List Int×Int=>ET s q.1 q.2) ([],0)=some (B9 s):=by
  obtain⟨b,h1,h2⟩:=Bf (body:=λq:List Int×Int=>ET s q.1 q.2) (λ(o:List Int) i=>(o,i)) s.Vols.length (λi o=>o=(s.Vols.take i).map Vol.Root) (λb=>b=B9 s)
   (λo i hi ho=>by
    have hx:=Ab hi;simp only [ET,AG,Ad hi,Af,AB,hx,Aa];rw [Cq (by rw [ho];simp;omega)];simp only [Aa];rw [ad1 (by omega)]
    exact .inl ⟨_,rfl,by rw [ho,DR,hx,Cl];rfl⟩)
   (λo ho=>⟨o,by simp only [ET,AG,Aq,Aw,Ac],by rw [ho,AP (A3 _)];rfl⟩) (s:=[]) rfl
  rw [<-h2];exact h1
 rw [hr];simp only [Aa];rw [jG _ (by omega) h.ar _ (by omega) h.root];simp only [Aa];have q:=M3 (body:=λq:Int×List Vol=>GA s (Arena.mk (Rq s.Arena.Knots (B9 s)),(B9 s).map (Mc s.Arena.Knots (B9 s))) q.1 q.2) (λl i=>(i,l)) (λ_ v=>Vol.mk v.Id (Mc s.Arena.Knots (B9 s) v.Root)) s.Vols
  (λi l x c d a=>by
   have hi:=(Ag.1 a).1;simp only [GA,AG,Ad hi,Af];have:gi ((B9 s).map (Mc s.Arena.Knots (B9 s))) (i:Int)=some (Mc s.Arena.Knots (B9 s) x.Root):=by
    rw [AB,AN];unfold B9;rw [AN,a];rfl
   rw [this,AB,d];simp only [Aa]
   rw [Ey,ad1 (by omega)])
  (λl c=>by simp only [GA,AG,Aq,Aw,Ac])
 rw [Ix]at q;rw [q];rfl
theorem rU {R:List Int} {i:Nat} {n:Int} (hK:CU K=true) (hR:∀r∈R,D8 K r=true) (hi:i<K.length) (hu:C1 K R i=true) (hl:(BD K (i:Int)).Leaf=true) (hn:n∈(BD K (i:Int)).Kids):∃r∈R,n∈E9 K r:=by
 unfold C1 at hu;obtain⟨r,hr,h⟩:=CQ.1 hu;unfold M9 at h;rw [Al,A7,Cy,A7,CQ]at h;obtain⟨h0,h⟩:=h
 rcases Ck (hR r hr)with e|⟨_,h1,h2⟩
 ·omega
 rcases h with h|⟨x,hx,he⟩
 ·rw [h,hl]at h2;cases h2
 have a:x=(i:Int):=by simpa using he
 obtain⟨h4,hk⟩:=Fc hK h0 h1;obtain⟨j,hj,b⟩:=AF hx;have c:JZ (BD K r) j=(i:Int):=by
  have:=(hk j (by omega)).1;rw [Ab hj,b]at this
  injection this with this
  rw [<-this,a]
 obtain⟨g4,gk⟩:=Fc hK (r:=(i:Int)) (by omega) (by omega);obtain⟨t,ht,d⟩:=AF hn;have f:JZ (BD K (i:Int)) t=n:=by
  have:=(gk t (by omega)).1;rw [Ab ht,d]at this
  injection this with this
  exact this.symm
 refine⟨r,hr,AJ.2 ⟨4*j+t,by simp;omega,?_⟩⟩;unfold Pz;rw [Ax (by omega),show(4*j+t)/4=j by omega,show(4*j+t) %4=t by omega,c,Ax (by omega),f]
theorem UP (h:CV s):NN s=some true:=by
 have hl:=h.len;have hf:=h.few;unfold NN;rw [BW,Ae (by omega),Ac,OZ _ (by omega),h.ar,Xb,Ad h.nx];simp only [Aa,Ak,Ac];obtain⟨b,h1,l,rfl,h3,h4⟩:=Bf (body:=λq:List Int×Int=>I5 s q.1 q.2) (λ(o:List Int) i=>(o,i)) s.Vols.length (λi o=>o.length<=5*i/\∀n:Nat,(n:Int)∈o↔C1 s.Arena.Knots ((B9 s).take i) n=true) (λb=>∃l,b= .inl l/\l.length<=5000/\∀i:Nat,(i:Int)∈l↔C1 s.Arena.Knots (B9 s) i=true)
  (λo i hi ho=>by
   obtain⟨o1,o2⟩:=ho;have hx:=Ab hi;have hm:s.Vols[i]∈s.Vols:=AC hi;have a:s.Vols[i].Root∈B9 s:=AJ.2 ⟨_,hm,rfl⟩;have hr:=h.root _ a;have e:(B9 s)[i]?=some s.Vols[i].Root:=by unfold B9;rw [AN,hx];rfl
   obtain⟨m,m1,m2,m3⟩:=Ti s.Arena (by omega) h.ar hr;simp only [I5,AG,Ad hi,Af,AB,hx,Aa];rw [Xb,Ad (h.ids _ hm),eW (by omega) hr];simp only [Aa,Ak,Ac];have hj:(bif(decide ((i:Int)>0))then((gi s.Vols (sb (i:Int) 1)).bind λx2=>bif(decide (x2.Id>=s.Vols[i].Id))then(some true)else(some false))else(some false):Option Bool)=some false:=by
    by_cases h0:i=0
    ·rw [Ae (by omega:¬(i:Int)>0),Ac]
    rw [Ad (by omega:(i:Int)>0),Af,C5 (by omega) (by omega),show(i:Int)-1=((i-1:Nat):Int) by omega,AB,Ab (by omega)];simp only [Aa];have:=NF h.asc (show i-1<i by omega) (x:=s.Vols[i-1].Id) (y:=s.Vols[i].Id) (by rw [AN,Ab (by omega)];rfl) (by rw [AN,Ab (by omega)];rfl);rw [Ae (by omega),Ac]
   rw [hj];simp only [Aa,Ac];rw [m1];simp only [Aa];rw [Cq (by omega),ad1 (by omega)];refine .inl ⟨o++m,rfl,by simp;omega,λn=>?_⟩;rw [Ai,o2,m3];unfold C1
   rw [S3 e,Cy])
  (λo ho=>⟨_,by simp only [I5,AG,Aq,Aw,Ac],o,rfl,by have:=ho.1;omega,by
   have:=ho.2;rw [AP (by unfold B9;rw [Be];exact A3 _)]at this
   exact this⟩) (s:=[]) ⟨by simp,λn=>by simp [C1]⟩
 have h1':Av (λq:List Int×Int=>I5 s q.1 q.2) ([],0)=some (.inl l):=h1;rw [h1'];simp only [Aa,BA];obtain⟨c,q1,q2⟩:=Bf (body:=λq:Int=>I4 s l q) (λ(_:Unit) i=>i) s.Arena.Knots.length (λ_ _=>True) (λc=>c= .inl ())
  (λ_ i hi _=>by
   have hu:=h.used i hi;simp only [I4,AG,Ad hi,Af];rw [HB (by omega) (by omega),VO l _ (by omega),List.contains_iff_mem.2 ((h4 i).2 hu)];simp only [Aa,Ak,Ac];obtain⟨d,e1,e2⟩:=Bf (body:=λq:Int=>I3 s (BD s.Arena.Knots (i:Int)) q) (λ(_:Unit) i=>i) (BD s.Arena.Knots (i:Int)).Kids.length (λ_ _=>True) (λc=>c= .inl ())
    (λ_ k hk _=>by
     have hx:=Ab hk;have h44:=(Fc h.ar (r:=(i:Int)) (by omega) (by omega)).1;simp only [I3,AG,Ad hk,Af,AB,hx,Aa];rw [ad1 (by omega)]
     cases f:(BD s.Arena.Knots (i:Int)).Leaf with
     |false=>exact .inl ⟨(),rfl,trivial⟩
     |true=>
      obtain⟨r,r1,r2⟩:=rU h.ar h.root hi hu f (AC hk);have:=h.lt r r1 _ r2;rw [Ae (by omega)]
      exact .inl ⟨(),rfl,trivial⟩)
    (λ_ _=>⟨_,by simp only [I3,AG,Aq,Aw,Ac],rfl⟩) (s:=()) trivial
   have e1':Av (λq:Int=>I3 s (BD s.Arena.Knots (i:Int)) q) 0=some d:=e1;rw [e1',e2];simp only [Aa,BA];rw [ad1 (by omega)]
   exact .inl ⟨(),rfl,trivial⟩)
  (λ_ _=>⟨_,by simp only [I4,AG,Aq,Aw,Ac],rfl⟩) (s:=()) trivial
 have q1':Av (λq:Int=>I4 s l q) 0=some c:=q1;rw [q1',q2];rfl
theorem VY (k:IntKind) (n:Nat) (h:n<=12) (hk:k= .u8\/k= .u64):k.wrap (n:Int)=(n:Int):=by
 have:n=0\/n=1\/n=2\/n=3\/n=4\/n=5\/n=6\/n=7\/n=8\/n=9\/n=10\/n=11\/n=12:=by omega
 rcases hk with rfl|rfl<;>rcases this with rfl|rfl|rfl|rfl|rfl|rfl|rfl|rfl|rfl|rfl|rfl|rfl|rfl<;>rfl
set_option maxRecDepth 20000 in
theorem Yr (n:Nat) (h:n<=12):∃v,TX (IntKind.u64.wrap (n:Int))=some v:=by
 rw [VY _ n h (.inr rfl)];unfold TX WU;generalize hT:(bs _)=T;have a:13<=(L T).length:=by rw [<-hT,DP];decide
 rw [Ae (by omega:¬(n:Int)>=4294967296),Ac];simp only [Aa];rw [Ae (by omega:¬(n:Int)>=65536),Ac];simp only [Aa];rw [Ae (by omega:¬(n:Int)>=256),Ac];simp only [Aa];rw [VY _ n h (.inl rfl),EM (i:=n) _ (by omega)];exact⟨_,rfl⟩
theorem nD {γ:Type} (a:γ->Int) (l:List γ) (hl:l.length<=12):∃r,On (ME a) l=some r/\srt a r/\Cj a l r:=by
 obtain⟨v,hv⟩:=Yr l.length hl;obtain⟨r,h1,h2,h3⟩:=Iz a [] l [] (by simp;omega);refine⟨r,?_,h2,h3⟩;unfold On;rw [BW,hv];simp only [Aa];unfold EA;rw [AA];simp only [FD];rw [C5 (by omega) (by omega),Ad (by omega:(l.length:Int)-0<=12),Af];have h1':BQ (ME a) l 0 (l.length:Int)=some r:=by simpa using h1
 rw [h1'];rfl
def r8 (l:List Vol) (v:Vol):List Vol:=(l.filter λw=>decide (w.Id<v.Id))++ [v]++l.filter λw=>decide (w.Id>v.Id)
theorem pT {l:List Vol} {v:Vol} (h:(l.map Vol.Id).Pairwise (·<·)) (hv:∀w∈l,w.Id≠v.Id) (hl:l.length<=3):On (ME Bg) (l++ [v])=some (r8 l v):=by
 have hk:∀x,Bg x=x.Id:=λ_=>rfl
 obtain⟨r,h1,h2,h3⟩:=nD Bg (l++ [v]) (by simp;omega);have hs:srt Bg (r8 l v):=by
  have:=Wt h v;rw [JA]at this
  exact this.imp λhh=>by rw [hk,hk];omega
 have:r=r8 l v:=by
  refine Om _ h2 hs λk=>?_
  rw [h3 k];unfold r8;rw [AQ,AQ,AQ,Ej,Ej]
  rcases Int.lt_trichotomy k v.Id with e|e|e
  ·have e1:[v].filter (λx=>Bg x==k)=[]:=by simp [hk];omega
   have e2:l.filter (λa=>(Bg a==k)&&decide (a.Id>v.Id))=[]:=by
    rw [B7];intro a _;simp [hk];omega
   have e3:l.filter (λa=>(Bg a==k)&&decide (a.Id<v.Id))=l.filter (λa=>Bg a==k):=by
    apply List.filter_congr;intro a _;rw [hk];by_cases q:a.Id=k
    ·rw [q];simp [e]
    simp [q]
   rw [e1,e2,e3];simp
  ·have e0:l.filter (λa=>Bg a==k)=[]:=by
    rw [B7];intro a ha;have:=hv a ha;simp [hk];omega
   have e2:l.filter (λa=>(Bg a==k)&&decide (a.Id>v.Id))=[]:=by
    rw [B7];intro a ha;have:=hv a ha;simp [hk];omega
   have e3:l.filter (λa=>(Bg a==k)&&decide (a.Id<v.Id))=[]:=by
    rw [B7];intro a ha;have:=hv a ha;simp [hk];omega
   rw [e0,e2,e3];simp
  have e1:[v].filter (λx=>Bg x==k)=[]:=by simp [hk];omega
  have e2:l.filter (λa=>(Bg a==k)&&decide (a.Id<v.Id))=[]:=by
   rw [B7];intro a _;simp [hk];omega
  have e3:l.filter (λa=>(Bg a==k)&&decide (a.Id>v.Id))=l.filter (λa=>Bg a==k):=by
   apply List.filter_congr;intro a _;rw [hk];by_cases q:a.Id=k
   ·rw [q];simp [e]
   simp [q]
  rw [e1,e2,e3];simp
 rw [h1,this]
theorem bK {r:Dk} (h:CV s) (hn:Er s r.Vol=some (-1)) (hv:∀v∈s.Vols,v.Id≠r.Vol) (h3:s.Vols.length≠3) {q:Int} (hq:(bif(decide (r.Arg>0))then((Er s r.Arg).bind λv1=>bif(decide (v1<0))then((DZ s).bind λv2=>some (.inr (v2,false)))else((gi s.Vols v1).bind λx1=>some (.inl x1.Root)))else(some (.inl (-1))):Option ((Int)⊕((Store×Bool))))=some (.inl q)):FE s r=some (Store.mk (r8 s.Vols (Vol.mk r.Vol q)) s.Arena s.Next,true):=by
 have hl:=h.len;have c:=KS h.ar (by have:=h.few;omega);have a:=FH s c (by omega);unfold FE;rw [hq,hn];simp only [Aa,BA];rw [Ae (by omega:¬(-1:Int)>=0),Ac,BW,show((s.Vols.length:Int)==3)=false by simp;omega];simp only [Aa,Ac];rw [a];simp only [Aa];have k1:=QV (body:=λq:List Vol×Int=>GR s r q.1 q.2) s.Vols (λv=>decide (v.Id<r.Vol)) [] (by simp;omega)
  (λi v b hv ho=>by
   have hi:=(Ag.1 hv).1;simp only [GR,AG,Ad hi,Af,AB,hv,Aa];rw [ad1 (by omega)]
   cases decide (v.Id<r.Vol)with
   |true=>simp only [Af];rw [Cq (by simp;omega)];rfl
   |false=>rfl)
  (λb=>by simp only [GR,AG,Aq,Aw,Ac])
 rw [A5]at k1;rw [k1];simp only [Aa];have d:=YE s.Vols r.Vol;rw [Cq (by simp;omega)];simp only [Aa];have k2:=QV (body:=λq:List Vol×Int=>GQ s r q.1 q.2) s.Vols (λv=>decide (v.Id>r.Vol)) ((s.Vols.filter λv=>decide (v.Id<r.Vol))++ [Vol.mk r.Vol q]) (by simp;omega)
  (λi v b hv ho=>by
   have hi:=(Ag.1 hv).1;simp only [GQ,AG,Ad hi,Af,AB,hv,Aa];rw [ad1 (by omega)]
   cases decide (v.Id>r.Vol)with
   |true=>simp only [Af];rw [Cq (by simp;omega)];rfl
   |false=>rfl)
  (λb=>by simp only [GQ,AG,Aq,Aw,Ac])
 rw [k2];rfl
theorem fT {r:Dk} (h:CV s) (hb:Gk r=true) (hk:r.Kind=2):∃t ok,FE s r=some (t,ok)/\E0 s r.Vol r.Arg=some (ok,t):=by
 have hl:=h.len;have c:=KS h.ar (by have:=h.few;omega);have a:=FH s c (by omega);have hr:=hb;unfold Gk at hr;rw [hk]at hr;simp at hr
 have b:∀id,QW s id=Er s id:=λ_=>rfl
 have root:(FE s r=some (s,false)/\E0 s r.Vol r.Arg=some (false,s))\/∃q,(bif(decide (r.Arg>0))then((Er s r.Arg).bind λv1=>bif(decide (v1<0))then((DZ s).bind λv2=>some (.inr (v2,false)))else((gi s.Vols v1).bind λx1=>some (.inl x1.Root)))else(some (.inl (-1))):Option ((Int)⊕((Store×Bool))))=some (.inl q)/\(bif(r.Arg !=0)then((Er s r.Arg).bind λv1=>bif(decide (v1<0))then(some (.inr (false,s)))else((gi s.Vols v1).bind λx1=>some (.inl x1.Root)))else(some (.inl (-1))):Option ((Int)⊕((Bool×Store))))=some (.inl q):=by
  unfold FE E0;by_cases h0:0<r.Arg
  ·rw [Ad (by omega:r.Arg>0),show(r.Arg !=0)=true by simp;omega,b];simp only [Af]
   rcases FY s (by omega) r.Arg with⟨h1,h2⟩|⟨k,v,h1,h2,h3,_⟩
   ·left;rw [h1,a];exact⟨rfl,rfl⟩
   right;rw [h1];refine⟨v.Root,?_,?_⟩
   ·simp only [Aa];rw [Ae (by omega),Ac,AB,h2];rfl
   simp only [Aa];rw [Ae (by omega),Ac,AB,h2];rfl
  right;rw [Ae (by omega:¬r.Arg>0),show(r.Arg !=0)=false by simp;omega];exact⟨-1,rfl,rfl⟩
 rcases root with⟨g1,g2⟩|⟨q,g1,g2⟩
 ·exact⟨s,false,g1,g2⟩
 rcases FY s (by omega) r.Vol with⟨h1,h2⟩|⟨k,v,h1,h2,h3,_⟩
 ·by_cases h3:s.Vols.length=3
  ·refine⟨s,false,?_,?_⟩
   ·unfold FE;rw [g1,h1];simp only [Aa,BA];rw [Ae (by omega:¬(-1:Int)>=0),Ac,BW,h3];simp only [Aa];rw [a];rfl
   unfold E0;rw [b,b,g2,h1];simp only [Aa,BA];rw [Ae (by omega:¬(-1:Int)>=0),Ac,BW,h3];rfl
  refine⟨_,true,bK h h1 h2 h3 g1,?_⟩;unfold E0;rw [b,b,g2,h1];simp only [Aa,BA];rw [Ae (by omega:¬(-1:Int)>=0),Ac,BW,Ae (by omega:¬(s.Vols.length:Int)>=3)];simp only [Aa,Ac];rw [Cq (by simp;omega)];simp only [Aa];rw [pT h.asc (v:=Vol.mk r.Vol q) h2 hl];rfl
 refine⟨s,false,?_,?_⟩
 ·unfold FE;rw [g1,h1];simp only [Aa,BA];rw [Ad (by omega:(k:Int)>=0),Af];simp only [Aa];rw [a];rfl
 unfold E0;rw [b,b,g2,h1];simp only [Aa,BA];rw [Ad (by omega:(k:Int)>=0),Af];rfl
theorem kR (h:CV s) (r:Dk):VN s r=QK s r:=by
 have hl:=h.len;have f:=KS h.ar (by have:=h.few;omega);have b:=FH s f (by omega);have d:=Qm s f (by omega)
 have j:∀id,QW s id=Er s id:=λ_=>rfl
 have g:QZ r=some (Gk r):=by
  obtain⟨v,a1,a2,_⟩:=gF r;rw [Ma]at a1;rw [a2,<-a1]
 have a:=Xp h r;unfold VN;rw [d,UP h,g];simp only [Aa,Ak,Ac]
 cases hb:Gk r with
 |false=>
  unfold KJ DY at a;rw [hb]at a;rw [a];simp only [AH,Af,Aa]
 |true=>
  simp only [Ak,Ac];have hr:=hb;unfold Gk at hr;unfold QK at a⊢;rw [PM h,Ma,hb]at a⊢;simp only [Aa,Ak,Ac]at a⊢;unfold Nx
  cases k1:(r.Kind==1)with
  |true=>
   have e1:r.Kind=1:=by simpa using k1
   rw [e1]at hr;simp at hr;simp only [Af,Aa,Ak,Ac];have hj:(bif(r.Arg==0)then(some 1)else(some r.Arg):Option (Int))=some (if 1>r.Arg then 1 else r.Arg):=by
    by_cases e:r.Arg=0
    ·rw [Au (by omega),e];rfl
    rw [Ax (by omega),show(r.Arg==0)=false by simpa using e];rfl
   rw [hj];simp only [Aa];have hP:CV (Store.mk [] (Arena.mk []) (if 1>r.Arg then 1 else r.Arg)):=by
    refine⟨⟨by simp,rfl,?_,by simp,by simp,by simp [B9],by simp [B9],by simp⟩,by simp⟩;show 1<=(if 1>r.Arg then 1 else r.Arg)/\(if 1>r.Arg then 1 else r.Arg)<=1000000000;split<;>omega
   rw [M5 hP.toStoreR,Wm hP];rfl
  |false=>
   simp only [Ac];rw [k1]at hr a;simp only [Ac]at a
   cases k2:(r.Kind==2)with
   |true=>
    rw [k2]at a;simp only [Af]at a⊢;obtain⟨t,ok,c1,c2⟩:=fT h hb (by simpa using k2);rw [c1]at a⊢;rw [c2];simp only [Aa]at a⊢;unfold KJ at a
    cases ok with
    |false=>
     split at a
     ·injection a with a
      injection a with a _
      simp only [AH,Af];rw [a]
     obtain⟨t',q,_⟩:=a
     injection q with q
     injection q with _ q
     cases q
    |true=>
     split at a
     ·injection a with a
      injection a with _ q
      cases q
     obtain⟨t',q,hP,_⟩:=a
     injection q with q
     injection q with q _
     subst q;simp only [Ak,Ac];have l:Store.mk t.Vols (Arena.mk t.Arena.Knots) t.Next=t:=rfl;rw [l,M5 hP.toStoreR,Wm hP];rfl
   |false=>
    simp only [Ac];rw [k2]at hr;rw [j]
    rcases FY s (by omega) r.Vol with⟨h1,h2⟩|⟨k,v,h1,h2,h3,_⟩
    ·rw [h1];simp only [Aa];rw [Ad (by omega:(-1:Int)<0),Af];simp only [Aa,Af,AH];rw [b];rfl
    rw [h1];simp only [Aa];rw [Ae (by omega:¬(k:Int)<0),Ac];simp only [Aa];have hm:=A6 h2;have m:=(Ag.1 h2).1
    cases hc:(r.Chunk==1000000000)with
    |true=>
     simp only [Af,Aa,AH];rw [b];rfl
    |false=>
     simp only [Ac];have n:r.Chunk≠1000000000:=by simpa using hc
     rw [b];simp only [Aa]
     cases k3:(r.Kind==3)with
     |true=>
      simp only [Af];rw [BW,ad1 (by omega)];have d1:dr s.Vols 0 (k:Int)=some (s.Vols.take k):=by
       unfold dr;rw [Au ⟨by omega,by omega,by omega⟩];simp
      have d2:dr s.Vols ((k+1:Nat):Int) (s.Vols.length:Int)=some (s.Vols.drop (k+1)):=by
       unfold dr;rw [Au ⟨by omega,by omega,by omega⟩,Ba,Ba,AP (by simp)]
      rw [d1,d2];simp only [Aa];rw [K9 (by simp;omega)];simp only [Aa];rw [Cq (by simp;omega),R9 h.asc h2,h3];simp only [Aa,Ak,Ac];have hR:=sO h r.Vol;rw [IG hR,M5 hR]
     |false=>
      simp only [Ac];rw [k3]at hr;have ha:0<=r.Arg/\r.Arg<16/\0<=r.Chunk/\r.Chunk<=1000000000:=by
       cases k4:(r.Kind==4)with
       |true=>rw [k4]at hr;simp at hr;omega
       |false=>rw [k4]at hr;simp at hr;omega
      obtain⟨t,ht⟩:∃t:Nat,r.Arg=(t:Int):=⟨_,(Bq ha.1).symm⟩;have c:=h.root _ (AJ.2 ⟨v,hm,rfl⟩);rw [AB,h2];simp only [Aa];rw [ht,W5 _ (by have:=h.few;omega) h.ar c (by omega) ha.2.2.1,jI _ (by have:=h.few;omega) h.ar c (by omega) ha.2.2.1];simp only [Aa,Ak,Ac];rw [Ey,Cx (by omega) (by omega)];have hR:=xE h h2 (show t<16 by omega) ha.2.2.1 (show r.Chunk+1<=1000000000 by omega);by_cases i:r.Chunk>=s.Next
      ·rw [Ad i,Au (by omega:r.Chunk+1>s.Next)];rw [show max s.Next (r.Chunk+1)=r.Chunk+1 by omega]at hR;simp only [Af];rw [IG hR,M5 hR]
      rw [Ae i,Ax (by omega:¬r.Chunk+1>s.Next)];rw [show max s.Next (r.Chunk+1)=s.Next by omega]at hR;simp only [Ac];rw [IG hR,M5 hR]
def JR (r:List A4) (c:Int):Option A4:=(r.filter (JS c)).getLast?
noncomputable def RE (t:ByteArray):Option ByteArray:=match FI t with
 |some (s,true)=>some s
 |_=>none
noncomputable def CO (r:List A4) (c:Int):Option ByteArray:=(JR r c).bind λy=>RE y.Page.Text
theorem Qj:JS c y=true↔y.Page.Kind=1/\y.Page.Tx=c:=by
 unfold JS;rw [Al,Dn,Dn]
theorem SY (h:JR r c=some y):y∈r/\y.Page.Kind=1/\y.Page.Tx=c:=by
 have:=List.mem_of_getLast? h;rw [AU,Qj]at this;exact this
theorem Ll (r:List A4) (y:A4) (c:Int):JR (r++ [y]) c=if y.Page.Kind=1/\y.Page.Tx=c then some y else JR r c:=by
 unfold JR;rw [AQ];by_cases e:y.Page.Kind=1/\y.Page.Tx=c
 ·rw [Au e,BM (Qj.2 e),FW,Pq]
 rw [Ax e,BN (λhh=>e (Qj.1 hh)),FW,A0]
theorem Zd (r m:List A4) (h:∀y∈m,y.Page.Kind≠1) (c:Int):JR (r++m) c=JR r c:=by
 unfold JR;rw [AQ,B7.2 (λy hy hh=>h y hy (Qj.1 hh).1),A0]
theorem Xj {α:Type} {y:α} (l:List α) (p:α->Bool) (h:l.getLast? =some y) (hp:p y=true):(l.filter p).getLast? =some y:=by
 rcases GV l with e|⟨m,x,e⟩
 ·rw [e]at h;cases h
 rw [GW]at e;rw [e,Pq]at h
 injection h with h
 subst h;rw [e,AQ,BM hp,FW,Pq]
theorem eX (p:A4->Bool) (h:JR r c=some y) (hp:p y=true):JR (r.filter p) c=some y:=by
 unfold JR at h⊢;rw [Ej];have:r.filter (λa=>JS c a&&p a)=(r.filter (JS c)).filter p:=by
  rw [Ej];congr 1;funext a;exact Bool.and_comm _ _
 rw [this];exact Xj _ p h hp
theorem WQ {o:Option Nat} (h:Pw c r r.length o):JR r c=o.bind λj=>r[j]? :=by
 cases o with
 |none=>
  unfold JR;have:r.filter (JS c)=[]:=by
   rw [B7];intro y hy;obtain⟨j,hj,rfl⟩:=AF hy;have:=h j r[j] hj (Ab hj);rw [this];simp
  rw [this];rfl
 |some j=>
  obtain⟨h1,⟨y,h2,h3⟩,h4⟩:=h;simp only [Aa,h2];unfold JR;obtain⟨e1,e2⟩:=Jb h2;rw [e1,AQ,BM h3];have:(r.drop (j+1)).filter (JS c)=[]:=by
   rw [B7];intro z hz;obtain⟨k,hk,rfl⟩:=AF hz;rw [B6]at hk;rw [Sq];have:=h4 (j+1+k) _ (by omega) (by omega) (Ab (by omega));rw [this];simp
  rw [this,Pq]
theorem iM (hr:r.length<=1048576) (c:Int):∃y ok,KY r c=some (y,ok)/\JR r c=(if ok=true then some y else none):=by
 obtain⟨o,h1,h2⟩:=Zc r hr c;have h3:=WQ h2
 cases o with
 |none=>exact⟨_,false,h1,h3⟩
 |some j=>
  obtain⟨_,⟨y,k1,_⟩,_⟩:=h2;refine⟨y,true,?_,by rw [h3];simp only [Aa,k1];rfl⟩;rw [h1];simp only [K3,k1,Bw];rfl
theorem W2 (hr:Ge r) (c:Int):∃u ok,Km r c=some (u,ok)/\CO r c=(if ok=true then some u else none):=by
 obtain⟨y,ok,h1,h2⟩:=iM hr.len c;unfold Km CO;rw [h1,h2]
 cases ok with
 |false=>exact⟨_,_,rfl,rfl⟩
 |true=>
  have hy:=(SY (by rw [h2];rfl)).1;obtain⟨u,ok2,k1,_,_⟩:=RC y.Page.Text (by have:=hr.text y hy;omega);simp only [Aa,Ak,Ac,BX];rw [k1];unfold RE;rw [k1]
  cases ok2 with
  |false=>exact⟨_,_,rfl,rfl⟩
  |true=>exact⟨_,_,rfl,rfl⟩
structure IS (r:List A4):Prop where
 pages:Ge r
 inc:r.Pairwise λx y=>x.Page.Seq<y.Page.Seq
 mu:gL r
def EB (l:Vs) (c:Int):Prop:=0<c/\∃p∈l,c∈p.2
structure GI (r:List A4) (P:Int->Prop):Prop where
 data:∀c,P c->∃s,CO r c=some s
 dist:∀c c',P c->P c'->CO r c=CO r c'->c=c'
theorem GI.mono {Q:Int->Prop} (h:GI r P) (hq:∀c,Q c->P c):GI r Q:=⟨λc hc=>h.data c (hq c hc),λc c' hc hc'=>h.dist c c' (hq c hc) (hq c' hc')⟩
theorem GI.congr (h:GI r P) (he:∀c,P c->CO r' c=CO r c):GI r' P:=⟨λc hc=>by rw [he c hc];exact h.data c hc,λc c' hc hc' e=>h.dist c c' hc hc' (by rw [<-he c hc,<-he c' hc'];exact e)⟩
theorem GI.metas {m:List A4} (h:GI r P) (hm:∀y∈m,y.Page.Kind≠1):GI (r++m) P:=h.congr λc _=>by unfold CO;rw [Zd r m hm]
theorem gP (h:GI r P) (hy:¬P y.Page.Tx):GI (r++ [y]) P:=h.congr λc hc=>by
 unfold CO;rw [Ll,Ax (λhh=>hy (by rw [hh.2];exact hc))]
theorem gQ (h:GI r P) (hy:RE y.Page.Text=CO r y.Page.Tx):GI (r++ [y]) P:=h.congr λc hc=>by
 by_cases e:y.Page.Kind=1/\y.Page.Tx=c
 ·have:CO (r++ [y]) c=RE y.Page.Text:=by unfold CO;rw [Ll,Au e];rfl
  rw [this,hy,e.2]
 unfold CO;rw [Ll,Ax e]
theorem pA {s:ByteArray} (h:GI r P) (hk:y.Page.Kind=1) (hn:¬P y.Page.Tx) (ht:RE y.Page.Text=some s) (hs:∀c,P c->CO r c≠some s):GI (r++ [y]) (λc=>P c\/c=y.Page.Tx):=by
 have b:CO (r++ [y]) y.Page.Tx=some s:=by unfold CO;rw [Ll,Au ⟨hk,rfl⟩];exact ht
 have a:∀c,P c->CO (r++ [y]) c=CO r c:=λc hc=>by unfold CO;rw [Ll,Ax (λhh=>hn (by rw [hh.2];exact hc))]
 refine⟨λc hc=>?_,λc c' hc hc' e=>?_⟩
 ·rcases hc with hc|rfl
  ·rw [a c hc];exact h.data c hc
  exact⟨s,b⟩
 rcases hc with hc|rfl<;>rcases hc' with hc'|rfl
 ·exact h.dist c c' hc hc' (by rw [<-a c hc,<-a c' hc'];exact e)
 ·rw [a c hc,b]at e;exact absurd e (hs c hc)
 ·rw [a c' hc',b]at e;exact absurd e.symm (hs c' hc')
 rfl
theorem IS.filter (h:IS r) (p:A4->Bool):IS (r.filter p):=by
 refine⟨⟨by have:=CF p r;have:=h.pages.len;omega,λy hy=>h.pages.text y (AU.1 hy).1,λy hy=>h.pages.seq y (AU.1 hy).1,λy hy=>h.pages.tx y (AU.1 hy).1,λy hy=>h.pages.cnt y (AU.1 hy).1,λy hy=>h.pages.part y (AU.1 hy).1⟩,h.inc.filter _,⟨λy hy z hz=>h.mu.uniq y (AU.1 hy).1 z (AU.1 hz).1⟩⟩
theorem IS.add (h:IS r) (hl:r.length<=1000000) (hb:GS y.Page) (hs:Da r<=y.Page.Seq) (hm:y.Page.Kind=2->∀z∈r,z.Page.Kind=2->z.Page.Tx=y.Page.Tx->z.Page.Part≠y.Page.Part):IS (r++ [y]):=by
 obtain⟨b1,b2,b3,b4,b5,b6,b7⟩:=hb
 have all:∀{P:A4->Prop},(∀z∈r,P z)->P y->∀z∈r++ [y],P z:=λh1 h2 z hz=>by
  rw [Ai,Ay]at hz
  rcases hz with hz|rfl
  ·exact h1 z hz
  exact h2
 refine⟨⟨by simp;omega,all h.pages.text b6,all h.pages.seq b2,all h.pages.tx b3,all h.pages.cnt b4,all h.pages.part b5⟩,?_,⟨λu hu v hv k1 k2 e1 e2=>?_⟩⟩
 ·rw [B3];refine⟨h.inc,Mg _ _,λu hu v hv=>?_⟩;rw [Ay]at hv;rw [hv];have:=(Mn r).1 u hu;omega
 rw [Ai,Ay]at hu hv
 rcases hu with hu|rfl<;>rcases hv with hv|rfl
 ·exact h.mu.uniq u hu v hv k1 k2 e1 e2
 ·exact absurd e2 (hm k2 u hu k1 e1)
 ·exact absurd e2.symm (hm k1 v hv k2 e1.symm)
 rfl
theorem TK (h:Da r<=y.Page.Seq):Da (r++ [y])=y.Page.Seq+1:=by rw [V7,Au h]
theorem IS.metas {t:Int} (h:IS r) (ht:∀y∈r,y.Page.Kind=2->y.Page.Tx<t):∀(m:List A4) (k:Nat),r.length+m.length<=1000000->(∀(i:Nat) y,m[i]?=some y->y.Page.Kind=2/\y.Page.Tx=t/\y.Page.Part=i/\y.Page.Seq=Da r+i/\GS y.Page)->k<=m.length->IS (r++m.take k)/\Da (r++m.take k)=Da r+k
 |m,0,_,_,_=>by simpa using h
 |m,k+1,hl,hm,hk=>by
  obtain⟨ih1,ih2⟩:=IS.metas h ht m k hl hm (by omega);have hx:m[k]?=some m[k]:=Ab (by omega);obtain⟨k1,k2,k3,k4,k5⟩:=hm k _ hx;rw [Ap (by omega),<-Ao];refine⟨IS.add ih1 (by simp;omega) k5 (by rw [ih2,k4];omega) (λ_ z hz a b=>?_),?_⟩
  ·rcases Ai.1 hz with hz|hz
   ·have:=ht z hz a;omega
   obtain⟨j,hj,rfl⟩:=AF hz;rw [AE]at hj;rw [JB];obtain⟨_,_,q3,_⟩:=hm j _ (Ab (by omega));omega
  rw [TK (by rw [ih2,k4];omega),k4];omega
theorem lW (i:Int):∀(k:Int) (l:List Leaf),(UL i k l).length<=l.length
 |_,[]=>A3 _
 |k,x::l=>by
  rw [UL,Ah,Az];have:=lW i (k+1) l;have:(pg i k x).length<=1:=by
   unfold pg;split
   ·split<;>simp
   simp
  omega
theorem l9:∀(i:Int) (l:List Block),(JQ i l).length<=nl l
 |_,[]=>A3 _
 |i,b::l=>by
  rw [JQ,Ah];have:=l9 (i+1) l;have:=lW i 0 b.Leaves;unfold nl at*;rw [B8,E7];omega
theorem zM (hf:BL f) (h:SR (JQ 0 f.Blocks) r):r.length<=40:=by
 have h1:=l9 0 f.Blocks;have h2:=hf.few;have h3:=h.2.len;omega
theorem K2:∀{ss:List BY} {ps:List Page} {i:Nat} {y:A4},(Cu ss ps)[i]?=some y->ps[i]?=some y.Page
 |[],_,i,y,h=>by simp [Cu]at h
 |s::ss,[],i,y,h=>by simp [Cu]at h
 |s::ss,p::ps,0,y,h=>by
  simp only [Cu,List.zipWith_cons_cons,Cw,Aj]at h;rw [<-h];rfl
 |s::ss,p::ps,i+1,y,h=>by
  simp only [Cu,List.zipWith_cons_cons,List.getElem?_cons_succ]at h⊢;exact K2 h
theorem Se {ss:List BY} (h:ss.length=ps.length):(Cu ss ps).length=ps.length:=by unfold Cu;rw [List.length_zipWith];omega
theorem UT (ss:List BY) (ps:List Page) (k:Nat):Cu (ss.take k) (ps.take k)=(Cu ss ps).take k:=by unfold Cu;rw [List.take_zipWith]
theorem fY:∀(T:List ByteArray),(∀t∈T,(L t).length<=90)->(MH T).length<=90*T.length
 |[],_=>by simp [MH]
 |t::T,h=>by
  have:=fY T (λx hx=>h x (by simp [hx]));have:=h t (by simp);simp only [MH,H9,Ah,Az]at*;omega
theorem Zg {r1 m:List A4} (h:IS r1) (hl:r1.length<=1000) {a:List Dk} (g:1<=T.length) (j:T.length<=9) (c:∀t∈T,(L t).length<=90) (d:MH T=G7 a) (l:∀r∈a,Gk r=true) (hm:∀(i:Nat) y,m[i]?=some y->(Cd (Da r1) (D0 r1) T)[i]?=some y.Page) (o:m.length=T.length) (n:∀p∈Cd (Da r1) (D0 r1) T,GS p) (k:Nat) (hk:k<=T.length):
  IS (r1++m.take k)/\(∀y∈m.take k,y.Page.Kind≠1)/\(k<T.length->Bx (r1++m.take k)=Bx r1)/\(k=T.length->∃q,Bx (r1++m.take k)=Bx r1++ [Tx.mk (D0 r1) q a]):=by
 have e:∀(i:Nat) y,m[i]?=some y->∃t,T[i]?=some t/\y.Page=Page.mk 2 (Da r1+i) (D0 r1) i T.length t:=by
  intro i y hy;have:=hm i y hy;unfold Cd at this;rw [Ka]at this;obtain⟨t,h1,h2⟩:=AY.1 this;exact⟨t,h1,h2.symm⟩
 have b:=TC r1
 obtain⟨c1,_⟩:=IS.metas h b.1 m k (by omega) (λi y hy=>by
  obtain⟨t,_,h2⟩:=e i y hy;have hb:=n y.Page (A6 (hm i y hy));rw [h2]at hb⊢
  exact⟨rfl,rfl,rfl,rfl,hb⟩) (by omega)
 have hN:ZH (m.take k) (D0 r1) T.length T:=by
  refine⟨by rw [AE];omega,⟨g,j⟩,rfl,λi y hy=>?_⟩;have f:=(Ag.1 hy).1;rw [AE]at f;rw [List.getElem?_take_of_lt (by omega)]at hy;obtain⟨t,h1,h2⟩:=e i y hy;rw [h2];exact⟨rfl,rfl,rfl,rfl,h1⟩
 obtain⟨g1,g2⟩:=jM r1 (λy hy=>(h.pages.tx y hy).1) b.1 b.2.1 hN;refine⟨c1,λy hy=>by rw [(hN.all hy).1];omega,λhh=>g1 (by rw [AE];omega),λhh=>g2 (by rw [AE];omega) a ?_⟩;rw [d];refine iN l ?_;have:=fY T c;rw [d]at this;omega
structure L8 (d:Bc) (r:List A4):Prop where
 dev:Lv d r
 core:IS r
 data:GI r (EB (BK d.Store))
theorem L8.few (h:L8 d r):r.length<=40:=zM h.dev.fl h.dev.sr
theorem Lq (hg:BL g) (a:SR (JQ 0 g.Blocks) r):∃d,CP g=some (d,true)/\Lv d r/\d.Flash=g:=by
 obtain⟨d,r',h1,h2,h3⟩:=SJ hg;have:r'=r:=by
  have h4:=h2.sr;rw [h3]at h4;exact h4.uniq a
 subst this;exact⟨d,h1,h2,h3⟩
theorem RA (seq tx:Int) (T:List ByteArray):FU seq (Cd seq tx T):=by
 have a:∀(l:List ByteArray) (i:Nat) (n:Int),n<=seq+i->FU n (l.mapIdx λj t=>Page.mk 2 (seq+(i+j:Nat)) tx (i+j:Nat) T.length t):=by
  intro l
  induction l with
  |nil=>intro i n _;trivial
  |cons x l ih=>
   intro i n hn;rw [List.mapIdx_cons];refine⟨by simpa using hn,?_⟩;have:=ih (i+1) (seq+(i:Int)+1) (by omega);simp only [Gl]
   have e:(λj t=>Page.mk 2 (seq+((i+1+j:Nat):Int)) tx ((i+1+j:Nat):Int) T.length t)=λj (t:ByteArray)=>Page.mk 2 (seq+((i+(j+1):Nat):Int)) tx ((i+(j+1):Nat):Int) T.length t:=by
    funext j t;rw [show i+1+j=i+(j+1) by omega]
   rw [e]at this;exact this
 have:=a T 0 seq (by omega);unfold Cd;simpa using this
theorem jX (c:Int) (a:ByteArray) (tx:Int) (T:List ByteArray):FU d.Seq (C9 d c a++Cd (Fo d a) tx T):=by
 unfold C9 Fo;by_cases e:L a=[]
 ·rw [Au e,Au e,A5];exact RA _ _ _
 rw [Ax e,Ax e];exact⟨EG _,RA _ _ _⟩
theorem Lk (ss:List BY) (ps:List Page) (k:Nat):∀y∈(Cu ss ps).take k,y.Page∈ps:=by
 intro y hy;obtain⟨i,hi,rfl⟩:=AF (List.mem_of_mem_take hy);exact A6 (K2 (Ab hi))
def IA (f:Flash) (n:Int):Prop:=∀b∈f.Blocks,b.Wear<=n
theorem kX {l:List Block} {n b:Int} {x:Block} (h:∀y∈l,y.Wear<=n) (hx:x.Wear<=n):∀y∈si l b x,y.Wear<=n:=by
 intro y hy;by_cases e:0<=b
 ·obtain⟨c,rfl⟩:∃c:Nat,b=(c:Int):=⟨_,(Bq e).symm⟩;rw [Ey]at hy
  rcases CN hy with hy|rfl
  ·exact h y hy
  exact hx
 unfold si at hy
 first
  |(rw [Ax (by omega)]at hy;exact h y hy)
  |(
   rcases CN hy with hy|rfl
   ·exact h y hy
   exact hx)
theorem YB {s:BY} {n m:Int} (h:IA f n) (hm:n<=m) (hs:s.Kind=1\/n+1<=m):IA (Ji f s) m:=by
 have h0:∀y∈f.Blocks,y.Wear<=m:=λy hy=>by have:=h y hy;omega
 unfold Ji prog Sv IA;by_cases e:s.Kind=1
 ·rw [Au e]
  cases hg:gi f.Blocks s.Block with
  |none=>exact h0
  |some x=>exact kX h0 (h0 x (A6 (D6 hg).2))
 rw [Ax e]
 cases hg:gi f.Blocks s.Block with
 |none=>exact h0
 |some x=>exact kX h0 (by have:=h x (A6 (D6 hg).2);show x.Wear+1<=m;omega)
theorem Sl {n:Int}:∀{f:Flash} {ss:List BY} {ps:List Page} {g:Flash},FV f ss ps g->IA f n->IA g n
 |f,[],[],g,h,hw=>by rw [show g=f from h];exact hw
 |f,s::ss,p::ps,g,h,hw=>Sl h.2.2.2 (YB hw (EG _) (.inl h.1))
 |f,[],q::ps,g,h,_=>h.elim
 |f,s::ss,[],g,h,_=>h.elim
theorem Po:∀{f:Flash} {ss:List BY} {ps:List Page} {g:Flash},FV f ss ps g->∀s∈ss,s.Kind=1
 |f,[],[],g,h,s,hs=>by cases hs
 |f,s::ss,p::ps,g,h,x,hs=>by
  rcases BB.1 hs with rfl|hs
  ·exact h.1
  exact Po h.2.2.2 x hs
 |f,[],q::ps,g,h,_,_=>h.elim
 |f,s::ss,[],g,h,_,_=>h.elim
def Wb (f g:Flash):Prop:=∀n,IA f n->IA g n
theorem N1 (h:L8 d r) {l:List Dk} (w:∀r∈l,Gk r=true) {a:ByteArray} {last:Dk} {steps:List BY} (x:1<=T.length) (z:T.length<=9) (h0:MH T=G7 l) (v:∀t∈T,(L t).length<=90) (hp:FV d.Flash steps (C9 d last.Chunk a++Cd (Fo d a) d.Tx T) g) (j:∀p∈C9 d last.Chunk a++Cd (Fo d a) d.Tx T,GS p) (h1:L a≠ []->¬EB (BK d.Store) last.Chunk) (k:Nat) (hk:k<=steps.length):
  ∃m d' r',Steps d.Flash (steps.take k) m/\BL m/\CP m=some (d',true)/\Lv d' r'/\d'.Flash=m/\r'=r++(Cu steps (C9 d last.Chunk a++Cd (Fo d a) d.Tx T)).take k/\Wb d.Flash m/\IS r'/\GI r' (EB (BK d.Store))/\
   (k<steps.length->Bx r'=Bx r)/\(k=steps.length->(∃q,Bx r'=Bx r++ [Tx.mk d.Tx q l])/\∀s,RE a=some s->L a≠ []->(∀c,EB (BK d.Store) c->CO r c≠some s)->GI r' (λc=>EB (BK d.Store) c\/c=last.Chunk)):=by
 obtain⟨a7,b⟩:=E6 hp;obtain⟨m,hm⟩:=Sm k hp;obtain⟨h2,_⟩:=E6 hm;have h3:=VV h.dev.fl h2;have a6:=h.few
 have h4:∀y∈r,y.Page.Seq<d.Seq:=λy hy=>by rw [h.dev.seq];exact(Mn r).1 y hy
 have h5:=jX (d:=d) last.Chunk a d.Tx T;have ascT:∀(ps:List Page) (n:Int) (k:Nat),FU n ps->FU n (ps.take k):=by
  intro ps
  induction ps with
  |nil=>intro n k _;simp [FU]
  |cons p ps ih=>
   intro n k ha
   cases k with
   |zero=>trivial
   |succ k=>exact⟨ha.1,ih _ k ha.2⟩
 have h6:=X9 h.dev.fl h.dev.sr hm h4 (ascT _ _ k h5);rw [UT]at h6;obtain⟨d',u1,u2,u3⟩:=Lq h3 h6;refine⟨m,d',r++(Cu steps (C9 d last.Chunk a++Cd (Fo d a) d.Tx T)).take k,h2,h3,u1,u2,u3,rfl,λ_=>Sl hm,?_⟩;have u:(Cd (Fo d a) d.Tx T).length=T.length:=by unfold Cd;rw [DL]
 have o:=Se b;by_cases e:L a=[]
 ·
  have e1:C9 d last.Chunk a=[]:=by unfold C9;rw [Au e]
  have e2:Fo d a=d.Seq:=by unfold Fo;rw [Au e]
  rw [e1,e2,A5]at o b j⊢;rw [e2]at u;rw [h.dev.seq,h.dev.tx]at o b j u⊢;obtain⟨a1,a2,a3,a4⟩:=Zg h.core (by omega) x z v h0 w (m:=Cu steps (Cd (Da r) (D0 r) T)) (λi y hy=>K2 hy) (by omega) j k (by omega);exact⟨a1,h.data.metas a2,λhh=>a3 (by omega),λhh=>⟨a4 (by omega),λs _ h8=>absurd e h8⟩⟩
 have e1:C9 d last.Chunk a=[Page.mk 1 d.Seq last.Chunk 0 1 a]:=by unfold C9;rw [Ax e]
 have e2:Fo d a=d.Seq+1:=by unfold Fo;rw [Ax e]
 rw [e1,e2]at o b j⊢;rw [e2]at u;rw [BS]at o b j⊢;rw [Az]at b o
 match hsteps:steps,b with
 |[],b=>simp at b
 |s0::ss,b=>
  have ef:Cu (s0::ss) (Page.mk 1 d.Seq last.Chunk 0 1 a::Cd (d.Seq+1) d.Tx T)=A4.mk s0.Block s0.Leaf (Page.mk 1 d.Seq last.Chunk 0 1 a)::Cu ss (Cd (d.Seq+1) d.Tx T):=rfl;rw [ef]
  cases k with
  |zero=>
   rw [GO,A0];exact⟨h.core,h.data,λ_=>rfl,λhh=>by simp at hh⟩
  |succ k=>
   rw [Lu];generalize h9:A4.mk s0.Block s0.Leaf (Page.mk 1 d.Seq last.Chunk 0 1 a)=y0;have f:y0.Page=Page.mk 1 d.Seq last.Chunk 0 1 a:=by rw [<-h9]
   have c1:IS (r++ [y0]):=IS.add h.core (by omega) (by rw [f];exact j _ (by simp)) (by rw [f,h.dev.seq];exact EG _) (λhh=>by rw [f]at hh;simp at hh);have g1:Bx (r++ [y0])=Bx r:=UQ r (by rw [f];simp);have s1:Da (r++ [y0])=d.Seq+1:=by rw [TK (by rw [f,h.dev.seq];exact EG _),f]
   have t1:D0 (r++ [y0])=d.Tx:=by rw [Q8,Ax (by rw [f];simp),h.dev.tx]
   have h7:∀p∈Cd (d.Seq+1) d.Tx T,GS p:=λp hp=>j p (by simp [hp])
   have a0:(Cu ss (Cd (d.Seq+1) d.Tx T)).length=T.length:=by rw [Se (by simp at b;omega),u]
   rw [List.append_cons];obtain⟨a1,a2,a3,a4⟩:=Zg c1 (by simp;omega) x z v h0 w (m:=Cu ss (Cd (d.Seq+1) d.Tx T)) (by rw [s1,t1];exact λi y hy=>K2 hy) a0 (by rw [s1,t1];exact h7) k (by simp at hk b;omega);have dz:GI (r++ [y0]) (EB (BK d.Store)):=gP h.data (by rw [f];exact h1 e);rw [g1,t1]at a4;rw [g1]at a3;have a8:ss.length=T.length:=by simp at b;omega
   refine⟨a1,dz.metas a2,λhh=>a3 (by simp at hh;omega),λhh=>⟨a4 (by simp at hh;omega),λs hs _ a5=>?_⟩⟩;have:=pA h.data (y:=y0) (s:=s) (by rw [f]) (by rw [f];exact h1 e) (by rw [f];exact hs) a5;rw [f]at this;exact this.metas a2
theorem sW (h:CV s):jY s.Arena:=by unfold jY;have:=h.few;omega
theorem rG (h:CV s) (x:Int):x∈bF s s.Vols.length↔∃p∈BK s,x∈p.2:=by
 unfold bF BK;rw [AL];simp only [List.mem_flatten,AJ]
 have a:∀v∈s.Vols,(IV s.Arena v.Root).getD []=E9 s.Arena.Knots v.Root:=λv hv=>by
  rw [Mw _ (by have:=h.few;omega) h.ar (h.root _ (AJ.2 ⟨v,hv,rfl⟩))];rfl
 constructor
 ·rintro⟨l,⟨v,hv,rfl⟩,hx⟩;rw [a v hv]at hx;exact⟨_,⟨v,hv,rfl⟩,hx⟩
 rintro⟨p,⟨v,hv,rfl⟩,hx⟩;exact⟨_,⟨v,hv,rfl⟩,by rw [a v hv];exact hx⟩
theorem O0 (h:CV s):∃l,Lf s=some l/\asc l/\(∀x,x∈l↔EB (BK s) x)/\l.length<=16777216:=by
 have:=h.len;obtain⟨l,h1,h2,h3⟩:=eC s (by omega) (sW h);refine⟨l,h1,h2.1,λx=>?_,h3⟩;rw [h2.2 x,rG h];unfold EB;exact And.comm
theorem VI (h:CV s) (hc:EB (BK s) c):0<c/\c<s.Next:=by
 obtain⟨h0,p,hp,hx⟩:=hc;unfold BK at hp;obtain⟨v,hv,rfl⟩:=AJ.1 hp;exact⟨h0,h.lt _ (AJ.2 ⟨v,hv,rfl⟩) c hx⟩
def HX (r:List A4) (a:List Int) (b:Int):List Bool:=a.foldl (mH r) (r.map (Fs b))
theorem QS (r:List A4) (a:List Int) (b:Int):(HX r a b).length=r.length:=by unfold HX;rw [fM,Be]
theorem TU (r:List A4) (a:List Int) (b:Int) (hy:r[j]?=some y):(HX r a b)[j]?=some (Fs b y||a.any (λc=>dI c r r.length==some j)):=by
 unfold HX;rw [eY,AN,hy];rfl
theorem uJ (h:dI c r r.length=some j):JR r c=r[j]? :=by
 rw [WQ (Wi c r r.length (A3 _)),h];rfl
theorem vK (h:JR r c=some y):∃j,dI c r r.length=some j/\r[j]?=some y:=by
 have:=WQ (Wi c r r.length (A3 _));rw [h]at this
 cases ht:dI c r r.length with
 |none=>rw [ht]at this;cases this
 |some j=>rw [ht]at this;exact⟨j,rfl,this.symm⟩
theorem mV {p:Nat->Bool} (h:cn n p=0):∀j,j<n->p j=false:=by
 intro j hj;unfold cn at h;have:=List.length_eq_zero_iff.1 h;rw [B7]at this;have:=this j (I9.2 hj);simpa using this
theorem vA {a:List Int} {d b:Int} (h:cn r.length (λj=>(HX r a d)[j]?.getD false&&bk r b j)=0):∀y∈r,y.Block=b->(y.Page.Kind=2->y.Page.Tx<d)/\∀c∈a,JR r c≠some y:=by
 intro y hy hb;obtain⟨j,hj,rfl⟩:=AF hy;have hx:=Ab hj;have h1:=mV h j hj;rw [TU r a d hx]at h1;have h2:bk r b j=true:=by unfold bk;rw [hx];simpa using hb
 rw [h2,dD,Bw,Pr]at h1;refine⟨λhk=>?_,λc hc hn=>?_⟩
 ·have:=h1.1;unfold Fs at this;rw [show(r[j].Page.Kind==2)=true by simpa using hk,CJ,AX]at this;omega
 
 obtain⟨i,i1,i2⟩:=vK hn;have h3:=h1.2;rw [List.any_eq_false]at h3;have h4:=h3 c hc;rw [i1]at h4;by_cases e:i=j
 ·rw [e]at h4;simp at h4
 
 have hi:=(Ag.1 i2).1;have h5:=mV h i hi;rw [TU r a d i2]at h5;have h6:bk r b i=true:=by unfold bk;rw [i2];simpa using hb
 rw [h6,dD,Bw,Pr,List.any_eq_false]at h5;have:=h5.2 c hc;rw [i1]at this;simp at this
theorem WE (h:Lv d r):∃l,LN d=some l/\l.length<=10/\∀b∈l,∃x,gi d.Flash.Blocks b=some x/\x.Bad=false/\∀y∈r,y.Block=b->(y.Page.Kind=2->y.Page.Tx<d.Base)/\∀c,EB (BK d.Store) c->JR r c≠some y:=by
 obtain⟨a,l1,l2,l3,l4⟩:=O0 h.st;have hn:=h.fl.n;unfold LN;rw [h.scan.s,l1];simp only [Aa];rw [VH r a d.Base h.scan.len l4];simp only [Aa];have f:a.foldl (mH r) (r.map (Fs d.Base))=HX r a d.Base:=rfl;rw [f];obtain⟨b,q1,q2⟩:=Bf (body:=λs:List Int×Int=>F5 d r (HX r a d.Base) s.1 s.2) (λ(o:List Int) i=>(o,i)) d.Flash.Blocks.length
  (λi o=>o.length<=i/\∀b∈o,∃x,gi d.Flash.Blocks b=some x/\x.Bad=false/\∀y∈r,y.Block=b->(y.Page.Kind=2->y.Page.Tx<d.Base)/\∀c,EB (BK d.Store) c->JR r c≠some y)
  (λo=>o.length<=10/\∀b∈o,∃x,gi d.Flash.Blocks b=some x/\x.Bad=false/\∀y∈r,y.Block=b->(y.Page.Kind=2->y.Page.Tx<d.Base)/\∀c,EB (BK d.Store) c->JR r c≠some y)
  (λo i hi ho=>by
   have hx:=Ab hi;have hP:=h.fl.blk _ (AC hi);obtain⟨nbl,_,bl⟩:=tA d.Flash.Blocks[i] (by rw [hP.four];omega);simp only [F5,AG,Ad hi,Af,AB,hx,Aa];rw [bl,qY r _ (i:Int) h.scan.len (QS _ _ _),ad1 (by omega)];simp only [Aa];refine .inl ?_
   cases e:d.Flash.Blocks[i].Bad with
   |true=>exact⟨o,rfl,by omega,ho.2⟩
   |false=>
    simp only [AH,Af]
    cases k:(!(!decide (nbl<ln d.Flash.Blocks[i].Leaves)))with
    |false=>exact⟨o,rfl,by omega,ho.2⟩
    |true=>
     simp only [Af,Aa]
     cases hz:((((cn r.length (λj=>(HX r a d.Base)[j]?.getD false&&bk r (i:Int) j):Nat)):Int)==0)with
     |false=>exact⟨o,rfl,by omega,ho.2⟩
     |true=>
      simp only [Af];have:=ho.1;rw [Cq (by simp;omega)];refine⟨_,rfl,by simp;omega,λb hb=>?_⟩;rw [Ai,Ay]at hb
      rcases hb with hb|rfl
      ·exact ho.2 b hb
      refine⟨_,by rw [AB];exact hx,e,λy hy g=>?_⟩;have hz':cn r.length (λj=>(HX r a d.Base)[j]?.getD false&&bk r (i:Int) j)=0:=by
       rw [Dn]at hz;omega
      obtain⟨a1,a2⟩:=vA hz' y hy g
      exact⟨a1,λc hc=>a2 c ((l3 c).2 hc)⟩)
  (λo ho=>⟨o,by simp only [F5,AG,Aq,Aw,Ac],by omega,ho.2⟩) (s:=[]) ⟨by simp,λb hb=>by cases hb⟩
 have q1':Av (λs:List Int×Int=>F5 d r (HX r a d.Base) s.1 s.2) ([],0)=some b:=q1;rw [q1'];exact⟨b,rfl,q2⟩
theorem GY (h:Lv d r) (h':Lv d' r') (e:CZ (Bx r')=CZ (Bx r)):BK d'.Store=BK d.Store/\d'.Store.Next=d.Store.Next/\d'.Base=d.Base:=by
 have h1:=h'.ab;rw [e,<-h.ab]at h1
 injection h1 with h1 h2
 exact⟨h1,h2,by rw [h'.base,h.base,e]⟩
theorem uE {b:Int} (h:L8 d r) (hb:∀y∈r,y.Block=b->(y.Page.Kind=2->y.Page.Tx<d.Base)/\∀c,EB (BK d.Store) c->JR r c≠some y) (hg:BL g) (hp:JQ 0 g.Blocks=(JQ 0 d.Flash.Blocks).filter λy=>y.Block !=b):
  ∃d',CP g=some (d',true)/\d'.Flash=g/\L8 d' (r.filter λy=>y.Block !=b)/\BK d'.Store=BK d.Store/\d'.Store.Next=d.Store.Next/\d'.Base=d.Base/\∀c,EB (BK d.Store) c->CO (r.filter λy=>y.Block !=b) c=CO r c:=by
 have f:SR (JQ 0 g.Blocks) (r.filter λy=>y.Block !=b):=by rw [hp];exact h.dev.sr.filter _
 obtain⟨d',u1,u2,u3⟩:=Lq hg f
 have hs:=ZQ r h.core.pages h.core.mu (λy=>y.Block !=b) (λy hy hk ht=>by
  have:y.Block≠b:=λe=>by
   have:=(hb y hy e).1 hk;rw [h.dev.base]at this;omega
  simpa using this)
 obtain⟨e1,e2,e3⟩:=GY h.dev u2 hs
 have ht:∀c,EB (BK d.Store) c->CO (r.filter λy=>y.Block !=b) c=CO r c:=λc hc=>by
  obtain⟨s,a⟩:=h.data.data c hc;unfold CO at a⊢
  cases hn:JR r c with
  |none=>rw [hn]at a;cases a
  |some y=>
   have hy:=(SY hn).1
   have:JR (r.filter λy=>y.Block !=b) c=some y:=eX _ hn (by
    have:y.Block≠b:=λe=>(hb y hy e).2 c hc hn
    simpa using this)
   rw [this]
 refine⟨d',u1,u3,⟨u2,h.core.filter _,?_⟩,e1,e2,e3,ht⟩;rw [e1];exact h.data.congr ht
def Gn (id:Int):Nat->List Int->List Dk
 |_,[]=>[]
 |k,x::row=>(if x>0 then [Dk.mk 4 id k x]else [])++Gn id (k+1) row
def Oh (p:Int×List Int):List Dk:=Dk.mk 2 p.1 0 0::Gn p.1 0 p.2
def LC (l:Vs) (nx:Int):List Dk:=Dk.mk 1 0 nx 0::l.flatMap Oh
theorem O8 (id x:Int):∀(k:Nat) (a:List Int),Gn id k (a++ [x])=Gn id k a++(if x>0 then [Dk.mk 4 id (k+a.length:Nat) x]else [])
 |k,[]=>by simp [Gn]
 |k,y::a=>by
  rw [BF,Gn,O8 id x (k+1) a,Gn,Ao,Az,show k+1+a.length=k+(a.length+1) by omega]
theorem UI (id:Int):∀(k:Nat) (a:List Int),(Gn id k a).length<=a.length
 |_,[]=>A3 _
 |k,x::a=>by
  rw [Gn,Ah,Az];have:=UI id (k+1) a;split<;>simp<;>omega
theorem aT (K:Ks) (r:Int):(E9 K r).length=16:=by unfold E9;simp
theorem fN:∀(l:Vs),(∀p∈l,p.2.length=16)->(l.flatMap Oh).length<=17*l.length
 |[],_=>A3 _
 |p::l,h=>by
  have:=fN l (λq hq=>h q (by simp [hq]));have h2:=UI p.1 0 p.2;have h3:=h p (by simp);rw [H9,Ah,Az];unfold Oh at*;rw [Az];omega
theorem aR (h:CV s):O6 s=some (LC (BK s) s.Next):=by
 have hl:=h.len;unfold O6;obtain⟨b,h1,h2⟩:=Bf (body:=λq:List Dk×Int=>Hu s q.1 q.2) (λ(o:List Dk) i=>(o,i)) s.Vols.length (λi o=>o=LC ((BK s).take i) s.Next/\o.length<=1+17*i) (λo=>o=LC (BK s) s.Next)
  (λo i hi ho=>by
   have hx:=Ab hi;have hr:=h.root _ (AJ.2 ⟨s.Vols[i],AC hi,rfl⟩);have d:=ho.2;have et:(BK s).take (i+1)=(BK s).take i++ [(s.Vols[i].Id,E9 s.Arena.Knots s.Vols[i].Root)]:=by
    rw [DR];unfold BK;rw [AN,hx];rfl
   simp only [Hu,AG,Ad hi,Af,AB,hx,Aa];rw [Cq (by simp;omega)];simp only [Aa];rw [Mw _ (by have:=h.few;omega) h.ar hr];simp only [Aa];obtain⟨u,u1,u2,u3⟩:=Bf (body:=λq:List Dk×Int=>Ht s (i:Int) (E9 s.Arena.Knots s.Vols[i].Root) q.1 q.2) (λ(l:List Dk) k=>(l,k)) (E9 s.Arena.Knots s.Vols[i].Root).length
    (λk u=>u=o++ [Dk.mk 2 s.Vols[i].Id 0 0]++Gn s.Vols[i].Id 0 ((E9 s.Arena.Knots s.Vols[i].Root).take k)/\u.length<=o.length+1+k) (λu=>u=o++ [Dk.mk 2 s.Vols[i].Id 0 0]++Gn s.Vols[i].Id 0 (E9 s.Arena.Knots s.Vols[i].Root)/\u.length<=o.length+17)
    (λu k hk hu=>by
     obtain⟨a,f⟩:=hu;have c:=Ab hk;have g:=aT s.Arena.Knots s.Vols[i].Root;have etk:=Ap hk;simp only [Ht,AG,Ad hk,Af,AB,c,hx,Aa];rw [ad1 (by omega)];refine .inl ?_;by_cases e:(E9 s.Arena.Knots s.Vols[i].Root)[k]>0
     ·rw [Ad e,Af,Cq (by simp;omega)];refine⟨_,rfl,?_,by simp;omega⟩;rw [etk,O8,Au e,a,AE,show 0+min k (E9 s.Arena.Knots s.Vols[i].Root).length=k by omega];simp only [Ao]
     rw [Ae e,Ac];refine⟨u,rfl,?_,by omega⟩
     rw [etk,O8,Ax e,a,A0])
    (λu hu=>⟨u,by simp only [Ht,AG,Aq,Aw,Ac],by rw [hu.1,AL],by have:=aT s.Arena.Knots s.Vols[i].Root;have:=hu.2;omega⟩) (s:=o++ [Dk.mk 2 s.Vols[i].Id 0 0]) ⟨by simp [Gn],by simp⟩
   have u1':Av (λq:List Dk×Int=>Ht s (i:Int) (E9 s.Arena.Knots s.Vols[i].Root) q.1 q.2) (o++ [Dk.mk 2 s.Vols[i].Id 0 0],0)=some u:=u1;rw [u1'];simp only [Aa];rw [ad1 (by omega)];refine .inl ⟨u,rfl,?_,by omega⟩;rw [et,u2,ho.1];unfold LC;rw [PA]
   simp [Oh])
  (λo ho=>⟨o,by simp only [Hu,AG,Aq,Aw,Ac],by rw [ho.1,AP (by rw [Ls];exact A3 _)]⟩) (s:=[Dk.mk 1 0 s.Next 0]) ⟨rfl,by simp⟩
 have h1':Av (λq:List Dk×Int=>Hu s q.1 q.2) ([Dk.mk 1 0 s.Next 0],0)=some b:=h1;rw [h1',h2];rfl
structure VsP (l:Vs) (nx:Int):Prop where
 len:l.length<=3
 nxt:1<=nx/\nx<=1000000000
 ids:∀p∈l,1<=p.1/\p.1<=9
 asc:l.Pairwise λp q=>p.1<q.1
 row:∀p∈l,p.2.length=16
 num:∀p∈l,∀x∈p.2,0<=x/\x<nx
theorem fW {r:Int} (hK:CU K=true) (hr:D8 K r=true):∀x∈E9 K r,0<=x:=by
 intro x hx;unfold E9 at hx;obtain⟨s,hs,rfl⟩:=AJ.1 hx;rw [I9]at hs;unfold Pz
 rcases Ck hr with e|⟨h0,h1,hl⟩
 ·rw [Au (by omega)];omega
 rw [Ax (by omega)]
 rcases FO hK h0 h1 hl (show s/4<4 by omega)with k1|⟨k1,k2,k3⟩
 ·rw [Au (by omega)];omega
 rw [Ax (by omega)];exact rX hK k1 (by omega) k3 (by omega)
theorem CV.vs (h:CV s):VsP (BK s) s.Next:=by
 have mem:∀p∈BK s,∃v∈s.Vols,p=(v.Id,E9 s.Arena.Knots v.Root):=λp hp=>by
  obtain⟨v,hv,rfl⟩:=AJ.1 hp;exact⟨v,hv,rfl⟩
 refine⟨by rw [Ls];exact h.len,h.nx,λp hp=>?_,?_,λp hp=>?_,λp hp x hx=>?_⟩
 ·obtain⟨v,hv,rfl⟩:=mem p hp;exact h.ids v hv
 ·have:=h.asc;unfold BK;rw [JA]at this⊢;exact this
 ·obtain⟨v,hv,rfl⟩:=mem p hp;exact aT _ _
 obtain⟨v,hv,rfl⟩:=mem p hp;have hm:v.Root∈B9 s:=AJ.2 ⟨v,hv,rfl⟩;exact⟨fW h.ar (h.root _ hm) x hx,h.lt _ hm x hx⟩
theorem R6 {P:Vs} {id:Int} (h:∀p∈P,p.1<id) (Q:Vs):LW (P++Q) id=LW Q id:=by
 unfold LW;rw [List.find?_append,EV.2 (λp hp hh=>by have:=h p hp;simp at hh;omega),Option.none_or]
theorem yQ {id k x:Int} (h1:1<=id/\id<=9) (h2:0<=k/\k<16) (h3:1<=x/\x<=1000000000):Gk (Dk.mk 4 id k x)=true:=by
 unfold Gk;simp;omega
theorem AAn {id a:Int} (h1:1<=id/\id<=9) (h2:0<=a/\a<=9):Gk (Dk.mk 2 id a 0)=true:=by
 unfold Gk;simp;omega
theorem nE {P:Vs} {id:Int} {a:List Int} (h:∀p∈P,p.1<id) (k:Nat) (x:Int):iC (P++ [(id,a)]) id k x=P++ [(id,a.set k x)]:=by
 unfold iC;rw [Cl];congr 1
 ·conv=>rhs;rw [<-Sp P]
  apply CI;intro p hp;have:=h p hp;rw [Ax (by omega)];rfl
 simp
theorem eI {P:Vs} {id nx:Int} (hP:∀p∈P,p.1<id) (a:1<=id/\id<=9) (c:nx<=1000000000):∀(todo done:List Int),done.length+todo.length=16->(∀x∈todo,0<=x/\x<nx)->CY (P++ [(id,done++List.replicate todo.length 0)]) nx (Gn id done.length todo)=some (P++ [(id,done++todo)],nx)
 |[],done,hl,hx=>by simp [Gn,CY]
 |x::todo,done,hl,hx=>by
  have h1:=hx x (by simp);rw [Az]at hl;have ih:=eI hP a c todo (done++ [x]) (by simp;omega) (λy hy=>hx y (by simp [hy]));rw [Ah,An]at ih;rw [Gn];have b:(done++List.replicate (todo.length+1) 0).set done.length x=done++ [x]++List.replicate todo.length 0:=by
   rw [Gf,List.set_append_right _ _ (A3 _),Q7,CW,Ao];rfl
  by_cases e:x>0
  ·rw [Au e,BS,Fd];have d:DY (P++ [(id,done++List.replicate (x::todo).length 0)]) nx (Dk.mk 4 id done.length x)=some (P++ [(id,done++ [x]++List.replicate todo.length 0)],nx):=by
    unfold DY;rw [yQ a (by omega) (by omega)];simp only [IT,Ga,show¬((4:Int)=1) by omega,show¬((4:Int)=2) by omega,show¬((4:Int)=3) by omega];have hg:LW (P++ [(id,done++List.replicate (x::todo).length 0)]) id≠none:=by
     rw [R6 hP];simp [LW]
    rw [Ax (by
     rintro(hh|hh)
     ·exact hg hh
     omega)]
    rw [nE hP,Ba,Az,b,show max nx (x+1)=nx by omega]
   rw [d];simp only [Aa];rw [ih,Ao];rfl
  rw [Ax e,A5];have e0:x=0:=by omega
  have:done++List.replicate (x::todo).length 0=done++ [x]++List.replicate todo.length 0:=by
   rw [e0,Az,Gf,Ao];rfl
  rw [this,ih,Ao];rfl
theorem oH {P:Vs} {id:Int} {a:List Int} (h:∀p∈P,p.1<id):oJ P id a=P++ [(id,a)]:=by
 unfold oJ;rw [EC.2 (λp hp=>by simpa using h p hp),B7.2 (λp hp=>by have:=h p hp;simp;omega),A0]
theorem Y0 (d:nx<=1000000000):∀(l P:Vs),(P++l).length<=3->(P++l).Pairwise (λp q=>p.1<q.1)->(∀p∈l,(1<=p.1/\p.1<=9)/\p.2.length=16/\∀x∈p.2,0<=x/\x<nx)->CY P nx (l.flatMap Oh)=some (P++l,nx)
 |[],P,_,_,_=>by simp [CY]
 |p::l,P,b,a,hall=>by
  obtain⟨h1,h2,h3⟩:=hall p (by simp)
  have c:∀q∈P,q.1<p.1:=λq hq=>by
   rw [B3]at a;exact a.2.2 q hq p (by simp)
  rw [H9,KQ];unfold Oh;rw [Fd];have f:DY P nx (Dk.mk 2 p.1 0 0)=some (P++ [(p.1,Su)],nx):=by
   unfold DY;rw [AAn h1 (by omega)];simp only [IT,Ga,BX,show¬((2:Int)=1) by omega];have hg:LW P p.1=none:=by
    have:=R6 c [];rw [A0]at this;rw [this];rfl
   rw [Ax (by
    rintro(hh|hh|hh)
    ·omega
    ·exact hh hg
    simp at b;omega)]
   rw [Ax (by omega),oH c]
  rw [f];simp only [Aa];have hz:Su=[]++List.replicate p.2.length 0:=by rw [h2];rfl
  have e:=eI c h1 d p.2 [] (by simpa using h2) h3;rw [<-hz,Bm,A5]at e;rw [e];simp only [Aa];have hP:P++ [(p.1,p.2)]=P++ [p]:=rfl;have:=Y0 d l (P++ [p]) (by rw [Ao];exact b) (by rw [Ao];exact a) (λq hq=>hall q (by simp [hq]));rw [hP];rw [show(l.flatMap λp=>Dk.mk 2 p.1 0 0::Gn p.1 0 p.2)=l.flatMap Oh from rfl,this,Ao];rfl
theorem ZC (h:VsP l nx) (l0:Vs) (n0:Int):CY l0 n0 (LC l nx)=some (l,nx):=by
 unfold LC;rw [Fd];have a:DY l0 n0 (Dk.mk 1 0 nx 0)=some ([],nx):=by
  unfold DY;have hb:Gk (Dk.mk 1 0 nx 0)=true:=by
   have:=h.nxt;unfold Gk;simp;omega
  rw [hb];simp only [IT,Ga,BX];have:=h.nxt;rw [Ax (by omega)]
 rw [a];simp only [Aa];have:=Y0 h.nxt.2 l [] (by simpa using h.len) (by simpa using h.asc) (λp hp=>⟨h.ids p hp,h.row p hp,h.num p hp⟩);rw [A5]at this;exact this
theorem oY (h:VsP l nx):(∀r∈LC l nx,Gk r=true)/\(LC l nx).length<=1000:=by
 refine⟨λr hr=>?_,?_⟩
 ·
  cases hb:Gk r with
  |true=>rfl
  |false=>
   exfalso;obtain⟨i,hi,rfl⟩:=AF hr;have h1:=ZC h [] 1;obtain⟨e1,e2⟩:=Jb (Ab hi);rw [e1,KQ]at h1
   cases hq:CY [] 1 ((LC l nx).take i)with
   |none=>rw [hq]at h1;cases h1
   |some q=>
    rw [hq]at h1;simp only [Aa]at h1;rw [Fd]at h1;have:DY q.1 q.2 (LC l nx)[i]=none:=by unfold DY;rw [Au hb]
    rw [this]at h1;cases h1
 unfold LC;rw [Az];have:=fN l h.row;have:=h.len;omega
structure ABu (d d':Bc):Prop where
 ab:BK d'.Store=BK d.Store
 nx:d'.Store.Next=d.Store.Next
theorem Ov (h:Lv d r) {steps:List BY} (hs:Steps d.Flash steps g) (hl:steps.length<=1048576) (hm:CP g=some (d',true)):IZ d steps=some d':=by
 unfold IZ;rw [PQ h.fl hs hl];simp only [Aa];rw [hm];rfl
theorem T3:∀{n:Int} {ps:List Page} {p:Page},FU n ps->(∀q∈ps,q.Seq<p.Seq)->n<=p.Seq->FU n (ps++ [p])
 |n,[],p,_,_,h=>⟨h,trivial⟩
 |n,q::ps,p,ha,hq,h=>⟨ha.1,T3 ha.2 (λx hx=>hq x (by simp [hx])) (by have:=hq q (by simp);omega)⟩
def iZ (d:Bc) (r:List A4) (p:Page):Prop:=p.Kind=1/\EB (BK d.Store) p.Tx/\∃y,JR r p.Tx=some y/\p.Text=y.Page.Text
theorem iY (h:Lv d r) {a:List Int} (hl:∀x,x∈a↔EB (BK d.Store) x) (hy:r[j]?=some y) (hn:(HX r a 1000000001)[j]?=some true):y.Page.Kind=1/\EB (BK d.Store) y.Page.Tx/\JR r y.Page.Tx=some y:=by
 rw [TU r a _ hy]at hn
 injection hn with hn
 have b:=h.pages;have ht:=b.tx y (A6 hy);have:Fs 1000000001 y=false:=by
  unfold Fs;rw [Ae (by omega),Yy]
 rw [this,T9,CQ]at hn;obtain⟨c,hc,e⟩:=hn;have f:dI c r r.length=some j:=by simpa using e
 have h1:=uJ f;rw [hy]at h1;obtain⟨_,k1,k2⟩:=SY h1;rw [k2];exact⟨k1,(hl c).1 hc,h1⟩
theorem XW (h:Lv d r) (m:r.length<=40) (b:Int):Lc d b=some ([],false)\/∃steps ps g,Lc d b=some (steps,true)/\FV d.Flash steps ps g/\BL g/\FU d.Seq ps/\steps.length<=160/\(∀p∈ps,iZ d r p/\GS p)/\∀p∈ps,p.Seq<d.Seq+160:=by
 obtain⟨a,l1,l2,l3,l4⟩:=O0 h.st;have t:1<=d.Seq/\d.Seq<=1000000001:=by
  rw [h.seq];have h1:=Mn r;refine⟨h1.2.1,h1.2.2 _ (by omega) (λy hy=>?_)⟩;have:=(h.pages.seq y hy).2;omega
 unfold Lc;rw [h.scan.s,l1];simp only [Aa];rw [VH r a _ h.scan.len l4];simp only [Aa];have f:a.foldl (mH r) (r.map (Fs 1000000001))=HX r a 1000000001:=rfl;rw [f]
 let I:Nat->(List BY×Int×List Block)->Prop:=λn o=>∃ps,FV d.Flash o.1 ps (Flash.mk o.2.2)/\BL (Flash.mk o.2.2)/\FU d.Seq ps/\(∀p∈ps,p.Seq<o.2.1)/\d.Seq<=o.2.1/\o.2.1<=d.Seq+n/\o.1.length<=n/\∀p∈ps,iZ d r p/\GS p
 have I0:I (40*0) ([],d.Seq,d.Flash.Blocks):=by
  refine⟨[],rfl,h.fl,trivial,?_,?_,?_,?_,?_⟩
  ·intro p hp;cases hp
  ·exact EG _
  ·show d.Seq<=d.Seq+((40*0:Nat):Int);omega
  ·exact A3 _
  intro p hp;cases hp
 obtain⟨c,h1,h2⟩:=Bf (body:=λs:List BY×Int×Int×List Block=>G4 b r (HX r a 1000000001) s.1 s.2.1 s.2.2.1 s.2.2.2) (λ(o:List BY×Int×List Block) i=>(o.1,o.2.1,i,o.2.2)) 4
  (λi o=>I (40*i) o) (λc=>c= .inr ([],false)\/∃steps sq bl,c= .inl steps/\I 160 (steps,sq,bl))
  (λo i hi ho=>by
   simp only [G4];rw [Ad (by omega:(i:Int)<4),Af];obtain⟨q,q1,q2⟩:=Bf (body:=λs:List BY×Int×Int×List Block=>G3 b r (HX r a 1000000001) (i:Int) s.1 s.2.1 s.2.2.1 s.2.2.2) (λ(o:List BY×Int×List Block) j=>(o.1,o.2.1,j,o.2.2)) r.length
    (λj o=>I (40*i+j) o) (λq=>q= .inr (.inr (.inr ([],false)))\/∃o,q= .inl o/\I (40*i+40) o)
    (λo j hj hs=>by
     obtain⟨ss,sq,bl⟩:=o;obtain⟨ps,p1,p2,p3,p4,p5,p6,p7,p8⟩:=hs;simp only at p1 p2 p4 p5 p6 p7;have hx:=Ab hj;have k:j<(HX r a 1000000001).length:=by rw [QS];exact hj
     have e:=Ab k;simp only [G3,AG,Ad hj,Af,AB,hx,e,Aa];rw [ad1 (by omega)];have skip:I (40*i+(j+1)) (ss,sq,bl):=⟨ps,p1,p2,p3,p4,p5,by show sq<=_;omega,by show ss.length<=_;omega,p8⟩
     cases l:(HX r a 1000000001)[j]with
     |false=>
      simp only [AH,Af,Aa];exact .inl ⟨(ss,sq,bl),rfl,skip⟩
     |true=>
      simp only [Ak,Ac]
      cases hb:(r[j].Block !=b)with
      |true=>
       simp only [Af,Aa];exact .inl ⟨(ss,sq,bl),rfl,skip⟩
      |false=>
       simp only [Ac,Aa]
       cases u:(r[j].Leaf !=(i:Int))with
       |true=>
        simp only [Af,Aa];exact .inl ⟨(ss,sq,bl),rfl,skip⟩
       |false=>
        simp only [Ac,Aa];obtain⟨m1,m2,m3⟩:=iY h l3 hx (by rw [e,l])
        rcases qQ p2 p1 (by omega) (Page.mk r[j].Page.Kind sq r[j].Page.Tx r[j].Page.Part r[j].Page.Count r[j].Page.Text)with⟨s,g',w1,w2,w3,w4,_⟩|w
        ·rw [w1];simp only [Aa,Ak,Ac];rw [BW,Ah,An,C5 (by omega) (by omega),show((ss.length+1:Nat):Int)-1=(ss.length:Int) by omega,GU];simp only [Aa]
         cases v:(s.Block==b)with
         |true=>exact .inr ⟨_,rfl,.inl rfl⟩
         |false=>
          simp only [Ac];rw [Cx (by omega) (by omega)];refine .inl ⟨(ss++ [s],sq+1,g'.Blocks),rfl,_,w2,w3,T3 p3 (λq hq=>p4 q hq) p5,λp hp=>?_,by show d.Seq<=sq+1;omega,by show sq+1<=_;omega,by simp;omega,λp hp=>?_⟩
          ·rw [Ai,Ay]at hp;show p.Seq<sq+1
           rcases hp with hp|rfl
           ·have:=p4 p hp;omega
           show sq<sq+1;omega
          rw [Ai,Ay]at hp
          rcases hp with hp|rfl
          ·exact p8 p hp
          exact⟨⟨m1,m2,_,m3,rfl⟩,w4⟩
        rw [w]
        exact .inr ⟨_,rfl,.inl rfl⟩)
    (λo hs=>⟨.inl (o.1,o.2.1,o.2.2),by simp only [G3,AG,Aq,Aw,Ac],.inr ⟨o,rfl,by
     obtain⟨ps,p1,p2,p3,p4,p5,p6,p7,p8⟩:=hs
     exact⟨ps,p1,p2,p3,p4,p5,by omega,by omega,p8⟩⟩⟩) (s:=o) (by
      obtain⟨ps,p1,p2,p3,p4,p5,p6,p7,p8⟩:=ho
      exact⟨ps,p1,p2,p3,p4,p5,by omega,by omega,p8⟩)
   have q1':Av (λs:List BY×Int×Int×List Block=>G3 b r (HX r a 1000000001) (i:Int) s.1 s.2.1 s.2.2.1 s.2.2.2) (o.1,o.2.1,0,o.2.2)=some q:=q1;rw [q1']
   rcases q2 with rfl|⟨o',rfl,q2⟩
   ·exact .inr ⟨_,rfl,.inl rfl⟩
   simp only [Aa,BA];rw [ad1 (by omega)]
   exact .inl ⟨o',rfl,by
    obtain⟨ps,p1,p2,p3,p4,p5,p6,p7,p8⟩:=q2
    exact⟨ps,p1,p2,p3,p4,p5,by omega,by omega,p8⟩⟩)
  (λo ho=>⟨.inl o.1,by simp only [G4];rw [Ae (by omega:¬((4:Nat):Int)<4),Ac],.inr ⟨o.1,o.2.1,o.2.2,rfl,ho⟩⟩) (s:=([],d.Seq,d.Flash.Blocks)) I0
 have h1':Av (λs:List BY×Int×Int×List Block=>G4 b r (HX r a 1000000001) s.1 s.2.1 s.2.2.1 s.2.2.2) ([],d.Seq,0,d.Flash.Blocks)=some c:=h1;rw [h1']
 rcases h2 with rfl|⟨steps,sq,bl,rfl,ps,p1,p2,p3,p4,p5,p6,p7,p8⟩
 ·exact .inl rfl
 exact .inr ⟨steps,ps,_,rfl,p1,p2,p3,p7,p8,λp hp=>by have h1:p.Seq<sq:=p4 p hp;have h2:sq<=d.Seq+((160:Nat):Int):=p6;omega⟩
theorem rM (h:L8 d r) {steps:List BY} (hp:FV d.Flash steps ps g) (ha:FU d.Seq ps) (hl:steps.length<=160) (hm:∀p∈ps,iZ d r p/\GS p) (k:Nat):
  ∃m d',Steps d.Flash (steps.take k) m/\BL m/\CP m=some (d',true)/\d'.Flash=m/\L8 d' (r++(Cu steps ps).take k)/\ABu d d'/\d'.Base=d.Base/\Wb d.Flash m/\∀c,EB (BK d.Store) c->CO (r++(Cu steps ps).take k) c=CO r c:=by
 have f:=(E6 hp).2;have w:=h.few
 have b:∀y∈r,y.Page.Seq<d.Seq:=λy hy=>by rw [h.dev.seq];exact(Mn r).1 y hy
 obtain⟨m,a⟩:=Sm k hp;have l:=VV h.dev.fl (E6 a).1;have ascT:∀(ps:List Page) (n:Int) (k:Nat),FU n ps->FU n (ps.take k):=by
  intro ps
  induction ps with
  |nil=>intro n k _;simp [FU]
  |cons p ps ih=>
   intro n k ha
   cases k with
   |zero=>trivial
   |succ k=>exact⟨ha.1,ih _ k ha.2⟩
 have o:=X9 h.dev.fl h.dev.sr a b (ascT _ _ k ha);rw [UT]at o;obtain⟨d',u1,u2,u3⟩:=Lq l o;have h0:=Se f;have ascG:∀(ps:List Page) (n:Int) (i:Nat) (p:Page),FU n ps->ps[i]?=some p->n<=p.Seq/\∀j q,j<i->ps[j]?=some q->q.Seq<p.Seq:=by
  intro ps
  induction ps with
  |nil=>intro n i p _ hp;simp at hp
  |cons x ps ih=>
   intro n i p ha hp
   cases i with
   |zero=>
    simp only [Cw,Aj]at hp;rw [<-hp];exact⟨ha.1,λj q hj=>by omega⟩
   |succ i=>
    obtain⟨i1,i2⟩:=ih _ i p ha.2 (by simpa using hp);have:=ha.1;refine⟨by omega,λj q hj hq=>?_⟩
    cases j with
    |zero=>
     simp only [Cw,Aj]at hq;rw [<-hq];omega
    |succ j=>exact i2 j q (by omega) (by simpa using hq)
 have main:∀n,n<=(Cu steps ps).length->IS (r++(Cu steps ps).take n)/\GI (r++(Cu steps ps).take n) (EB (BK d.Store))/\Bx (r++(Cu steps ps).take n)=Bx r/\∀c,EB (BK d.Store) c->CO (r++(Cu steps ps).take n) c=CO r c:=by
  intro n
  induction n with
  |zero=>intro _;rw [GO,A0];exact⟨h.core,h.data,rfl,λ_ _=>rfl⟩
  |succ n ih=>
   intro hn;obtain⟨i1,i2,i3,i4⟩:=ih (by omega);have hx:(Cu steps ps)[n]?=some (Cu steps ps)[n]:=Ab (by omega);have s:=K2 hx;obtain⟨⟨m1,m2,y,m3,m4⟩,m5⟩:=hm _ (A6 s);obtain⟨a1,a2⟩:=ascG ps d.Seq n _ ha s;rw [Ap (by omega),<-Ao];have t:RE (Cu steps ps)[n].Page.Text=CO r (Cu steps ps)[n].Page.Tx:=by unfold CO;rw [m3,m4];rfl
   have u:Da (r++(Cu steps ps).take n)<=(Cu steps ps)[n].Page.Seq:=by
    refine(Mn _).2.2 _ (m5.2.1.1) (λz hz=>?_)
    rcases Ai.1 hz with hz|hz
    ·have:=b z hz;omega
    obtain⟨j,hj,rfl⟩:=AF hz;rw [AE]at hj;rw [JB];exact a2 j _ (by omega) (K2 (Ab (by omega)))
   refine⟨IS.add i1 (by simp;omega) m5 u (λhh=>by omega),gQ i2 (by rw [t,i4 _ m2]),by rw [UQ _ (by omega),i3],λc hc=>?_⟩;by_cases e:(Cu steps ps)[n].Page.Kind=1/\(Cu steps ps)[n].Page.Tx=c
   ·have:CO (r++(Cu steps ps).take n++ [(Cu steps ps)[n]]) c=RE (Cu steps ps)[n].Page.Text:=by unfold CO;rw [Ll,Au e];rfl
    rw [this,t,e.2]
   rw [<-i4 c hc];unfold CO;rw [Ll,Ax e]
 have v:IS (r++(Cu steps ps).take k)/\GI (r++(Cu steps ps).take k) (EB (BK d.Store))/\Bx (r++(Cu steps ps).take k)=Bx r/\∀c,EB (BK d.Store) c->CO (r++(Cu steps ps).take k) c=CO r c:=by
  by_cases e:k<=(Cu steps ps).length
  ·exact main k e
  have:=main _ (A3 _);rw [AL]at this;rw [AP (by omega)];exact this
 obtain⟨k1,k2,k3,k4⟩:=v;obtain⟨e1,e2,e3⟩:=GY h.dev u2 (by rw [k3]);exact⟨m,d',(E6 a).1,l,u1,u3,⟨u2,k1,by rw [e1];exact k2⟩,⟨e1,e2⟩,e3,λ_=>Sl a,k4⟩
theorem kQ (h:Lv d r) {a:List Int} (hl:a.length<=16777216) (t:ByteArray):∃v,O3 d.Flash a t=some v/\((v=0/\∀c∈a,CO r c≠some t)\/(v∈a/\CO r v=some t)):=by
 have hr:=h.pages;unfold O3 TL;rw [h.scan.s];simp only [Aa];obtain⟨b,h1,h2⟩:=Bf (body:=λs:Int=>Im r a t s) (λ(_:Unit) i=>i) a.length (λi _=>∀c∈a.take i,CO r c≠some t) (λb=>(b= .inl ()/\∀c∈a,CO r c≠some t)\/∃v,b= .inr v/\v∈a/\CO r v=some t)
  (λ_ i hi hs=>by
   have hx:=Ab hi;simp only [Im,AG,Ad hi,Af,AB,hx,Aa];obtain⟨u,ok,k1,k2⟩:=W2 hr a[i];rw [k1];simp only [Aa];rw [ad1 (by omega)]
   have no:CO r a[i]≠some t->∀c∈a.take (i+1),CO r c≠some t:=λg c hc=>by
    rw [Ap hi,Ai,Ay]at hc
    rcases hc with hc|rfl
    ·exact hs c hc
    exact g
   cases ok with
   |false=>
    simp only [Ac,Aa];exact .inl ⟨(),by first|rfl|trivial,no (by rw [k2];simp)⟩
   |true=>
    simp only [Af,Aa];rw [Au rfl]at k2
    cases f:seq u t with
    |true=>
     rw [ID,A7]at f;exact .inr ⟨_,rfl,.inr ⟨_,rfl,AC hi,by rw [k2,f]⟩⟩
    |false=>
     rw [ID,AX]at f;refine .inl ⟨(),rfl,no ?_⟩;rw [k2];intro e
     injection e with e
     exact f e)
  (λ_ hs=>⟨_,by simp only [Im,AG,Aq,Aw,Ac],.inl ⟨rfl,by rw [AL]at hs;exact hs⟩⟩) (s:=()) (by simp)
 have h1':Av (λs:Int=>Im r a t s) 0=some b:=h1;rw [h1']
 rcases h2 with⟨rfl,h2⟩|⟨v,rfl,h2⟩
 ·exact⟨0,rfl,.inl ⟨rfl,h2⟩⟩
 exact⟨v,rfl,.inr h2⟩
structure AAT (q:dC):Prop where
 kind:1<=q.Kind/\q.Kind<=6
 vol:1<=q.Vol/\q.Vol<=9
 text:(L q.Text).length<=64
 sec:0<=q.Sector/\q.Sector<=15
 of_:0<=q.Of/\q.Of<=9
 cl:q.Kind=4->1<=q.Of
 no:q.Kind≠4->q.Of=0
 tx:q.Kind≠1->L q.Text=[]
theorem YL (q:dC):∃v,VB q=some v/\(v=true->AAT q):=by
 unfold VB;simp only [Ez,Aa];by_cases h1:1<=q.Kind/\q.Kind<=6
 ·rw [Ad h1];by_cases h2:1<=q.Vol/\q.Vol<=9
  ·rw [Ad h2];by_cases h3:Gi q.Text>64
   ·rw [Ad h3];exact⟨_,rfl,by simp⟩
   rw [Ae h3];rw [BJ]at h3;simp only [Ak,Ac];have ht:(bif(q.Kind !=1)then(some (!(seq q.Text (bs []))))else(some false):Option Bool)=some (decide (q.Kind≠1/\L q.Text≠ [])):=by
    by_cases e:q.Kind=1
    ·rw [show(q.Kind !=1)=false by simp [e],Ae (λhh=>hh.1 e)];rfl
    rw [show(q.Kind !=1)=true by simpa using e,PJ,DP];by_cases e2:L q.Text=[]
    ·rw [Ad e2,Ae (λhh=>hh.2 e2)];rfl
    rw [Ae e2,Ad (show q.Kind≠1/\L q.Text≠ []from⟨e,e2⟩)];rfl
   rw [ht];simp only [Aa];by_cases h4:q.Kind≠1/\L q.Text≠ []
   ·rw [Ad h4];exact⟨_,rfl,by simp⟩
   rw [Ae h4];simp only [Ac]
   have a:q.Kind≠1->L q.Text=[]:=λhk=>Classical.byContradiction λhh=>h4 ⟨hk,hh⟩
   by_cases h5:q.Kind=4
   ·rw [show(q.Kind==4)=true by simpa using h5];simp only [Af];by_cases h6:q.Sector=0
    ·rw [show(q.Sector==0)=true by simpa using h6];refine⟨_,rfl,λhh=>?_⟩;rw [A7]at hh;exact⟨h1,h2,by omega,by omega,by omega,λ_=>hh.1,λhk=>absurd h5 hk,a⟩
    rw [show(q.Sector==0)=false by simpa using h6];exact⟨_,rfl,by simp⟩
   rw [show(q.Kind==4)=false by simpa using h5];simp only [Ac];by_cases h6:q.Of=0
   ·rw [show(q.Of !=0)=false by simp [h6]];simp only [Ac];by_cases h7:q.Kind=3\/q.Kind=5
    ·have:(bif(q.Kind==3)then(some true)else(some (q.Kind==5)):Option Bool)=some true:=by
      rcases h7 with e|e<;>rw [e]<;>rfl
     rw [this];refine⟨_,rfl,λhh=>?_⟩;rw [Dn]at hh;exact⟨h1,h2,by omega,by omega,by omega,λhk=>absurd hk h5,λ_=>h6,a⟩
    have:(bif(q.Kind==3)then(some true)else(some (q.Kind==5)):Option Bool)=some false:=by
     rw [show(q.Kind==3)=false by rw [Dz];omega,show(q.Kind==5)=false by rw [Dz];omega];rfl
    rw [this];refine⟨_,rfl,λhh=>?_⟩;rw [A7]at hh;exact⟨h1,h2,by omega,hh,by omega,λhk=>absurd hk h5,λ_=>h6,a⟩
   rw [show(q.Of !=0)=true by simpa using h6];exact⟨_,rfl,by simp⟩
  rw [Ae h2];exact⟨_,rfl,by simp⟩
 rw [Ae h1];exact⟨_,rfl,by simp⟩
def xG (d:Bc) (r:List A4) (q:dC) (x:Dk) (a:ByteArray):Prop:=Gk x=true/\x.Kind≠1/\x.Vol=q.Vol/\((L a=[]/\(x.Kind=4->EB (BK d.Store) x.Chunk/\CO r x.Chunk=some q.Text))\/(x.Kind=4/\x.Chunk=d.Store.Next/\L a≠ []/\RE a=some q.Text/\∀c,EB (BK d.Store) c->CO r c≠some q.Text))
theorem gJ (h:Lv d r) (q:dC):∃a text no,Mt d q=some (a,text,no)/\((a=[]/\text=bs [])\/(no=0/\∃x,a=[x]/\xG d r q x text))/\(no≠0->a=[]):=by
 have j:=h.st.len;have b:=h.st.nx;obtain⟨v,a1,a2⟩:=YL q;unfold Mt;rw [a1];simp only [Aa]
 cases v with
 |false=>exact⟨_,_,_,rfl,.inl ⟨rfl,rfl⟩,λ_=>rfl⟩
 |true=>
  have hq:=a2 rfl;simp only [Ak,Ac];have g:=hq.kind;obtain⟨w,hw⟩:∃w,Er d.Store q.Vol=some w:=by
   rcases FY d.Store (by omega) q.Vol with⟨e,_⟩|⟨k,_,e,_⟩<;>exact⟨_,e⟩
  rw [hw];simp only [Aa];by_cases h34:q.Kind=3\/q.Kind=4
  ·have:(bif(q.Kind==3)then(some true)else(some (q.Kind==4)):Option Bool)=some true:=by
    rcases h34 with e|e<;>rw [e]<;>rfl
   rw [this];simp only [Aa,Af]
   cases decide (w>=0)with
   |true=>exact⟨_,_,_,rfl,.inl ⟨rfl,rfl⟩,λ_=>rfl⟩
   |false=>
    simp only [Ac];obtain⟨j2,i⟩:∃j2,(bif(q.Kind==4)then((Er d.Store q.Of).bind λv3=>some (decide (v3<0)))else(some false):Option Bool)=some j2:=by
     cases q.Kind==4 with
     |false=>exact⟨_,rfl⟩
     |true=>
      rcases FY d.Store (by omega) q.Of with⟨e,_⟩|⟨k,_,e,_⟩<;>rw [e]<;>exact⟨_,rfl⟩
    rw [i];simp only [Aa]
    cases j2 with
    |true=>exact⟨_,_,_,rfl,.inl ⟨rfl,rfl⟩,λ_=>rfl⟩
    |false=>
     simp only [Ac]
     cases decide (ln d.Store.Vols>=3)with
     |true=>exact⟨_,_,_,rfl,.inl ⟨rfl,rfl⟩,λ_=>rfl⟩
     |false=>
      refine⟨_,_,_,rfl,.inr ⟨rfl,_,rfl,AAn hq.vol hq.of_,by simp,rfl,.inl ⟨DP _,λhh=>by simp at hh⟩⟩,λhh=>absurd rfl hh⟩
  have:(bif(q.Kind==3)then(some true)else(some (q.Kind==4)):Option Bool)=some false:=by
   rw [show(q.Kind==3)=false by rw [Dz];omega,show(q.Kind==4)=false by rw [Dz];omega];rfl
  rw [this];simp only [Aa,Ac]
  cases decide (w>=0)with
  |false=>exact⟨_,_,_,rfl,.inl ⟨rfl,rfl⟩,λ_=>rfl⟩
  |true=>
   simp only [Ak,Ac]
   cases k1:(q.Kind==1)with
   |true=>
    simp only [Af];obtain⟨l,l1,l2,l3,l4⟩:=O0 h.st;obtain⟨c,f1,f2⟩:=kQ h l4 q.Text;rw [l1];simp only [Aa];rw [f1];simp only [Aa]
    rcases f2 with⟨rfl,f2⟩|⟨f2,f3⟩
    ·obtain⟨z,z1,z2,z3⟩:=gC q.Text hq.text;rw [show((0:Int)==0)=true from rfl,z1];refine⟨_,_,_,rfl,.inr ⟨rfl,_,rfl,yQ hq.vol (by have:=hq.sec;omega) ⟨b.1,b.2⟩,by simp,rfl,.inr ⟨rfl,rfl,?_,?_,λc hc=>f2 c ((l3 c).2 hc)⟩⟩,λhh=>absurd rfl hh⟩
     ·intro e;have e':L z=[]:=e;rw [e']at z3;simp at z3
     show RE z=some q.Text;unfold RE;rw [z2]
    have f:=(l3 c).1 f2;have m:=VI h.st f;rw [show(c==0)=false by rw [Dz];omega];refine⟨_,_,_,rfl,.inr ⟨rfl,_,rfl,yQ hq.vol (by have:=hq.sec;omega) (by omega),by simp,rfl,.inl ⟨DP _,λ_=>⟨f,f3⟩⟩⟩,λhh=>absurd rfl hh⟩
   |false=>
    simp only [Ac]
    cases k2:(q.Kind==2)with
    |true=>
     refine⟨_,_,_,rfl,.inr ⟨rfl,_,rfl,?_,by simp,rfl,.inl ⟨DP _,λhh=>by simp at hh⟩⟩,λhh=>absurd rfl hh⟩;have:=hq.vol;have:=hq.sec;unfold Gk;simp;omega
    |false=>
     simp only [Ac]
     cases k5:(q.Kind==5)with
     |true=>
      refine⟨_,_,_,rfl,.inr ⟨rfl,_,rfl,?_,by simp,rfl,.inl ⟨DP _,λhh=>by simp at hh⟩⟩,λhh=>absurd rfl hh⟩;have:=hq.vol;unfold Gk;simp;omega
     |false=>exact⟨_,_,_,rfl,.inl ⟨rfl,rfl⟩,λ_=>rfl⟩
theorem fR (h:DY l nx x=some (l',nx')) (hk:x.Kind≠1):(∀c,EB l' c->EB l c\/c=x.Chunk)/\nx<=nx'/\nx'<=max nx (x.Chunk+1):=by
 unfold DY at h;split at h
 ·cases h
 first
  |rw [Ax hk]at h
  |skip
 split at h
 ·split at h
  ·cases h
  injection h with h
  injection h with h1 h2
  subst h1 h2;refine⟨λc hc=>?_,by omega,by omega⟩;obtain⟨h0,p,hp,hx⟩:=hc;unfold oJ at hp;simp only [Ai,AU,Ay]at hp
  rcases hp with(hp|rfl)|hp
  ·exact .inl ⟨h0,p,hp.1,hx⟩
  ·simp only at hx
   have zz:c∉Su:=λhz=>by have:=Dy hz;omega
   split at hx
   ·cases hg:LW l x.Arg with
    |none=>rw [hg]at hx;exact absurd hx zz
    |some row=>
     rw [hg]at hx;unfold LW at hg;obtain⟨w,a,b⟩:=AY.1 hg;have d:=List.mem_of_find?_eq_some a;exact .inl ⟨h0,w,d,by rw [b];exact hx⟩
   exact absurd hx zz
  exact .inl ⟨h0,p,hp.1,hx⟩
 split at h
 ·cases h
 split at h
 ·injection h with h
  injection h with h1 h2
  subst h1 h2;refine⟨λc hc=>?_,by omega,by omega⟩;obtain⟨h0,p,hp,hx⟩:=hc;exact .inl ⟨h0,p,(AU.1 hp).1,hx⟩
 injection h with h
 injection h with h1 h2
 subst h1 h2;refine⟨λc hc=>?_,by omega,by omega⟩;obtain⟨h0,p,hp,hx⟩:=hc;unfold iC at hp;obtain⟨w,hw,rfl⟩:=AJ.1 hp;split at hx
 ·rcases CN hx with hx|hx
  ·exact .inl ⟨h0,w,hw,hx⟩
  exact .inr hx
 exact .inl ⟨h0,w,hw,hx⟩
theorem jV (h:DY l nx x=some (l',nx')) (hk:x.Kind≠1):∀p∈l',(∃p'∈l,p'.1=p.1)\/p.1=x.Vol:=by
 unfold DY at h;split at h
 ·cases h
 first
  |rw [Ax hk]at h
  |skip
 split at h
 ·split at h
  ·cases h
  injection h with h
  injection h with h1 h2
  subst h1 h2;intro p hp;unfold oJ at hp;simp only [Ai,AU,Ay]at hp
  rcases hp with(hp|rfl)|hp
  ·exact .inl ⟨p,hp.1,rfl⟩
  ·exact .inr rfl
  exact .inl ⟨p,hp.1,rfl⟩
 split at h
 ·cases h
 split at h
 ·injection h with h
  injection h with h1 h2
  subst h1 h2
  exact λp hp=> .inl ⟨p,(AU.1 hp).1,rfl⟩
 injection h with h
 injection h with h1 h2
 subst h1 h2;intro p hp;unfold iC at hp;obtain⟨w,hw,rfl⟩:=AJ.1 hp;refine .inl ⟨w,hw,?_⟩;split<;>rfl
theorem XK (h:Lv d r):∃v,Oq d=some v:=by
 have hr:=h.pages;have ht:1<=d.Tx/\d.Tx<=1000000001:=by
  rw [h.tx];have h1:=TC r;refine⟨h1.2.1,h1.2.2 _ (by omega) (λy hy _=>?_)⟩;have:=(hr.tx y hy).2;omega
 unfold Oq
 cases(d.Base !=sb d.Tx 1)with
 |true=>exact⟨_,rfl⟩
 |false=>
  simp only [Ac];rw [h.scan.s];simp only [Aa];rw [PO r hr];simp only [Aa];obtain⟨g1,_⟩:=Sd hr;obtain⟨b,h1,_⟩:=Bf (body:=λs:Int=>Hk d (Bx r) s) (λ(_:Unit) i=>i) (Bx r).length (λ_ _=>True) (λ_=>True)
   (λ_ i hi _=>by
    have hx:=Ab hi;simp only [Hk,AG,Ad hi,Af,AB,hx,Aa];rw [ad1 (by omega)]
    cases((Bx r)[i].Num==d.Base)with
    |false=>exact .inl ⟨(),by first|rfl|trivial,trivial⟩
    |true=>
     simp only [Af]
     cases a:(Bx r)[i].Recs with
     |nil=>exact .inr ⟨_,rfl,trivial⟩
     |cons q m=>
      have hg:gi (q::m) 0=some q:=AB (i:=0);rw [Ad (by rw [BW,Az];omega:ln (q::m)>0),hg]
      exact .inr ⟨_,rfl,trivial⟩)
   (λ_ _=>⟨.inl (),by simp only [Hk,AG,Aq,Aw,Ac],trivial⟩) (s:=()) trivial
  have h1':Av (λs:Int=>Hk d (Bx r) s) 0=some b:=h1;rw [h1']
  cases b with
  |inl u=>exact⟨_,rfl⟩
  |inr v=>exact⟨v,rfl⟩
theorem XP (h:Lv d r):∃v,Ou d=some v:=by
 have hn:=h.fl.n;obtain⟨a,l1,_,_,l4⟩:=O0 h.st;unfold Ou;rw [h.scan.s,l1];simp only [Aa];rw [VH r a d.Base h.scan.len l4,VH r a 1000000000 h.scan.len l4];simp only [Aa]
 have c:∀b,a.foldl (mH r) (r.map (Fs b))=HX r a b:=λ_=>rfl
 rw [c,c];obtain⟨b,h1,_⟩:=Bf (body:=λs:Int×Int×Int=>Hp d r (HX r a d.Base) (HX r a 1000000000) s.1 s.2.1 s.2.2) (λ(o:Int×Int) i=>(o.1,o.2,i)) d.Flash.Blocks.length (λ_ _=>True) (λ_=>True)
  (λo i hi _=>by
   have hx:=Ab hi;have hP:=h.fl.blk _ (AC hi);simp only [Hp,AG,Ad hi,Af,AB,hx,Aa];rw [qY r _ (i:Int) h.scan.len (QS _ _ _),qY r _ (i:Int) h.scan.len (QS _ _ _),Mu _ hP.four,ad1 (by omega)];simp only [Aa,T1]
   cases(bif !d.Flash.Blocks[i].Bad then _ else false)with
   |true=>exact .inl ⟨(_,_),by first|rfl|trivial,trivial⟩
   |false=>exact .inl ⟨o,by first|rfl|trivial,trivial⟩)
  (λo _=>⟨o.1,by simp only [Hp,AG,Aq,Aw,Ac],trivial⟩) (s:=(-1,4)) trivial
 have h1':Av (λs:Int×Int×Int=>Hp d r (HX r a d.Base) (HX r a 1000000000) s.1 s.2.1 s.2.2) (-1,4,0)=some b:=h1;rw [h1'];exact⟨_,rfl⟩
theorem Lv.seqs (h:Lv d r):0<=d.Seq/\d.Seq<=1000000001:=by
 rw [h.seq];have h1:=Mn r;refine⟨by omega,h1.2.2 _ (by omega) (λy hy=>?_)⟩;have:=(h.pages.seq y hy).2;omega
theorem ZL (h:∀y∈r',y.Page.Kind=2->y.Page.Tx<D0 r+n):D0 r'<=D0 r+n:=(TC r').2.2 _ (by have:=(TC r).2.1;omega) h
theorem V4 (n:Nat) (hy:y∈r) (hk:y.Page.Kind=2):y.Page.Tx<D0 r+n:=by have:=(TC r).1 y hy hk;omega
theorem YY {seq tx:Int} (h:p∈Cd seq tx T):p.Tx=tx:=by
 unfold Cd at h;obtain⟨i,hi,rfl⟩:=AF h;rw [List.getElem_mapIdx]
theorem ZT (h:∀y∈r',y.Page.Seq<Da r+n):Da r'<=Da r+n:=(Mn r').2.2 _ (by have:=(Mn r).2.1;omega) h
theorem V6 (n:Nat) (hy:y∈r):y.Page.Seq<Da r+n:=by have:=(Mn r).1 y hy;omega
theorem iT {seq tx:Int} (h:p∈Cd seq tx T):p.Seq<seq+T.length:=by
 unfold Cd at h;obtain⟨i,hi,rfl⟩:=AF h;rw [DL]at hi;rw [List.getElem_mapIdx];show seq+(i:Int)<_;omega
theorem Yz {a:ByteArray} (h:p∈C9 d c a++Cd (Fo d a) d.Tx T):p.Seq<d.Seq+1+T.length:=by
 rcases Ai.1 h with h|h
 ·unfold C9 at h;by_cases e:L a=[]
  ·rw [Au e]at h;cases h
  rw [Ax e,Ay]at h;rw [h];show d.Seq<_;omega
 have h1:=iT h;have h2:Fo d a<=d.Seq+1:=by unfold Fo;split<;>omega
 omega
theorem Nb {seq tx:Int} (h:p∈Cd seq tx T):p.Kind=2:=by
 unfold Cd at h;obtain⟨i,hi,rfl⟩:=AF h;rw [List.getElem_mapIdx]
def yH (m:Flash) (s:BY) (g:Flash):Prop:=BL g/\Wb m g/\((s.Kind=1/\JQ 0 g.Blocks=JQ 0 m.Blocks)\/(s.Kind=2/\JQ 0 g.Blocks=(JQ 0 m.Blocks).filter λy=>y.Block !=s.Block))
def Zz (f:Flash) (ss:List BY) (k:Nat) (g:Flash):Prop:=∃m,Steps f (ss.take k) m/\(g=m\/∃s,ss[k]?=some s/\RI m s/\yH m s g)
theorem Rn:∀{f:Flash} {a:List BY} {g m:Flash},Steps f a g->Steps f a m->g=m
 |f,[],g,m,h,k=>by rw [show g=f from h,show m=f from k]
 |f,s::a,g,m,h,k=>Rn h.2 k.2
theorem oV {m:Flash} {a b:List BY} (h:Zz f (a++b) k g) (hs:Steps f a m):(k<a.length/\Zz f a k g)\/(a.length<=k/\Zz m b (k-a.length) g):=by
 obtain⟨x,h1,h2⟩:=h;by_cases e:k<a.length
 ·left;rw [Fj (by omega)]at h1;rw [AO e]at h2;exact⟨e,x,h1,h2⟩
 right;rw [Uv,AP (by omega)]at h1;rw [AS (by omega)]at h2;obtain⟨y,y1,y2⟩:=(NZ _ _ _ _).1 h1;rw [Rn y1 hs]at y2;exact⟨by omega,x,y2,h2⟩
structure Kb (n:Nat) (d:Bc) (r:List A4) (d':Bc) (r':List A4):Prop where
 good:L8 d' r'
 ab:BK d'.Store=BK d.Store
 nx:d'.Store.Next=d.Store.Next
 pg:∀y∈r',y.Page.Kind=1->∃z∈r,z.Page.Kind=1/\z.Page.Tx=y.Page.Tx/\z.Page.Text=y.Page.Text
 tx:D0 r'<=D0 r+n
 wear:∀w:Int,IA d.Flash w->IA d'.Flash (w+n)
 text:∀c,EB (BK d.Store) c->CO r' c=CO r c
 sq:Da r'<=Da r+200*n
structure As (d:Bc) (r:List A4) (d':Bc) (r':List A4):Prop where
 good:L8 d' r'
 ab:BK d'.Store=BK d.Store
 nx:d'.Store.Next=d.Store.Next
 tx:D0 r'<=D0 r+1
 wear:∀w:Int,IA d.Flash w->IA d'.Flash (w+1)
 text:∀c,EB (BK d.Store) c->CO r' c=CO r c
theorem As.torn (h:As d a e b) (hg:BL g) (hp:JQ 0 g.Blocks=JQ 0 e.Flash.Blocks) (hw:Wb e.Flash g):∃x,CP g=some (x,true)/\x.Flash=g/\As d a x b:=by
 obtain⟨x,u1,u2,u3⟩:=Lq hg (r:=b) (by rw [hp];exact h.good.dev.sr);obtain⟨e1,e2,_⟩:=GY h.good.dev u2 rfl;exact⟨x,u1,u3,⟨⟨u2,h.good.core,by rw [e1];exact h.good.data⟩,by rw [e1,h.ab],by rw [e2,h.nx],h.tx,λw hh=>by rw [u3];exact hw _ (h.wear w hh),h.text⟩⟩
theorem Vz (h:Wb f g) (w:Int) (hw:IA f w):IA g (w+n):=λb hb=>by have:=h w hw b hb;omega
theorem Kb.refl (h:L8 d r):Kb n d r d r:=⟨h,rfl,rfl,λy hy hk=>⟨y,hy,hk,rfl,rfl⟩,by omega,Vz λ_ h=>h,λ_ _=>rfl,by omega⟩
theorem Kb.trans {g:Bc} {c:List A4} (h:Kb n d a e b) (k:Kb m e b g c):Kb (n+m) d a g c:=⟨k.good,by rw [k.ab,h.ab],by rw [k.nx,h.nx],λy hy hk=>by
 obtain⟨z,z1,z2,z3,z4⟩:=k.pg y hy hk;obtain⟨w,w1,w2,w3,w4⟩:=h.pg z z1 z2
 exact⟨w,w1,w2,by rw [w3,z3],by rw [w4,z4]⟩,by have:=h.tx;have:=k.tx;omega,λw hw=>by
 have:=k.wear _ (h.wear w hw);intro x hx;have:=this x hx
 omega,λc hc=>by rw [k.text c (by rw [h.ab];exact hc),h.text c hc],by have:=h.sq;have:=k.sq;omega⟩
theorem Kb.mono (h:Kb n d a e b) (hm:n<=m):Kb m d a e b:={h with
 tx:=by have:=h.tx;omega
 wear:=λw hw x hx=>by have:=h.wear w hw x hx;omega
 sq:=by have:=h.sq;omega}
theorem Kb.torn (h:Kb n d a e b) (hg:BL g) (hp:JQ 0 g.Blocks=JQ 0 e.Flash.Blocks) (hw:Wb e.Flash g):∃x,CP g=some (x,true)/\x.Flash=g/\Kb n d a x b:=by
 obtain⟨x,u1,u2,u3⟩:=Lq hg (r:=b) (by rw [hp];exact h.good.dev.sr);obtain⟨e1,e2,_⟩:=GY h.good.dev u2 rfl;exact⟨x,u1,u3,⟨⟨u2,h.good.core,by rw [e1];exact h.good.data⟩,by rw [e1,h.ab],by rw [e2,h.nx],h.pg,h.tx,λw hh=>by rw [u3];exact hw _ (h.wear w hh),h.text,h.sq⟩⟩
def Nq (n:Nat) (d:Bc) (r:List A4) (steps:List BY):Prop:=(∃m,Steps d.Flash steps m)/\∀k g,k<=steps.length->Zz d.Flash steps k g->∃x rx,CP g=some (x,true)/\x.Flash=g/\Kb n d r x rx
theorem YU {steps:List BY} (h1:∀s∈steps,s.Kind=1) (hc:∀k,k<=steps.length->∃x rx,Steps d.Flash (steps.take k) x.Flash/\CP x.Flash=some (x,true)/\Kb n d r x rx):Nq n d r steps:=by
 refine⟨?_,λk g hk hg=>?_⟩
 ·obtain⟨x,rx,c1,_⟩:=hc steps.length (A3 _);rw [AL]at c1;exact⟨_,c1⟩
 obtain⟨x,rx,c1,c2,c3⟩:=hc k hk;obtain⟨m,m1,m2⟩:=hg;have:=Rn m1 c1;subst this
 rcases m2 with rfl|⟨s,s1,_,s2,s3,⟨_,s4⟩|⟨s4,_⟩⟩
 ·exact⟨x,rx,c2,rfl,c3⟩
 ·obtain⟨y,y1,y2,y3⟩:=c3.torn s2 s4 s3;exact⟨y,rx,y1,y2,y3⟩
 have:=h1 s (A6 s1);omega
theorem Nq.full {steps:List BY} (h:L8 d r) (hc:Nq n d r steps) (hl:steps.length<=1000000):∃x rx,IZ d steps=some x/\Steps d.Flash steps x.Flash/\Kb n d r x rx:=by
 obtain⟨⟨m,hm⟩,hk⟩:=hc;obtain⟨x,rx,x1,x2,x3⟩:=hk steps.length m (A3 _) ⟨m,by rw [AL];exact hm,.inl rfl⟩;exact⟨x,rx,Ov h.dev hm (by omega) x1,by rw [x2];exact hm,x3⟩
theorem pB {re:List A4} {a b:List BY} (hk:Kb n d r e re) (hs:Steps d.Flash a e.Flash) (ha:Nq n d r a) (hb:Nq m e re b):Nq (n+m) d r (a++b):=by
 refine⟨?_,λk g c hg=>?_⟩
 ·obtain⟨x,hx⟩:=hb.1;exact⟨x,(NZ _ _ _ _).2 ⟨_,hs,hx⟩⟩
 rw [Ah]at c
 rcases oV hg hs with⟨e1,e2⟩|⟨e1,e2⟩
 ·obtain⟨x,rx,x1,x2,x3⟩:=ha.2 k g (by omega) e2;exact⟨x,rx,x1,x2,x3.mono (by omega)⟩
 obtain⟨x,rx,x1,x2,x3⟩:=hb.2 _ g (by omega) e2;exact⟨x,rx,x1,x2,hk.trans x3⟩
theorem WR (r m:List A4) (c:Int) (h:∀y∈m,¬(y.Page.Kind=1/\y.Page.Tx=c)):JR (r++m) c=JR r c:=by
 unfold JR;rw [AQ,B7.2 (λy hy hh=>h y hy (Qj.1 hh)),A0]
theorem kS (h:L8 d r) (hw:IA d.Flash 999999999):∃steps ok,O5 d=some (steps,ok)/\steps.length<=200/\(ok=false->steps=[])/\(ok=true->Nq 1 d r steps):=by
 have hv:=h.dev.st.vs;obtain⟨dead,d1,d2,d3⟩:=WE h.dev;unfold O5;rw [d1];simp only [Aa]
 cases hd:dead with
 |cons b m=>
  rw [Ad (by rw [BW,Az];omega:ln (b::m)>0),show gi (b::m) 0=some b from AB (i:=0)];simp only [Af,Aa];refine⟨_,_,rfl,by simp,(λhh=>by cases hh),λ_=>?_⟩;obtain⟨x,x1,x2,x3⟩:=d3 b (by rw [hd];simp);have hc:sZ d.Flash b:=⟨x,x1,x2,λe=>by have:=hw x (A6 (D6 x1).2);omega⟩;have hs:RI d.Flash (BY.mk 2 b 0 (bs [])):= .inr ⟨rfl,hc⟩;obtain⟨w1,w2⟩:=Uw h.dev.fl hc;have he:Ji d.Flash (BY.mk 2 b 0 (bs []))=Sv d.Flash b:=by unfold Ji;rw [Ax (by simp)]
  have wp:∀g,BL g->JQ 0 g.Blocks=((JQ 0 d.Flash.Blocks).filter λy=>y.Block !=b)->(∀w:Int,IA d.Flash w->IA g (w+1))->∃x rx,CP g=some (x,true)/\x.Flash=g/\Kb 1 d r x rx:=by
   intro g g1 g2 g3;obtain⟨d',u1,u2,u3,u4,u5,_,u6⟩:=uE h x3 g1 g2;exact⟨d',_,u1,u2,u3,u4,u5,λy hy hk=>⟨y,(AU.1 hy).1,hk,rfl,rfl⟩,ZL λy hy hk=>V4 _ (AU.1 hy).1 hk,by rw [u2];exact g3,u6,ZT (n:=200*1) λy hy=>V6 _ (AU.1 hy).1⟩
  refine⟨⟨_,hs,rfl⟩,λk g hk hg=>?_⟩;obtain⟨q,q1,q2⟩:=hg
  cases k with
  |zero=>
   rw [show q=d.Flash from q1]at q2
   rcases q2 with rfl|⟨s,s1,_,s2,s3,⟨s4,_⟩|⟨_,s4⟩⟩
   ·obtain⟨x,u1,u2,u3⟩:=(Kb.refl (n:=1) h).torn h.dev.fl rfl λ_ hh=>hh
    exact⟨x,r,u1,u2,u3⟩
   ·simp only [Cw,Aj]at s1;rw [<-s1]at s4;simp at s4
   simp only [Cw,Aj]at s1;rw [<-s1]at s4
   exact wp g s2 s4 λw hh y hy=>by have:=s3 w hh y hy;omega
  |succ k=>
   have q1':Steps d.Flash [BY.mk 2 b 0 (bs [])] q:=by simpa using q1
   have e:q=Sv d.Flash b:=by rw [show q=Ji d.Flash (BY.mk 2 b 0 (bs []))from q1'.2,he]
   rcases q2 with rfl|⟨s,s1,_⟩
   ·rw [e]
    exact wp _ w1 w2 λw hh=>by rw [<-he];exact YB hh (by omega) (.inr (EG _))
   simp at s1
 |nil=>
  rw [show decide (ln ([]:List Int)>0)=false from rfl];simp only [Ac];obtain⟨v,v1⟩:=XK h.dev;rw [v1];simp only [Aa]
  cases v with
  |false=>
   simp only [AH,Af];unfold PR;rw [aR h.dev.st];simp only [Aa];obtain⟨b1,b2⟩:=oY hv
   rcases Pn h.dev.fl h.dev.seqs (LC (BK d.Store) d.Store.Next) (by unfold LC;simp) b2 b1 (bs [])with w|⟨steps,T,g,last,w1,w2,w3,w4,w5,w6,w7,w8,w9⟩
   ·rw [w];exact⟨_,_,rfl,by simp,λ_=>rfl,λhh=>by cases hh⟩
   rw [w2];simp only [Aa];have f:=(E6 w7).2;have l:(Cd (Fo d (bs [])) d.Tx T).length=T.length:=by unfold Cd;rw [DL]
   have j:C9 d last.Chunk (bs [])=[]:=by unfold C9;rw [Au (DP _)]
   rw [j,A5,l]at f;refine⟨_,_,rfl,by omega,(λhh=>by cases hh),λ_=>YU (Po w7) λk hk=>?_⟩;obtain⟨m,d',r',c1,c2,c3,c4,c5,rfl,cw,c6,c7,c8,c9⟩:=N1 h b1 w3 w4 w5 w6 w7 w9 (λhh=>absurd (DP _) hh) k hk;have a:BK d'.Store=BK d.Store/\d'.Store.Next=d.Store.Next:=by
    by_cases e:k<steps.length
    ·obtain⟨e1,e2,_⟩:=GY h.dev c4 (by rw [c8 e]);exact⟨e1,e2⟩
    obtain⟨q,hq⟩:=(c9 (by omega)).1;have hB:Zp (Tx.mk d.Tx q (LC (BK d.Store) d.Store.Next))=true:=rfl;have a:=c4.ab;rw [hq,QC,Au hB]at a;have:Kx [Tx.mk d.Tx q (LC (BK d.Store) d.Store.Next)]=(BK d.Store,d.Store.Next):=by
     show(CY [] 1 (LC (BK d.Store) d.Store.Next)).getD ([],1)=_;rw [ZC hv];rfl
    rw [this]at a
    injection a with e1 e2
    exact⟨e1,e2⟩
   have hX:∀y∈(Cu steps (C9 d last.Chunk (bs [])++Cd (Fo d (bs [])) d.Tx T)).take k,y.Page.Kind=2/\y.Page.Tx=d.Tx:=λy hy=>by
    have cP:=Lk _ _ _ y hy;rw [j,A5]at cP;exact⟨Nb cP,YY cP⟩
   refine⟨d',_,by rw [c5];exact c1,by rw [c5];exact c3,⟨c4,c6,by rw [a.1];exact c7⟩,a.1,a.2,λy hy hk=>?_,ZL λy hy hk=>?_,by rw [c5];exact Vz (n:=1) cw,λc hc=>?_,ZT (n:=200*1) λy hy=>?_⟩
   ·rcases Ai.1 hy with hh|hh
    ·exact⟨y,hh,hk,rfl,rfl⟩
    have:=(hX y hh).1;omega
   ·rcases Ai.1 hy with hh|hh
    ·exact V4 _ hh hk
    rw [(hX y hh).2,h.dev.tx];omega
   ·unfold CO;rw [WR _ _ _ λy hy hh=>by have:=(hX y hy).1;omega]
   rcases Ai.1 hy with hh|hh
   ·exact V6 _ hh
   have:=Yz (Lk _ _ _ y hh);rw [h.dev.seq]at this;omega
  |true=>
   simp only [Ak,Ac];obtain⟨vi,vi1⟩:=XP h.dev;rw [vi1];simp only [Aa]
   cases decide (vi<0)with
   |true=>exact⟨_,_,rfl,by simp,λ_=>rfl,λhh=>by cases hh⟩
   |false=>
    simp only [Ac]
    rcases XW h.dev h.few vi with w|⟨steps,ps,g,w1,w2,w3,w4,w5,w6,w7⟩
    ·rw [w];exact⟨_,_,rfl,by simp,λ_=>rfl,λhh=>by cases hh⟩
    rw [w1];refine⟨steps,true,rfl,by omega,(λhh=>by cases hh),λ_=>YU (Po w2) λk hk=>?_⟩;obtain⟨m,d',c1,c2,c3,c4,c5,c6,_,cw,c7⟩:=rM h w2 w4 w5 w6 k;refine⟨d',_,by rw [c4];exact c1,by rw [c4];exact c3,c5,c6.ab,c6.nx,λy hy hk=>?_,ZL λy hy hk=>?_,by rw [c4];exact Vz (n:=1) cw,c7,ZT (n:=200*1) λy hy=>?_⟩
    ·rcases Ai.1 hy with hh|hh
     ·exact⟨y,hh,hk,rfl,rfl⟩
     obtain⟨⟨_,_,z,z1,z2⟩,_⟩:=w6 _ (Lk _ _ _ _ hh);obtain⟨a1,a2,a3⟩:=SY z1;exact⟨z,a1,a2,a3,z2.symm⟩
    ·rcases Ai.1 hy with hh|hh
     ·exact V4 _ hh hk
     have:=(w6 _ (Lk _ _ _ _ hh)).1.1;omega
    rcases Ai.1 hy with hh|hh
    ·exact V6 _ hh
    have:=w7 _ (Lk _ _ _ _ hh);rw [h.dev.seq]at this;omega
theorem Ut (h:BL f):∃v:Int,IJ f=some v:=by
 obtain⟨v,v1,_⟩:=o6 f h.cap (by have:=h.few;omega);exact⟨v,v1⟩
theorem kT (h:L8 d r) (hw:IA d.Flash 999999000) (most:Int):∃d' all r',Mv d most=some (d',all)/\Kb 20 d r d' r'/\all.length<=4000/\Steps d.Flash all d'.Flash/\Nq 20 d r all:=by
 unfold Mv;rw [U8 h.dev];simp only [Aa]
 have l:∀{n:Nat} {a:List BY},n<=20->Nq n d r a->Nq 20 d r a:=λhn hc=>⟨hc.1,λk g hk hg=>by
  obtain⟨x,rx,x1,x2,x3⟩:=hc.2 k g hk hg
  exact⟨x,rx,x1,x2,x3.mono hn⟩⟩
 obtain⟨b,h1,d',all,r',h2,h3,h4,h5,h6⟩:=Bf (body:=λs:List BY×Int×List Block×List Vol×List BI×Int×Int×Int×Int=>Hs most s.1 s.2.1 s.2.2.1 s.2.2.2.1 s.2.2.2.2.1 s.2.2.2.2.2.1 s.2.2.2.2.2.2.1 s.2.2.2.2.2.2.2.1 s.2.2.2.2.2.2.2.2)
  (λ(o:List BY×Bc) i=>(o.1,i,o.2.Flash.Blocks,o.2.Store.Vols,o.2.Store.Arena.Knots,o.2.Store.Next,o.2.Seq,o.2.Tx,o.2.Base)) 20
  (λi o=>o.1.length<=200*i/\∃r',Kb i d r o.2 r'/\Steps d.Flash o.1 o.2.Flash/\Nq i d r o.1)
  (λb=>∃d' all r',(b= .inr (d',all)\/b= .inl (all,d'.Flash.Blocks,d'.Store.Vols,d'.Store.Arena.Knots,d'.Store.Next,d'.Seq,d'.Tx,d'.Base))/\Kb 20 d r d' r'/\all.length<=4000/\Steps d.Flash all d'.Flash/\Nq 20 d r all)
  (λo i hi hs=>by
   obtain⟨all,e⟩:=o;obtain⟨j,r',hg,c,f⟩:=hs;simp only at j hg c f;have m:Bc.mk (Flash.mk e.Flash.Blocks) (Store.mk e.Store.Vols (Arena.mk e.Store.Arena.Knots) e.Store.Next) e.Seq e.Tx e.Base=e:=rfl;have p:Flash.mk e.Flash.Blocks=e.Flash:=rfl;simp only [Hs];rw [m,p];obtain⟨v,v1⟩:=Ut hg.good.dev.fl;rw [v1,Ad (by omega:(i:Int)<20)];simp only [Af,Aa,T1]
   cases(bif decide ((i:Int)<most)then decide (v<12)else false)with
   |false=>
    simp only [Ac];exact .inr ⟨_,rfl,e,all,r',.inr rfl,hg.mono (by omega),by omega,c,l (by omega) f⟩
   |true=>
    simp only [Af];obtain⟨steps,ok,c1,c2,_,c3⟩:=kS hg.good (λx hx=>by have:=hg.wear _ hw x hx;omega);rw [c1];simp only [Aa]
    cases ok with
    |false=>
     simp only [AH,Af];exact .inr ⟨_,rfl,e,all,r',.inl rfl,hg.mono (by omega),by omega,c,l (by omega) f⟩
    |true=>
     obtain⟨d',r2,k1,k2,k3⟩:=(c3 rfl).full hg.good (by omega);simp only [Ak,Ac];rw [k1];simp only [Aa];rw [Cq (by omega),ad1 (by omega)]
     exact .inl ⟨(all++steps,d'),rfl,by simp;omega,r2,hg.trans k3,(NZ _ _ _ _).2 ⟨_,c,k2⟩,pB hg c f (c3 rfl)⟩)
  (λo hs=>by
   obtain⟨all,e⟩:=o;obtain⟨j,r',hg,c,f⟩:=hs;refine⟨.inl (all,e.Flash.Blocks,e.Store.Vols,e.Store.Arena.Knots,e.Store.Next,e.Seq,e.Tx,e.Base),?_,e,all,r',.inr rfl,hg,by simpa using j,c,f⟩;simp only [Hs];rw [Ae (by omega:¬((20:Nat):Int)<20)]
   cases decide (((20:Nat):Int)<most)<;>rfl) (s:=([],d)) ⟨by simp,r,Kb.refl h,rfl,⟨⟨_,rfl⟩,λk g hk hg=>by
   obtain⟨q,q1,q2⟩:=hg;rw [List.take_nil]at q1;rw [show q=d.Flash from q1]at q2
   rcases q2 with rfl|⟨s,s1,_⟩
   ·obtain⟨x,u1,u2,u3⟩:=(Kb.refl (n:=0) h).torn h.dev.fl rfl λ_ hh=>hh
    exact⟨x,r,u1,u2,u3⟩
   simp at s1⟩⟩
 have h1':Av (λs:List BY×Int×List Block×List Vol×List BI×Int×Int×Int×Int=>Hs most s.1 s.2.1 s.2.2.1 s.2.2.2.1 s.2.2.2.2.1 s.2.2.2.2.2.1 s.2.2.2.2.2.2.1 s.2.2.2.2.2.2.2.1 s.2.2.2.2.2.2.2.2) ([],0,d.Flash.Blocks,d.Store.Vols,d.Store.Arena.Knots,d.Store.Next,d.Seq,d.Tx,d.Base)=some b:=h1;rw [h1']
 rcases h2 with rfl|rfl
 ·exact⟨d',all,r',rfl,h3,h4,h5,h6⟩
 exact⟨d',all,r',rfl,h3,h4,h5,h6⟩
theorem qE {r:Int} (h:k<16):(E9 K r)[k]?=some (Pz K r k):=by unfold E9;exact Hv h
theorem eE (h:CV s) (vol:Int) (hk:k<16):∃c,NC s vol (k:Int)=some c/\((LW (BK s) vol=none/\c=0)\/∃a,LW (BK s) vol=some a/\a[k]?=some c/\0<=c/\(c≠0->EB (BK s) c)):=by
 have hl:=h.len;unfold NC
 rcases FY s (by omega) vol with⟨e,e2⟩|⟨i,v,e,e2,e3,_⟩
 ·rw [e];exact⟨0,rfl,.inl ⟨NQ.1 e2,rfl⟩⟩
 rw [e];simp only [Aa];have hm:=A6 e2;have hr:=h.root _ (AJ.2 ⟨v,hm,rfl⟩);rw [Ae (by omega),Ac,AB,e2];simp only [Aa];rw [W9 _ (by have:=h.few;omega) h.ar hr hk];have hg:=NP h.asc hm;rw [e3]at hg;have h0:=fW h.ar hr _ (Xw hk);exact⟨_,rfl,.inr ⟨_,hg,qE hk,h0,λb=>⟨by omega,_,AJ.2 ⟨v,hm,rfl⟩,Xw hk⟩⟩⟩
theorem dS (h:L8 d r) (vol:Int) (hk:k<16):(LW (BK d.Store) vol=none/\LX r d.Store vol (k:Int)=some (bs [],false))\/
  ∃a c,LW (BK d.Store) vol=some a/\a[k]?=some c/\NC d.Store vol (k:Int)=some c/\((c=0/\LX r d.Store vol (k:Int)=some (bs [],true))\/(0<c/\EB (BK d.Store) c/\∃u,CO r c=some u/\LX r d.Store vol (k:Int)=some (u,true))):=by
 have hl:=h.dev.st.len;obtain⟨c,c1,c2⟩:=eE h.dev.st vol hk;unfold LX;rw [c1]
 rcases FY d.Store (by omega) vol with⟨e,e2⟩|⟨i,v,e,e2,e3,_⟩
 ·rw [e];exact .inl ⟨NQ.1 e2,rfl⟩
 have hg:=NP h.dev.st.asc (A6 e2);rw [e3]at hg
 rcases c2 with⟨c2,_⟩|⟨a,c2,c3,c4,c5⟩
 ·rw [hg]at c2;cases c2
 rw [e];simp only [Aa];rw [Ae (by omega),Ac];right;refine⟨a,c,c2,c3,rfl,?_⟩;by_cases e0:c=0
 ·rw [show(c==0)=true by simpa using e0];exact .inl ⟨e0,rfl⟩
 rw [show(c==0)=false by simpa using e0];simp only [Ac];have b:=c5 e0;obtain⟨u,hu⟩:=h.data.data c b;obtain⟨w,ok,t1,t2⟩:=W2 h.dev.pages c;rw [t1];rw [hu]at t2
 cases ok with
 |false=>cases t2
 |true=>
  rw [Au rfl]at t2
  injection t2 with t2
  exact .inr ⟨by omega,b,u,hu,by rw [t2];rfl⟩
theorem kK (h:Lv d r) {q:dC} {a:List Dk} {b:ByteArray} (hp:Mt d q=some (a,b,0)):AAT q:=by
 obtain⟨v,a1,a2⟩:=YL q
 cases v with
 |true=>exact a2 rfl
 |false=>
  unfold Mt at hp;rw [a1]at hp;simp at hp
def gM (r r':List A4) (c:Int) (a:ByteArray):Prop:=(∀y∈r',y.Page.Kind=1->(∃z∈r,z.Page.Kind=1/\z.Page.Tx=y.Page.Tx/\z.Page.Text=y.Page.Text)\/(L a≠ []/\y.Page.Tx=c/\y.Page.Text=a))/\D0 r'<=D0 r+1/\Da r'<=Da r+10
theorem uD (h:L8 d r) {q:dC} {a:ByteArray} (hx:xG d r q x a):Dh d [x] a=some ([],false)\/∃steps d' r',Dh d [x] a=some (steps,true)/\steps.length<=10/\IZ d steps=some d'/\L8 d' r'/\
  (BK d'.Store,d'.Store.Next)=(DY (BK d.Store) d.Store.Next x).getD (BK d.Store,d.Store.Next)/\d.Store.Next<=d'.Store.Next/\d'.Store.Next<=d.Store.Next+1/\gM r r' x.Chunk a/\Wb d.Flash d'.Flash/\Steps d.Flash steps d'.Flash/\1<=steps.length/\∀k g,k<steps.length->Zz d.Flash steps k g->∃y ry,CP g=some (y,true)/\y.Flash=g/\As d r y ry/\gM r ry x.Chunk a:=by
 obtain⟨x1,x2,xv,x3⟩:=hx;have h6:=h.dev.st.nx
 have f:∀z∈ [x],Gk z=true:=λz hz=>by rw [Ay]at hz;rw [hz];exact x1
 rcases Pn h.dev.fl h.dev.seqs [x] (by simp) (by simp) f a with w|⟨steps,T,g,last,w1,w2,w3,w4,w5,w6,w7,w8,w9⟩
 ·exact .inl w
 right;have i:last=x:=by simpa using w1.symm
 subst i;have o:=(E6 w7).2;have h2:(Cd (Fo d a) d.Tx T).length=T.length:=by unfold Cd;rw [DL]
 have h7:(C9 d last.Chunk a).length<=1:=by unfold C9;split<;>simp
 rw [Ah,h2]at o
 have j:L a≠ []->¬EB (BK d.Store) last.Chunk:=λht h3=>by
  rcases x3 with⟨x3,_⟩|⟨_,x4,_⟩
  ·exact ht x3
  have:=VI h.dev.st h3;omega
 have fw:∀k,gM r (r++(Cu steps (C9 d last.Chunk a++Cd (Fo d a) d.Tx T)).take k) last.Chunk a:=λk=>by
  have cP:∀y∈r++(Cu steps (C9 d last.Chunk a++Cd (Fo d a) d.Tx T)).take k,y∈r\/y.Page∈C9 d last.Chunk a++Cd (Fo d a) d.Tx T:=λy hy=>(Ai.1 hy).imp id (Lk _ _ _ y)
  refine⟨λy hy hk=>?_,ZL (n:=1) λy hy hk=>?_,ZT (n:=10) λy hy=>?_⟩
  ·rcases cP y hy with hh|hh
   ·exact .inl ⟨y,hh,hk,rfl,rfl⟩
   rcases Ai.1 hh with hh|hh
   ·unfold C9 at hh;by_cases e:L a=[]
    ·rw [Au e]at hh;cases hh
    rw [Ax e,Ay]at hh;exact .inr ⟨e,by rw [hh],by rw [hh]⟩
   have:=Nb hh;omega
  ·rcases cP y hy with hh|hh
   ·exact V4 _ hh hk
   rcases Ai.1 hh with hh|hh
   ·unfold C9 at hh;by_cases e:L a=[]
    ·rw [Au e]at hh;cases hh
    rw [Ax e,Ay]at hh;rw [hh]at hk;cases hk
   rw [YY hh,h.dev.tx];omega
  rcases cP y hy with hh|hh
  ·exact V6 _ hh
  have:=Yz hh;rw [h.dev.seq]at this;omega
 have cut:∀k g,k<steps.length->Zz d.Flash steps k g->∃y ry,CP g=some (y,true)/\y.Flash=g/\As d r y ry/\gM r ry last.Chunk a:=λk g hk hg=>by
  obtain⟨m,y,ry,c1,c2,c3,c4,c5,hr',cw,c6,c7,c8,_⟩:=N1 h f w3 w4 w5 w6 w7 w9 j k (by omega);obtain⟨e1,e2,_⟩:=GY h.dev c4 (by rw [c8 hk]);subst hr'
  have t:As d r y (r++(Cu steps (C9 d last.Chunk a++Cd (Fo d a) d.Tx T)).take k):=⟨⟨c4,c6,by rw [e1];exact c7⟩,e1,e2,(fw k).2.1,by rw [c5];exact Vz (n:=1) cw,λc hc=>by
   unfold CO;rw [WR _ _ _ λz hz hh=>?_];have h4:=Lk _ _ _ z hz
   rcases Ai.1 h4 with hh2|hh2
   ·unfold C9 at hh2;by_cases e:L a=[]
    ·rw [Au e]at hh2;cases hh2
    rw [Ax e,Ay]at hh2;refine j e ?_;have:=hh.2;rw [hh2]at this;rw [show last.Chunk=c from this];exact hc
   have:=Nb hh2
   omega⟩
  obtain⟨q,q1,q2⟩:=hg;have:=Rn q1 c1;subst this
  rcases q2 with rfl|⟨s,s1,_,s2,s3,⟨_,s4⟩|⟨s4,_⟩⟩
  ·exact⟨y,_,c3,c5,t,fw k⟩
  ·obtain⟨z,z1,z2,z3⟩:=t.torn s2 (by rw [c5];exact s4) (by rw [c5];exact s3);exact⟨z,_,z1,z2,z3,fw k⟩
  have:=Po w7 s (A6 s1);omega
 obtain⟨m,d',r',c1,c2,c3,c4,c5,hr',cw,c6,c7,_,c9⟩:=N1 h f w3 w4 w5 w6 w7 w9 j steps.length (A3 _);rw [<-c5]at cw;rw [AL]at c1;have u:Steps d.Flash steps d'.Flash:=by rw [c5];exact c1
 have v:gM r r' last.Chunk a:=by rw [hr'];exact fw _
 obtain⟨⟨qn,hq⟩,c10⟩:=c9 rfl;have hB:¬Zp (Tx.mk d.Tx qn [last])=true:=by
  unfold Zp;simpa using x2
 have b:=c4.ab;rw [hq,QC,Ax hB,WT,<-h.dev.ab]at b;have h5:CY (BK d.Store) d.Store.Next [last]=DY (BK d.Store) d.Store.Next last:=by
  rw [Fd];cases DY (BK d.Store) d.Store.Next last<;>rfl
 simp only [h5]at b;have h0:=Ov h.dev c1 (by omega) c3
 cases l:DY (BK d.Store) d.Store.Next last with
 |none=>
  rw [l]at b;have e1:BK d'.Store=BK d.Store:=Ca Prod.fst b;have e2:d'.Store.Next=d.Store.Next:=Ca Prod.snd b;exact⟨steps,d',r',w2,by omega,h0,⟨c4,c6,by rw [e1];exact c7⟩,by rw [e1,e2];rfl,by omega,by omega,v,cw,u,by omega,cut⟩
 |some p=>
  obtain⟨l',nx'⟩:=p;rw [l]at b;have e1:BK d'.Store=l':=Ca Prod.fst b;have e2:d'.Store.Next=nx':=Ca Prod.snd b;obtain⟨v1,v2,v3⟩:=fR l x2
  have hz:∀c,EB l' c->c=last.Chunk->last.Kind≠4->False:=λc hc h8 hk=>by
   have:last.Chunk=0:=by
    have hb:=x1;unfold Gk at hb;rw [show(last.Kind==1)=false by simpa using x2,show(last.Kind==4)=false by simpa using hk]at hb;simp at hb;omega
   have:=hc.1;omega
  have h1:last.Chunk<=d.Store.Next:=by
   by_cases hk:last.Kind=4
   ·rcases x3 with⟨_,x4⟩|⟨_,x4,_⟩
    ·have:=VI h.dev.st (x4 hk).1;omega
    omega
   have hb:=x1;unfold Gk at hb;rw [show(last.Kind==1)=false by simpa using x2,show(last.Kind==4)=false by simpa using hk]at hb;simp at hb;omega
  refine⟨steps,d',r',w2,by omega,h0,⟨c4,c6,?_⟩,by rw [e1,e2];rfl,by omega,by omega,v,cw,u,by omega,cut⟩;rw [e1]
  rcases x3 with⟨x3,x4⟩|⟨x3,x4,x5,x6,x7⟩
  ·refine c7.mono λc hc=>?_
   rcases v1 c hc with hh|hh
   ·exact hh
   by_cases hk:last.Kind=4
   ·rw [hh];exact(x4 hk).1
   exact absurd trivial (λ_=>hz c hc hh hk)
  exact(c10 _ x6 x5 x7).mono v1
def tU (r r':List A4) (nx:Int) (a:ByteArray):Prop:=(∀y∈r',y.Page.Kind=1->(∃z∈r,z.Page.Kind=1/\z.Page.Tx=y.Page.Tx/\z.Page.Text=y.Page.Text)\/(y.Page.Tx=nx/\RE y.Page.Text=some a))/\D0 r'<=D0 r+21/\Da r'<=Da r+4010
def zY (d d':Bc) (v:Int):Prop:=∀p∈BK d'.Store,(∃p'∈BK d.Store,p'.1=p.1)\/p.1=v
theorem Kb.q (h:Kb n d r e r') (hn:n<=20) (nx:Int) (t:ByteArray):tU r r' nx t:=⟨λy hy hk=> .inl (h.pg y hy hk),by have:=h.tx;omega,by have:=h.sq;omega⟩
theorem Lm (h:BK d'.Store=BK d.Store) (v:Int):zY d d' v:=λp hp=> .inl ⟨p,by rw [<-h];exact hp,rfl⟩
theorem wN (h:L8 d r) (hw:IA d.Flash 999999000) (q:dC):∃d' steps t no r',V9 d q=some (d',steps,t,no)/\L8 d' r'/\d.Store.Next<=d'.Store.Next/\d'.Store.Next<=d.Store.Next+1/\tU r r' d.Store.Next q.Text/\zY d d' q.Vol/\∀w:Int,IA d.Flash w->IA d'.Flash (w+20):=by
 have a:Kb 20 d r d r:=Kb.refl h;unfold V9;rw [U8 h.dev,aN h.dev];simp only [Aa,Ak,Ac];obtain⟨v,h0,no,p1,p2,p3⟩:=gJ h.dev q;rw [p1];simp only [Aa]
 cases f:(no !=0)with
 |true=>exact⟨_,_,_,_,r,rfl,h,by omega,by omega,a.q (by omega) _ _,Lm rfl _,a.wear⟩
 |false=>
  have g:no=0:=by simpa using f
  subst g;have hq:=kK h.dev p1;simp only [Ac]
  cases h1:(q.Kind==6)with
  |true=>
   simp only [Af];obtain⟨k,hk⟩:∃k:Nat,q.Sector=(k:Int):=⟨_,(Bq hq.sec.1).symm⟩;unfold W4;rw [h.dev.scan.s,hk];simp only [Aa]
   rcases dS h q.Vol (k:=k) (by have:=hq.sec;omega)with⟨_,e⟩|⟨h2,c,_,_,_,⟨_,e⟩|⟨_,_,u,_,e⟩⟩
   ·rw [e];exact⟨_,_,_,_,r,rfl,h,by omega,by omega,a.q (by omega) _ _,Lm rfl _,a.wear⟩
   ·rw [e];exact⟨_,_,_,_,r,rfl,h,by omega,by omega,a.q (by omega) _ _,Lm rfl _,a.wear⟩
   rw [e];exact⟨_,_,_,_,r,rfl,h,by omega,by omega,a.q (by omega) _ _,Lm rfl _,a.wear⟩
  |false=>
   simp only [Ac];obtain⟨v5,i⟩:=Ut h.dev.fl;rw [i];simp only [Aa];have clean:∃e all re,(bif(decide (v5<12))then((Mv d 20).bind λv6=>some (v6.2,v6.1.Flash.Blocks,v6.1.Store.Vols,v6.1.Store.Arena.Knots,v6.1.Store.Next,v6.1.Seq,v6.1.Tx,v6.1.Base))else(some ([],d.Flash.Blocks,d.Store.Vols,d.Store.Arena.Knots,d.Store.Next,d.Seq,d.Tx,d.Base)):Option (List BY×List Block×List Vol×List BI×Int×Int×Int×Int))=some (all,Flash.Blocks (Bc.Flash e),e.Store.Vols,e.Store.Arena.Knots,e.Store.Next,e.Seq,e.Tx,e.Base)/\Kb 20 d r e re/\all.length<=4000:=by
    cases decide (v5<12)with
    |false=>exact⟨d,[],r,rfl,a,by simp⟩
    |true=>
     obtain⟨e,all,re,k1,k2,k3,_⟩:=kT h hw 20;simp only [Af];rw [k1];exact⟨e,all,re,rfl,k2,k3⟩
   obtain⟨e,all,re,k1,k5,k4⟩:=clean;have k2:=k5.good;rw [k1];simp only [Aa];have j:Bc.mk (Flash.mk e.Flash.Blocks) (Store.mk e.Store.Vols (Arena.mk e.Store.Arena.Knots) e.Store.Next) e.Seq e.Tx e.Base=e:=rfl;have l:Flash.mk e.Flash.Blocks=e.Flash:=rfl;rw [j,l];obtain⟨recs2,text2,no2,s1,s2,_⟩:=gJ k2.dev q;rw [s1];simp only [Aa];obtain⟨v9,m⟩:=Ut k2.dev.fl;rw [m];have n:=k5.nx
   rcases s2 with⟨rfl,rfl⟩|⟨_,x,rfl,s2⟩
   ·have hw:Dh e [] (bs [])=some ([],true):=rfl;rw [hw];simp only [Aa,Ak,Ac]
    cases decide (v9<8)with
    |true=>exact⟨_,_,_,_,re,rfl,k2,by omega,by omega,k5.q (by omega) _ _,Lm k5.ab _,k5.wear⟩
    |false=>
     simp only [Ac];obtain⟨d',u1,u2,u3⟩:=Lq k2.dev.fl k2.dev.sr;obtain⟨e1,e2,_⟩:=GY k2.dev u2 rfl;rw [Ov k2.dev (steps:=[]) rfl (by simp) u1];simp only [Aa];rw [Cq (by simp;omega)];exact⟨_,_,_,_,re,rfl,⟨u2,k2.core,by rw [e1];exact k2.data⟩,by omega,by omega,k5.q (by omega) _ _,Lm (by rw [e1,k5.ab]) _,by rw [u3];exact k5.wear⟩
   rcases uD k2 s2 with w|⟨steps,d',r',w1,w2,w3,w4,w7,w5,w6,w8,w9,_⟩
   ·rw [w];exact⟨_,_,_,_,re,rfl,k2,by omega,by omega,k5.q (by omega) _ _,Lm k5.ab _,k5.wear⟩
   rw [w1];simp only [Aa,Ak,Ac]
   cases decide (v9<8)with
   |true=>exact⟨_,_,_,_,re,rfl,k2,by omega,by omega,k5.q (by omega) _ _,Lm k5.ab _,k5.wear⟩
   |false=>
    simp only [Ac];rw [w3];simp only [Aa];rw [Cq (by omega)];refine⟨_,_,_,_,r',rfl,w4,by omega,by omega,⟨λy hy hk=>?_,by have:=w8.2.1;have:=k5.tx;omega,by have:=w8.2.2;have:=k5.sq;omega⟩,λp hp=>?_,λw hh=>w9 _ (k5.wear w hh)⟩
    ·rcases w8.1 y hy hk with⟨z,z1,z2,z3,z4⟩|⟨t1,t2,t3⟩
     ·obtain⟨w,a1,a2,a3,a4⟩:=k5.pg z z1 z2;exact .inl ⟨w,a1,a2,by rw [a3,z3],by rw [a4,z4]⟩
     obtain⟨_,_,_,s3⟩:=s2
     rcases s3 with⟨s3,_⟩|⟨_,s4,_,s5,_⟩
     ·exact absurd s3 t1
     exact .inr ⟨by rw [t2,s4,n],by rw [t3,s5]⟩
    have e1:=Ca Prod.fst w7;simp only at e1;rw [e1]at hp
    cases b:DY (BK e.Store) e.Store.Next x with
    |none=>
     rw [b]at hp;exact .inl ⟨p,by rw [<-k5.ab];exact hp,rfl⟩
    |some lp=>
     rw [b]at hp;obtain⟨l',nx'⟩:=lp;have o:p∈l':=hp
     rcases jV b s2.2.1 p o with⟨p',q1,q2⟩|hh
     ·exact .inl ⟨p',by rw [<-k5.ab];exact q1,q2⟩
     exact .inr (by rw [hh,s2.2.2.1])
end Go.TI
