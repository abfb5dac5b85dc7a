/- A text that is written often is kept once. No condition; no program is in sight. -/
import Derived.Test.YtacibgiakaoomaaGreatOKP2
set_option linter.unusedVariables false
set_option linter.unusedSimpArgs false
namespace Go.TI
open Go
theorem kN (s:Store) (hv:s.Vols.length<=1048576) (ha:Oc s.Arena):∃l,My s=some l/\Pm s=some l/\l.length<=1+17*s.Vols.length:=by
 unfold My Pm;obtain⟨l,h1,h2,h3⟩:=Hp (body:=λq:List BS×Int=>Er s q.1 q.2) (body':=λq:List BS×Int=>Ir s q.1 q.2) (λ(l:List BS) i=>(l,i)) s.Vols.length (λi l=>l.length<=1+17*i) (λl=>l.length<=1+17*s.Vols.length)
  (λl i hi hl=>by
   have hg:s.Vols[i]?=some s.Vols[i]:=Ab hi;obtain⟨a,a1,a2,a3⟩:=Ok s.Arena ha s.Vols[i].Root;have b:ap 32 l [BS.mk 2 s.Vols[i].Id 0 0]=some (l++ [BS.mk 2 s.Vols[i].Id 0 0]):=Bq (by grind);simp only[Er,Ir,D6 hi,Ao,hg,Aa,b,a1,a2];obtain⟨u,u1,u2,u3⟩:=Hp (body:=λq:List BS×Int=>Ft s (i:Int) a q.1 q.2) (body':=λq:List BS×Int=>Iq s.Vols[i] a q.1 q.2) (λ(l:List BS) k=>(l,k)) a.length (λk o=>o.length<=l.length+1+k) (λo=>o.length<=l.length+17)
    (λo k hk ho=>by
     have c:a[k]?=some a[k]:=Ab hk
     grind [Ao,ad1,Bq,Ft,Iq])
    (λo ho=>⟨by simp[Dk,Ft,Iq],o,by simp[Dk,Ft],by omega⟩) (s:=l++ [BS.mk 2 s.Vols[i].Id 0 0]) (by simp)
   grind [ad1])
  (λl hl=>⟨by simp[Dk,Er,Ir],l,by simp[Dk,Er],hl⟩) (s:=[BS.mk 1 0 s.Next 0]) (by simp)
 grind
variable {r re:List Aj} {d e:Ax} {s a b:Store} {f:Flash} {q:RF} {t:ByteArray} {v n k o:Int} {x:BS} {l code:List Int} {i:Nat}
theorem kM (h:Gf d r):∃st ok,Nh d=some (st,ok)/\Nw d=some (st,ok)/\(ok=true->1<=st.length)/\st.length<=1048576:=by
 have hf:IB d.Flash:=h.fl.cap;obtain⟨a,r1,r2,r3⟩:=kN d.Store (by have:=h.st.len;omega)<|Yr h.st;have hb:=h.st.vs;obtain⟨b1,b2⟩:=bO hb;have e:=Tl h.st;rw[r1]at e
 injection e with e
 subst e;obtain⟨st,ok,w1,w2,w3⟩:=NA d hf (L0 (AO d.Store) d.Store.Next) (by omega)<|bs [];refine⟨st,ok,?_,?_,?_,by omega⟩
 ·unfold Nh;grind
 ·unfold Nw;grind
 intro ho;subst ho
 rcases P3 h.fl h.seqs (L0 (AO d.Store) d.Store.Next) (by unfold L0;simp) b2 b1 (bs [])with w|⟨steps,T,g,b,q1,q2,q3,q4,q5,q6,q7,q8,q9⟩
 ·grind
 rw[w1]at q2
 injection q2 with q2
 injection q2 with q2 _
 subst q2;have c:=(DQ q7).2
 grind [By]
theorem UI (x a b:Int):FB x a b=some (decide (a<=x/\x<=b)):=by
 unfold FB
 grind
theorem Li (h:l.length<=1048576):Hs l=some l:=by grind [Ku,Hs]
theorem QA (a:Arena) (h:wQ a.Knots):Hu a=some a:=by
 unfold Hu;have q:=Ty (body:=λs:Int×List Bb=>Ht a s.1 s.2) a.Knots (λk=>k)
  (λi x b hx ho=>by
   have hi:=(Ae.1 hx).1;have hk:=h.2 x<|Ap hx;simp only[Ht,D6 hi,Ao,hx,Aa];rw[Li hk];simp only[Aa];have:=h.1;rw[Bq (by simp;omega),ad1]
   rfl)
  (λb=>by simp[Dk,Ht])
 rw[q];simp
theorem M8 (s:Store) (h:wQ s.Arena.Knots) (hv:s.Vols.length<=1048576):Gl s=some s:=by
 unfold Gl;rw[Ku (by omega),QA _ h];rfl
theorem Pn (a:Arena) (ha:a.Knots.length<=1048576):HQ a=some (Cl a.Knots):=by grind [Ue,Jy]
theorem Q5 (a:Arena) (ha:a.Knots.length<=1048576) (r:Int):FT a r=some (decide (0<=r/\r<(a.Knots.length:Int))&&!(Bz a.Knots r).Leaf):=by
 unfold FT;rw[UI,Bi,BC]
 grind [GV]
theorem iD {a:Arena} {r:Int} (ha:a.Knots.length<=1048576) (hr:CN a.Knots r=true):(cond (r !=(-1)) ((FT a r).bind λv2=>some (!v2)) (some false):Option Bool)=some false:=by grind [B5,Q5]
theorem mV {r:Int} {s:Nat} (a:Arena) (ha:a.Knots.length<=1048000) (hK:Cl a.Knots=true) (hr:CN a.Knots r=true) (hs:s<16) (hn:0<=n):
  Wt a r (s:Int) n=some (Arena.mk (Ja a.Knots r s n),(a.Knots.length:Int)+1):=by
 unfold Wt;rw[QA _ (JI hK<|by omega),Pn a (by omega),UI,hK];rw[Ac (by omega:0<=(s:Int)/\(s:Int)<=15),Ah (by omega:¬n<0)];simp only[Al,Ad,Aa];have hq:(cond (r !=(-1)) ((FT a r).bind λv2=>cond (!v2) (some true)<|some false) (some false):Option Bool)=some false:=by grind [B5,Q5]
 rw[hq,mk4];simp only[Aa,Ad];have fin:∀(lf tp:List Int),lf.length=4->tp.length=4->Ja a.Knots r s n=a.Knots++ [Bb.mk true<|lf.set (s %4) n,Bb.mk false<|tp.set (s/4) (a.Knots.length:Int)]->
   ((gi lf<|Int.tmod (s:Int) 4).bind λx4=>(gi tp<|qu (s:Int) 4).bind λx5=>(ap 32 a.Knots [Bb.mk true<|si lf (Int.tmod (s:Int) 4) n,Bb.mk false<|si tp (qu (s:Int) 4)<|ln a.Knots]).bind λq2=>some (Arena.mk q2,ad (ln a.Knots) 1))=some (Arena.mk<|Ja a.Knots r s n,(a.Knots.length:Int)+1):=by
  intro lf tp h1 h2 h3;rw[qu4 hs,s8,Ao,Ao,Ab (by omega),Ab (by omega),Aa,Bq (by simp;omega),Eh,Eh,Bi,<-h3,ad1];rfl
 rcases B5 hr with rfl|⟨h0,h1,hl⟩
 ·rw[Ah (by omega:¬(-1:Int)>=0)];simp only[Ad,Aa];have hx:gi [(-1:Int),-1,-1,-1] (qu (s:Int) 4)=some (-1):=by
   rw[qu4 hs,Ao]
   grind
  rw[hx,Aa,Ah (by omega:¬(-1:Int)>=0)];have:=fin [0,0,0,0] [-1,-1,-1,-1] rfl rfl rfl
  grind
 rw[cT,GV h0 h1];have h4:=(E7 hK h0 h1).1;rw[Aa,Li<|by omega];simp only[Aa];have hx:gi (Bz a.Knots r).Kids (qu (s:Int) 4)=some (ND (Bz a.Knots r)<|s/4):=by rw[qu4 hs,iZ (by omega:s/4<(Bz a.Knots r).Kids.length)]
 rw[hx];simp only[Aa]
 rcases Fi hK h0 h1 hl (show s/4<4 by omega)with e|⟨e1,e2,e3⟩
 ·grind [Ja,PD,SO]
 rw[cT,GV e1<|by omega]
 grind [E7,Li,Ja,PD,SO]
theorem Ww (l:List Int) (n:Int) (hl:l.length<=1048576):M7 l n=some (l.contains n):=by
 unfold M7;obtain⟨b,h1,h2⟩:=A9 (body:=λs:Int=>KZ l n s) (λ(_:Unit) i=>i) l.length (λi _=>n∉l.take i) (λb=>(b= .inr true/\n∈l)\/(b= .inl ()/\n∉l))
  (λ_ i hi hs=>by
   have hx:=Ab hi;simp only[KZ,D6 hi,Ao,hx,Aa];rw[ad1]
   cases e:(l[i]==n)with
   |true=>grind
   |false=>
    refine .inl ⟨(),by rfl,?_⟩
    grind [Af])
  (λ_ hs=>⟨.inl (),by simp[Dk,KZ],.inr ⟨rfl,by grind⟩⟩) (s:=()) (by simp)
 grind
theorem T6 {r:Int} (a:Arena) (ha:a.Knots.length<=1048000) (hK:Cl a.Knots=true) (hr:CN a.Knots r=true):∃l,NV a r=some l/\l.length<=5/\∀i:Nat,(i:Int)∈l↔MO a.Knots r i=true:=by
 unfold NV;rw[Q5 a<|by omega]
 rcases B5 hr with rfl|⟨h0,h1,hl⟩
 ·simp[MO]
 rw[Ac ⟨h0,h1⟩,hl,GV h0 h1];simp only[BW,Bool.and_self,Al,Ad,Aa];obtain⟨h4,hk⟩:=E7 hK h0 h1;obtain⟨l,q1,q2,q3⟩:=A9 (body:=λs:List Int×Int=>J3 a (Bz a.Knots r) s.1 s.2) (λ(o:List Int) i=>(o,i)) (Bz a.Knots r).Kids.length
  (λi o=>o.length<=1+i/\∀n:Nat,(n:Int)∈o↔(r=(n:Int)\/(n:Int)∈(Bz a.Knots r).Kids.take i)) (λo=>o.length<=5/\∀n:Nat,(n:Int)∈o↔(r=(n:Int)\/(n:Int)∈(Bz a.Knots r).Kids))
  (λo i hi ho=>by
   have hx:=Ab hi;have et:(Bz a.Knots r).Kids.take (i+1)=(Bz a.Knots r).Kids.take i++ [(Bz a.Knots r).Kids[i]]:=Af hi;refine .inl ?_;simp only[J3,D6 hi,Ao,hx,Aa];rw[UI,Bi,BC,ad1];simp only[Aa];have b:(Bz a.Knots r).Kids[i]=ND (Bz a.Knots r) i:=by grind
   rcases Fi hK h0 h1 hl (show i<4 by omega)with e|⟨e1,e2,e3⟩
   ·grind
   rw[cT,Ww o _<|by omega];simp only[Aa]
   cases hc:o.contains (Bz a.Knots r).Kids[i]with
   |true=>
    grind
   |false=>
    rw[Bq (by simp;omega)];refine⟨_,rfl,by simp;omega,λn=>?_⟩
    grind)
  (λo ho=>⟨o,by simp[Dk,J3],by have:=ho.1;omega,by grind⟩) (s:=[r]) ⟨by simp,λn=>by simp[eq_comm]⟩
 grind [MO]
theorem Zk (hr:F5 r):∃l,Ai (λs:List Int×Int=>IX r s.1 s.2) ([],0)=some l/\l.Nodup/\(∀x,x∈l↔∃y∈r,y.Page.Kind=2/\y.Page.Tx=x)/\l.length<=r.length:=by
 have a:=hr.len;obtain⟨l,h1,h2,h3,h4⟩:=A9 (body:=λs:List Int×Int=>IX r s.1 s.2) (λ(o:List Int) i=>(o,i)) r.length (λi o=>o.Nodup/\(∀x,x∈o↔∃y∈r.take i,y.Page.Kind=2/\y.Page.Tx=x)/\o.length<=i) (λo=>o.Nodup/\(∀x,x∈o↔∃y∈r,y.Page.Kind=2/\y.Page.Tx=x)/\o.length<=r.length)
  (λo i hi ho=>by
   have hx:=Ab hi;have et:r.take (i+1)=r.take i++ [r[i]]:=by simp
   refine .inl ?_;simp only[IX,D6 hi,Ao,hx,Aa];rw[ad1,Ww o _<|by omega]
   cases hk:(r[i].Page.Kind==2)with
   |false=>grind
   |true=>
    cases hc:o.contains r[i].Page.Tx with
    |true=>grind
    |false=>
     rw[Bq<|by grind];refine⟨_,rfl,?_,λx=>?_,by simp;omega⟩
     ·grind
     grind)
  (λo ho=>⟨o,by simp[Dk,IX],by grind⟩) (s:=[]) ⟨CZ,by simp,by simp⟩
 grind
theorem qT (hr:F5 r) (h1:l.Nodup) (h2:∀x,x∈l↔∃y∈r,y.Page.Kind=2/\y.Page.Tx=x):R9 l=De r:=by
 obtain⟨n1,n2,n3⟩:=FQ r λy hy=>(hr.tx y hy).1;refine TQ ?_ n1 λx=>?_
 ·have hs:(R9 l).Pairwise λx y=>x<=y:=by grind [List.pairwise_mergeSort,R9]
  have hd:(R9 l).Nodup:=by grind [List.mergeSort_perm,R9]
  unfold asc;exact(hs.and hd).imp (λh=>by omega)
 simp_all [R9]
theorem ZY (t:ByteArray) (ht:(L t).length<=20000):∀(n a:Nat) (c:List BS),(L t).length-a<=n->a<=(L t).length->c.length<=a->Ai (λs:List BS×Int=>K8 t s.1 s.2) (c,(a:Int))=Ai (λs:List BS×ByteArray×Int×Bool=>DA t s.1 s.2.1 s.2.2.1 s.2.2.2) (c,t,(a:Int),false)
 |n,a,c,hn,ha,ho=>by
  rw[Au,Au];simp only[DA,K8];rw[Bh];by_cases d:a<(L t).length
  ·rw[Ac (by omega:(a:Int)<((L t).length:Int))];rw[Eg t d,ad1];obtain⟨r1,a1,a2,a3⟩:=H7 t ((a+1:Nat):Int) (by omega) ⟨by omega,by omega⟩;have f:oI r1.2.1:=by
    rcases a3 with⟨_,_,e⟩|⟨_,_,b,_,_,e,_,_,e2,_⟩
    ·rw[e];exact⟨by omega,by omega⟩
    rw[e];exact⟨by omega,by omega⟩
   obtain⟨r2,b1,b2,b3⟩:=H7 t r1.2.1 (by omega) f;rw[a2,Aa,b2];have l1:CH (Eb.mk t ((a+1:Nat):Int) false)=some (if r1.2.2=true then(r1.1,Eb.mk t r1.2.1 false)else(0,Eb.mk t ((a+1:Nat):Int) true)):=by grind [CH]
   rw[l1]
   cases h1:r1.2.2 with
   |false=>grind [CH]
   |true=>
    simp only[C4,Aa,Al,Ad];have l2:CH (Eb.mk t r1.2.1 false)=some (if r2.2.2=true then(r2.1,Eb.mk t r2.2.1 false)else(0,Eb.mk t r1.2.1 true)):=by grind [CH]
    rw[l2]
    cases h2:r2.2.2 with
    |false=>rfl
    |true=>
     simp only[C4,Aa,Al,Ad];obtain⟨v,c1,c2,_⟩:=Y5<|BS.mk (qu (IntKind.i64.wrap ((L t)[a].toNat:Int)) 16) (Int.tmod (IntKind.i64.wrap ((L t)[a].toNat:Int)) 16) r1.1 r2.1;rw[c1,c2];simp only[Aa]
     cases v with
     |false=>rfl
     |true=>
      rw[Bq (by simp;omega)]
      rcases b3 with⟨e,_⟩|⟨_,aa,b,m,k1,k2,k3,k4,k5,_⟩
      ·grind
      rcases a3 with⟨e,_⟩|⟨_,aa',b',m',p1,p2,p3,p4,p5,_⟩
      ·grind
      rw[k2]
      match n,hn with
      |n+1,hn=>exact ZY t ht n b _ (by omega) k5 (by simp;omega)
      |0,hn=>omega
  grind
theorem Zh (t:ByteArray) (ht:(L t).length<=20000):Pa t=Hk t:=by
 have h:=ZY t ht (L t).length 0 [] (by omega) (by omega)<|by simp
 grind [Pa,Hk]
def ABZ:Page:=Page.mk 0 0 0 0 0<|bs []
theorem aS (r:List Aj) (hl:r.length<=1048576) (t a c:Int) (h:(a=0/\c=0)\/(0<a/\0<c)):Q4 r t a c=some (match QM r t a c with|some y=>(y.Page,true)|none=>(ABZ,false)):=by
 have hp:∀y:Aj,(cond (y.Page.Kind==2) (cond (y.Page.Tx==t) (cond (y.Page.Part==a) (cond (c==0) (some true)<|some<|y.Page.Count==c)<|some false)<|some false) (some false):Option Bool)=some (kP t a c y):=by grind [kP]
 unfold Q4;obtain⟨b,h1,h2⟩:=A9 (body:=λs:Int=>KY r t a c s) (λ(_:Unit) i=>i) r.length (λi _=>∀(j:Nat) x,j<i->r[j]?=some x->kP t a c x=false) (λb=>match QM r t a c with|some y=>b= .inr (y.Page,true)|none=>b= .inl ())
  (λ_ i hi hs=>by
   have hx:=Ab hi;simp only[KY,D6 hi,Ao,hx,Aa];rw[hp,ad1]
   cases e:kP t a c r[i]with
   |true=>grind [eV,QM]
   |false=>
    refine .inl ⟨(),by rfl,λj x hj d=>?_⟩
    grind)
  (λ_ hs=>⟨.inl (),by simp[Dk,KY],by grind [qE,QM]⟩) (s:=()) (λj x hj=>by omega)
 rw[h1]
 cases hf:QM r t a c with
 |none=>rw[hf]at h2;simp only at h2;rw[h2];rfl
 |some y=>grind
theorem wB (r:List Aj) (hr:F5 r) (t:Int) (v:Page×Bool) (hv:1<=v.1.Count/\v.1.Count<=9):∀(n:Nat) (a:Int) (text:ByteArray) (seq:Int),a+n=11->1<=a->a<=v.1.Count->(L text).length<=90*a.toNat->
  ∃b,Ai (λs:ByteArray×Int×Int=>K4 r t v s.1 s.2.1 s.2.2) (text,seq,a)=some b/\(match parts r t n a v.1.Count (L text) seq with
   |none=>b= .inr (Tx.mk 0 0 [],false)
   |some (x,q)=>∃u,b= .inl (u,q)/\L u=x/\(L u).length<=1000)
 |0,a,text,seq,hn,h1,hc,ht=>by omega
 |n+1,a,text,seq,hn,h1,hc,ht=>by
  rw[Au];simp only[K4,parts];by_cases e:a<v.1.Count
  ·rw[Ac e,B3 (.inr e)];rw[aS r hr.len t a v.1.Count (.inr ⟨by omega,by omega⟩)];simp only[Aa]
   cases hf:QM r t a v.1.Count with
   |none=>grind
   |some y=>
    simp only[Al,Ad];have hy:=QL hf;have d:=hr.text y hy.1;have c:=pX hy.2 (by omega);rw[Fy text y.Page.Text (by omega),Aa,BL,c];have es:Qu a seq y=(if y.Page.Seq<seq then y.Page.Seq else seq):=by grind [Qu]
    rw[es,<-FZ];exact wB r hr t v hv n (a+1) _ _ (by omega) (by omega) (by omega)<|by grind [FZ]
  simp_all [Ah];grind
theorem dU (r:List Aj) (hr:F5 r) (t:Int):∃x ok,OQ r t=some (x,ok)/\IZ r t=(if ok=true then some x else none)/\x.Recs.length<=20000:=by
 unfold OQ IZ;rw[aS r hr.len t 0 0<|.inl ⟨rfl,rfl⟩];simp only[Aa]
 have a:parts r t 11 0 0 [] 0=(match QM r t 0 0 with
  |none=>none
  |some y=>parts r t 10 1 y.Page.Count (L y.Page.Text) y.Page.Seq):=by rfl
 rw[a]
 cases hf:QM r t 0 0 with
 |none=>simp
 |some y=>
  simp only[Al,Ad];have hy:=QL hf;have c:=hr.text y hy.1;have hc:=hr.cnt y hy.1;obtain⟨b,h1,h2⟩:=wB r hr t (y.Page,true) hc 10 1 y.Page.Text y.Page.Seq (by omega) (by omega) hc.1 (by omega);rw[h1];simp only[Aa]
  cases hp:parts r t 10 1 y.Page.Count (L y.Page.Text) y.Page.Seq with
  |none=>grind
  |some w=>
   obtain⟨x,q⟩:=w;rw[hp]at h2;obtain⟨u,rfl,rfl,h4⟩:=h2;simp only[CL];obtain⟨l,ok,r1,r2,r3⟩:=Y6 u (by omega);rw[Zh u (by omega),r1,ACu,r2];simp_all;grind
theorem V3 (r:List Aj) (hr:F5 r):QG r=some (AK r):=by
 have c:=hr.len;have a:=FQ r λy hy=>(hr.tx y hy).1;obtain⟨l,l1,l2,l3,l4⟩:=Zk hr;unfold QG;rw[l1];simp only[Aa];unfold Tb;rw[B3 (by omega),qT hr l2 l3];simp only[Aa];obtain⟨b,h1,h2⟩:=A9 (body:=λs:List Tx×Int=>Le r (De r) s.1 s.2) (λ(o:List Tx) i=>(o,i)) (De r).length (λi o=>o=((De r).take i).filterMap (IZ r)) (λb=>b=AK r)
  (λo i hi ho=>by
   have hx:=Ab hi;have et:(De r).take (i+1)=(De r).take i++ [(De r)[i]]:=Af hi;simp only[Le,D6 hi,Ao,hx,Aa];rw[ad1];obtain⟨z,ok,k1,k2,k3⟩:=dU r hr (De r)[i]
   grind [Bq])
  (λo ho=>⟨o,by simp[Dk,Le],by rw[ho,Dg];rfl⟩) (s:=[]) rfl
 grind
theorem aX (x:Tx):Q6 x=some (mO x):=by grind [Bi,Q6,mO,gi]
theorem nO (h:Gf d r):Np d=Mp d:=by
 have hr:=h.pages;unfold Np Mp
 cases(d.Base !=sb d.Tx 1)with
 |true=>rfl
 |false=>
  rw[h.scan.s,h.scan.i];simp only[Aa];rw[Ng r hr,V3 r hr];simp only[Aa];have hb:(λs:Int=>J5 d (AK r) s)=(λs:Int=>GB d (AK r) s):=by
   funext s;simp only[J5,GB]
   cases decide (s<ln (AK r))with
   |false=>rfl
   |true=>
    cases hg:gi (AK r) s with
    |none=>rfl
    |some x=>simp_all [aX,Bi,mO,gi];grind
  rw[hb]
theorem Zs (h:Gf d r):OS d=Mt d:=by
 have hn:=h.fl.n;obtain⟨live,l1,l2,l3,l4⟩:=E5 h.st;unfold Mt OS;rw[h.scan.s,l1];simp only[Aa];rw[LG r live d.Base h.scan.len l4,LG r live 1000000000 h.scan.len l4];simp only[Aa]
 have c:∀b,live.foldl (YW r) (r.map<|Dh b)=BX r live b:=λ_=>rfl
 rw[c,c]
 have hi:∀b:Block,IW b=Ff b:=λ_=>rfl
 have step:∀(o:Int×Int) (i:Nat),i<d.Flash.Blocks.length->GJ d o.1 o.2 (i:Int)=Dl d r (BX r live d.Base) (BX r live 1000000000) o.1 o.2 (i:Int)/\∃o':Int×Int,Dl d r (BX r live d.Base) (BX r live 1000000000) o.1 o.2 (i:Int)=some (.inl (o'.1,o'.2,((i+1:Nat):Int))):=by
  intro o i a;have hx:=Ab a;have hP:=h.fl.blk _<|Ar a;have e:GH d.Flash.Blocks[i].Leaves<=4:=by have:=dL d.Flash.Blocks[i].Leaves;rw[hP.four]at this;exact this
  simp only[Dl,GJ,D6 a,Ao,hx,Aa];rw[Xr r _ (i:Int) h.scan.len<|IR _ _ _,Xr r _ (i:Int) h.scan.len<|IR _ _ _,hi,Jw _ hP.four,ad1,(j9 h l1 l2 l4 1000000000 (i:Int)).2,(j9 h l1 l2 l4 d.Base (i:Int)).2];generalize cn r.length (λj=>(BX r live d.Base)[j]?.getD false&&bk r (i:Int) j)=A;generalize cn r.length (λj=>(BX r live 1000000000)[j]?.getD false&&bk r (i:Int) j)=C;simp only[Aa]
  cases d.Flash.Blocks[i].Bad with
  |true=>grind
  |false=>
   simp only[BW,An,Ad,Aa];by_cases q:GH d.Flash.Blocks[i].Leaves=4
   ·rw[Ah (by omega:¬((GH d.Flash.Blocks[i].Leaves:Nat):Int)<4),show(((GH d.Flash.Blocks[i].Leaves:Nat):Int)==4)=true by simp;omega];simp_all;grind
   grind
 obtain⟨v,e1,e2,_⟩:=Hp (body:=λs:Int×Int×Int=>Dl d r (BX r live d.Base) (BX r live 1000000000) s.1 s.2.1 s.2.2) (body':=λs:Int×Int×Int=>GJ d s.1 s.2.1 s.2.2) (λ(o:Int×Int) i=>(o.1,o.2,i)) d.Flash.Blocks.length (λ_ _=>True) (λ_=>True)
  (λo i a _=>by simp_all)
  (λo _=>⟨by simp[Dk,Dl,GJ],o.1,by simp[Dk,Dl],trivial⟩) (s:=(-1,4)) trivial
 grind
theorem Z0 (h:IE d r):Pj d=Mx d:=by
 obtain⟨l,d1,d2,_⟩:=Zz d<|Z4 h.dev;obtain⟨st,ok,b1,b2,_⟩:=kM h.dev;obtain⟨live,l1,l2,l3,l4⟩:=E5 h.dev.st
 have hm:∀b,Lc d b=Hm d b:=λb=>by
  obtain⟨v,_,v2,v3,_⟩:=YC h.dev h.few l1 l2 l3 l4 b;rw[v2,v3]
 unfold Pj Mx;rw[d1,d2,nO h.dev,Zs h.dev,b1,b2]
 grind
theorem WY (h:Gf d r) (vol k:Int):NN d vol k=(GC r d.Store vol k):=by
 unfold NN;rw[h.scan.s];simp only[Aa];cases GC r d.Store vol k<;>rfl
theorem jF {body:Int×Int->Option ((Int×Int)⊕Int)} (l:List Int) (p:Int->Bool) (n0:Int) (h0:0<=n0) (hM:(l.length:Int)+n0<=1152921504606846976) (hb:∀(n:Int) (i:Nat) x,l[i]?=some x->body (n,(i:Int))=(bif p x then some (.inl (ad n 1,ad (i:Int) 1))else some (.inl (n,ad (i:Int) 1)))) (he:∀n,body (n,(l.length:Int))=some (.inr n)):Ai body (n0,0)=some (n0+((l.filter p).length:Int)):=by
 obtain⟨b,h1,rfl⟩:=A9 (body:=body) (λ(n:Int) i=>(n,i)) l.length (λi n=>n=n0+(((l.take i).filter p).length:Int)) (λn=>n=n0+((l.filter p).length:Int))
  (λn i hi hn=>by
   have hg:l[i]?=some l[i]:=Ab hi;have a:=Cu p<|l.take i;simp only[FY]at a;refine .inl ?_;rw[hb n i _ hg];have et:l.take (i+1)=l.take i++ [l[i]]:=by simp
   cases hp:p l[i]with
   |true=>
    rw[BL,ad1]
    grind
   |false=>
    rw[ad1]
    grind)
  (λn hn=>⟨n,he n,by grind⟩) (s:=n0) (by simp)
 exact h1
theorem sM (s:Store) (hv:s.Vols.length<=1048576) (ha:Oc s.Arena) (c:Int) (hc:0<c):∃n:Int,Ti s c=some n/\iR s c=some n/\0<=n/\n<=16777216/\n=(((HW s s.Vols.length).filter λx=>x==c).length:Int):=by
 have hN:=Tu s ha s.Vols.length<|Ay _;have b:=Cu (λx:Int=>x==c)<|HW s s.Vols.length;refine⟨(((HW s s.Vols.length).filter λx=>x==c).length:Int),?_,?_,by omega,by omega,rfl⟩
 ·unfold Ti;obtain⟨n,h1,rfl⟩:=A9 (body:=λq:Int×Int=>KL s c q.1 q.2) (λ(n:Int) i=>(n,i)) s.Vols.length (λi n=>n=(((HW s i).filter λx=>x==c).length:Int)) (λn=>n=(((HW s s.Vols.length).filter λx=>x==c).length:Int))
   (λn i hi hn=>by
    have hg:s.Vols[i]?=some s.Vols[i]:=Ab hi;obtain⟨a,a1,_,a2⟩:=Ok s.Arena ha s.Vols[i].Root;have d:=Tu s ha i (by omega);have e:=Cu (λx:Int=>x==c)<|HW s i;refine .inl ?_;simp only[KL,Gk,Ac hi,An,Ao,hg,Aa,a1];rw[Ac (by omega:c>0)]
    rw[jF (body:=λq:Int×Int=>KK c a q.1 q.2) a (λx=>x==c) n (by omega) (by omega)
     (λm k y hy=>by grind [Gk,Ao,KK])
     (λm=>by grind [Gk,KK])]
    grind [ad1,Rh])
   (λn hn=>⟨n,by grind [Gk,KL],hn⟩) (s:=0) (by simp[HW])
  rw[h1];rfl
 unfold iR;rw[VD s hv ha];simp only[Aa];have f:=Cu (λx:Int=>decide<|x>0)<|HW s s.Vols.length
 rw[jF (body:=λq:Int×Int=>Nt c ((HW s s.Vols.length).filter λx=>decide<|x>0) q.1 q.2) ((HW s s.Vols.length).filter λx=>decide<|x>0) (λx=>x==c) 0 (by omega) (by omega)
  (λm k y hy=>by grind [Gk,Ao,Nt])
  (λm=>by grind [Gk,Nt])]
 simp_all;grind
theorem d7 (a:Arena) (ha:a.Knots.length<=1048000) (hK:Cl a.Knots=true) (R:List Int) (hc:R.length<=1000) (hR:∀r∈R,CN a.Knots r=true) (v:List Int):∃l,Ai (λs:List Int×Int=>ER a R v s.1 s.2) ([],0)=some (.inl l)/\l.length<=5000/\∀i:Nat,(i:Int)∈l↔Cm a.Knots R i=true:=by
 obtain⟨b,h1,l,rfl,h3,h4⟩:=A9 (body:=λs:List Int×Int=>ER a R v s.1 s.2) (λ(o:List Int) i=>(o,i)) R.length (λi o=>o.length<=5*i/\∀n:Nat,(n:Int)∈o↔Cm a.Knots (R.take i) n=true) (λb=>∃l,b= .inl l/\l.length<=5000/\∀i:Nat,(i:Int)∈l↔Cm a.Knots R i=true)
  (λo i hi ho=>by
   obtain⟨o1,o2⟩:=ho;have hx:=Ab hi;have hr:=hR _<|Ar hi;obtain⟨m,m1,m2,m3⟩:=T6 a ha hK hr;simp only[ER,D6 hi,Ao,hx,Aa];rw[iD (by omega) hr];simp only[Aa,Ad];rw[m1,Aa,Bq (by omega),ad1]
   simp_all [SS,Cm];grind)
  (λo ho=>⟨_,by simp[Dk,ER],o,rfl,by have:=ho.1;omega,by grind⟩) (s:=[]) ⟨by simp,λn=>by simp[Cm]⟩
 grind
theorem Zb (a:Arena) (ha:a.Knots.length<=1048000) (hK:Cl a.Knots=true) (R:List Int) (hR:∀r∈R,CN a.Knots r=true) (l:List Int) (z:l.length<=5000) (hl:∀i:Nat,(i:Int)∈l↔Cm a.Knots R i=true):
  Ai (λs:List Int×Int×List Bb=>EQ a l s.1 s.2.1 s.2.2) (List.replicate a.Knots.length 0,0,[])=some (SA a.Knots R a.Knots.length,ST a.Knots R):=by
 have h:∀i:Nat,l.contains (i:Int)=Cm a.Knots R i:=λi=>by grind
 obtain⟨b,h1,h2⟩:=A9 (body:=λs:List Int×Int×List Bb=>EQ a l s.1 s.2.1 s.2.2) (λ(o:List Int×List Bb) i=>(o.1,i,o.2)) a.Knots.length
  (λi o=>o=(SA a.Knots R i,((List.range i).filter<|Cm a.Knots R).map<|WM a.Knots R)) (λb=>b=(SA a.Knots R a.Knots.length,ST a.Knots R))
  (λo i hi ho=>by
   subst ho;have h0:(0:Int)<=(i:Int):=by omega
   have f:(i:Int)<(a.Knots.length:Int):=by omega
   simp only[EQ,D6 hi];rw[GV h0 f,Ww l _ (by omega),h];simp only[Aa]
   cases hu:Cm a.Knots R i with
   |false=>
    rw[ad1];refine .inl ⟨(SA a.Knots R i,((List.range i).filter<|Cm a.Knots R).map<|WM a.Knots R),rfl,?_⟩;simp_all [Dy,SA];grind
   |true=>
    obtain⟨h4,hk⟩:=E7 hK h0 f;have n:gi (SA a.Knots R i) (i:Int)=some 0:=by grind [Ao,SA]
    rw[n,Li<|by omega];simp only[Aa];have y:=AAO (K:=a.Knots) (R:=R) i;have h3:(((List.range i).filter<|Cm a.Knots R).map<|WM a.Knots R).length=fS a.Knots R i:=by rw[Bt];rfl
    have d:si (SA a.Knots R i) (i:Int) (ln<|((List.range i).filter<|Cm a.Knots R).map<|WM a.Knots R)=SA a.Knots R (i+1):=by simp_all [Bi,Eh,NO,SA];grind
    have inner:Ai (λs:Int×List Int=>EP (SA a.Knots R i) (i:Int) (((List.range i).filter<|Cm a.Knots R).map<|WM a.Knots R) (Bz a.Knots (i:Int)) s.1 s.2) (0,(Bz a.Knots (i:Int)).Kids)=some (WM a.Knots R i).Kids:=by
     have q:=M5 (body:=λs:Int×List Int=>EP (SA a.Knots R i) (i:Int) (((List.range i).filter<|Cm a.Knots R).map<|WM a.Knots R) (Bz a.Knots (i:Int)) s.1 s.2) (λl k=>(k,l)) (λ_ x=>bif(Bz a.Knots (i:Int)).Leaf then x else PL a.Knots R x) (Bz a.Knots (i:Int)).Kids
      (λk l x p t g=>by
       have u:=(Ae.1 g).1;have v:k<4:=by omega
       have ex:x=ND (Bz a.Knots (i:Int)) k:=by grind
       have same:l.set k x=l:=by
        apply BU
        grind
       simp only[EP,D6 u,Ao,g,Aa];rw[d]
       cases j:(Bz a.Knots (i:Int)).Leaf with
       |true=>grind [ad1]
       |false=>
        simp only[BW,An,Ad,Aa]
        rcases Fi hK h0 f j v with e|⟨e1,e2,e3⟩
        ·grind [ad1,PL]
        obtain⟨c,hc⟩:∃c:Nat,x=(c:Int):=⟨x.toNat,by omega⟩;have w:x∈(Bz a.Knots (i:Int)).Kids:=Ap g;have m:=SK (WC hK hR hu j) h0 w (by omega);rw[hc]at m;rw[hc,Ao];unfold SA;rw[LY (by omega),Aa,B3 ⟨by omega,m⟩,t,Aa,Eh,ad1]
        rfl)
      (λl p=>by simp[Dk,EP])
     rw[HI]at q;rw[q];unfold WM
     cases(Bz a.Knots (i:Int)).Leaf with
     |true=>simp
     |false=>rfl
    rw[inner,Aa,Bq (by grind),Aa,ad1,d];refine .inl ⟨(_,_),rfl,?_⟩;congr 1;rw[Dy,BN,HS hu,List.filter_nil,IC]
    rfl)
  (λo ho=>⟨o,by simp[Dk,EQ],ho⟩) (s:=(List.replicate a.Knots.length 0,[])) (by grind [L4,ES,SA])
 grind
theorem mS (a:Arena) (ha:a.Knots.length<=1048000) (hK:Cl a.Knots=true) (R:List Int) (hc:R.length<=1000) (hR:∀r∈R,CN a.Knots r=true):LJ a R=some (Arena.mk (ST a.Knots R),R.map (PL a.Knots R)):=by
 unfold LJ;rw[Li<|by omega];simp only[Aa];obtain⟨l,l1,l2,l3⟩:=d7 a ha hK R hc hR R;rw[l1,Pn a (by omega),hK];simp only[Aa,CL,Al,Ad];rw[Bi,X4 (by omega) (by omega),Aa,Zb a ha hK R hR l l2 l3];simp only[Aa];have q:=M5 (body:=λs:List Int×Int=>G8 R (SA a.Knots R a.Knots.length,ST a.Knots R) s.1 s.2) (λl k=>(l,k)) (λ_ x=>PL a.Knots R x) R
  (λk l x g h b=>by
   have hk:=(Ae.1 b).1;simp only[G8,D6 hk,Ao,b,Aa]
   rcases B5 (hR x<|Ap b)with e|⟨e1,e2,e3⟩
   ·rw[cF,ad1];have:PL a.Knots R x=x:=by unfold PL;omega
    rw[this,show l.set k x=l from by
     apply BU
     grind]
   rw[cT];obtain⟨c,d⟩:∃c:Nat,x=(c:Int):=⟨x.toNat,by omega⟩;have f:=NG (K:=a.Knots) (Ap b) e1;rw[d]at f;rw[d,Ao];unfold SA;rw[LY (by omega),Aa,B3 ⟨by omega,f⟩,h,Aa,Eh,ad1]
   rfl)
  (λl g=>by simp[Dk,G8])
 grind [HI]
theorem OO (h:StoreR s):K7 s=some (JY s):=by
 have hl:=h.len;have hf:=h.few;have d:(Be s).length=s.Vols.length:=by unfold Be;rw[Bt]
 unfold K7;have hr:Ai (λq:List Int×Int=>Ev s q.1 q.2) ([],0)=some (Be s):=by
  obtain⟨b,h1,h2⟩:=A9 (body:=λq:List Int×Int=>Ev s q.1 q.2) (λ(o:List Int) i=>(o,i)) s.Vols.length (λi o=>o=(s.Vols.take i).map Vol.Root) (λb=>b=Be s)
   (λo i hi ho=>by
    have hx:=Ab hi;simp only[Ev,D6 hi,Ao,hx,Aa]
    grind [Bq,ad1,Dm])
   (λo ho=>⟨o,by simp[Dk,Ev],by rw[ho,AP<|Ay _];rfl⟩) (s:=[]) rfl
  grind
 rw[hr];simp only[Aa];rw[mS _ (by omega) h.ar _ (by omega) h.root];simp only[Aa];have q:=M5 (body:=λq:Int×List Vol=>FU s (Arena.mk<|ST s.Arena.Knots<|Be s,(Be s).map<|PL s.Arena.Knots<|Be s) q.1 q.2) (λl i=>(i,l)) (λ_ v=>Vol.mk v.Id<|PL s.Arena.Knots (Be s) v.Root) s.Vols
  (λi l x a e c=>by
   have hi:=(Ae.1 c).1;simp only[FU,D6 hi]
   grind [Ao,Eh,ad1,Be])
  (λl a=>by simp[Dk,FU])
 rw[HI]at q;rw[q];rfl
theorem vK {K:Ks} {R:List Int} (hK:Cl K=true) (hR:∀r∈R,CN K r=true) (hi:i<K.length) (hu:Cm K R i=true) (hl:(Bz K (i:Int)).Leaf=true) (hn:n∈(Bz K (i:Int)).Kids):∃r∈R,n∈EF K r:=by
 unfold Cm at hu;obtain⟨r,hr,h⟩:=Ex.1 hu;unfold MO at h;rw[Ak,Bf,GO,Bf,Ex]at h;obtain⟨h0,h⟩:=h
 rcases B5 (hR r hr)with e|⟨_,h1,h2⟩
 ·omega
 rcases h with h|⟨x,hx,he⟩
 ·grind
 obtain⟨h4,hk⟩:=E7 hK h0 h1;obtain⟨j,hj,a⟩:=Av hx;have b:ND (Bz K r) j=(i:Int):=by grind
 obtain⟨g4,gk⟩:=E7 hK (r:=(i:Int)) (by omega) (by omega);obtain⟨t,ht,c⟩:=Av hn;have d:ND (Bz K (i:Int)) t=n:=by grind
 refine⟨r,hr,A7.2 ⟨4*j+t,by simp;omega,?_⟩⟩
 grind [PI]
theorem V0 (h:BR s):NX s=some true:=by
 have hl:=h.len;have hf:=h.few;unfold NX;rw[Bi,cF,Pn _ (by omega),h.ar,UI,Ac h.nx];obtain⟨b,h1,l,rfl,h3,h4⟩:=A9 (body:=λq:List Int×Int=>JB s q.1 q.2) (λ(o:List Int) i=>(o,i)) s.Vols.length (λi o=>o.length<=5*i/\∀n:Nat,(n:Int)∈o↔Cm s.Arena.Knots ((Be s).take i) n=true) (λb=>∃l,b= .inl l/\l.length<=5000/\∀i:Nat,(i:Int)∈l↔Cm s.Arena.Knots (Be s) i=true)
  (λo i hi ho=>by
   obtain⟨o1,o2⟩:=ho;have hx:=Ab hi;have hm:s.Vols[i]∈s.Vols:=Ar hi;have a:s.Vols[i].Root∈Be s:=A7.2 ⟨_,hm,rfl⟩;have hr:=h.root _ a;have f:(Be s)[i]?=some s.Vols[i].Root:=by unfold Be;grind
   obtain⟨m,m1,m2,m3⟩:=T6 s.Arena (by omega) h.ar hr;simp only[JB,D6 hi,Ao,hx,Aa];rw[UI,Ac<|h.ids _ hm,iD (by omega) hr];have hj:(cond (decide<|(i:Int)>0) ((gi s.Vols<|sb (i:Int) 1).bind λx2=>cond (decide<|x2.Id>=s.Vols[i].Id) (some true)<|some false) (some false):Option Bool)=some false:=by
    by_cases h0:i=0
    ·rw[cF]
    rw[cT,BC,show(i:Int)-1=((i-1:Nat):Int) by omega,Ao,Ab<|by omega];simp only[Aa];have:=Qq h.asc (show i-1<i by omega) (x:=s.Vols[i-1].Id) (y:=s.Vols[i].Id) (by grind) (by grind);rw[cF]
   rw[hj];simp only[Aa,Ad];rw[m1,Aa,Bq (by omega),ad1]
   simp_all [SS,Cm];grind)
  (λo ho=>⟨_,by simp[Dk,JB],o,rfl,by have:=ho.1;omega,by grind [AP,Be]⟩) (s:=[]) ⟨by simp,λn=>by simp[Cm]⟩
 rw[h1];simp only[Aa,CL];obtain⟨c,q1,q2⟩:=A9 (body:=λq:Int=>JA s l q) (λ(_:Unit) i=>i) s.Arena.Knots.length (λ_ _=>True) (λc=>c= .inl ())
  (λ_ i hi _=>by
   have hu:=h.used i hi;simp only[JA,D6 hi];rw[GV (by omega) (by omega),Ww l _ (by omega),List.contains_iff_mem.2<|(h4 i).2 hu];simp only[Aa,Al,Ad];obtain⟨d,e1,e2⟩:=A9 (body:=λq:Int=>J9 s (Bz s.Arena.Knots (i:Int)) q) (λ(_:Unit) i=>i) (Bz s.Arena.Knots (i:Int)).Kids.length (λ_ _=>True) (λc=>c= .inl ())
    (λ_ k hk _=>by
     have hx:=Ab hk;have h44:=(E7 h.ar (r:=(i:Int)) (by omega)<|by omega).1;simp only[J9,D6 hk,Ao,hx,Aa];rw[ad1]
     cases e:(Bz s.Arena.Knots (i:Int)).Leaf with
     |false=>simp
     |true=>
      obtain⟨r,r1,r2⟩:=vK h.ar h.root hi hu e<|Ar hk;have:=h.lt r r1 _ r2
      simp_all [Ah])
    (λ_ _=>⟨_,by simp[Dk,J9],rfl⟩) (s:=()) trivial
   rw[e1,e2];rw[ad1]
   simp)
  (λ_ _=>⟨_,by simp[Dk,JA],rfl⟩) (s:=()) trivial
 grind
def vU (l:List Vol) (v:Vol):List Vol:=(l.filter λw=>decide<|w.Id<v.Id)++ [v]++l.filter λw=>decide<|w.Id>v.Id
theorem tH {l:List Vol} {v:Vol} (h:(l.map Vol.Id).Pairwise (·<·)) (hv:∀w∈l,w.Id≠v.Id) (hl:l.length<=3):Ka (Ma Bn) (l++ [v])=some (vU l v):=by
 have hk:∀x,Bn x=x.Id:=λ_=>rfl
 obtain⟨r,h1,h2,h3⟩:=ZM Bn (l++ [v]) (by simp;omega);have hs:srt Bn (vU l v):=by
  have:=WR h v;rw[List.pairwise_map]at this
  exact this.imp λhh=>by grind
 have:r=vU l v:=by
  refine Mk _ h2 hs λk=>?_
  rw[h3 k];unfold vU;rw[BN,BN,BN,D3,D3]
  rcases Int.lt_trichotomy k v.Id with e|e|e
  ·grind [BD]
  ·grind [BD]
  grind [BD]
 rw[h1,this]
theorem dO {r:BS} {q:Int} (h:BR s) (hn:CB s r.Vol=some (-1)) (hv:∀v∈s.Vols,v.Id≠r.Vol) (h3:s.Vols.length≠3) (hq:(cond (decide (r.Arg>0)) ((CB s r.Arg).bind λv1=>cond (decide (v1<0)) ((Dt s).bind λv2=>some (.inr (v2,false))) ((gi s.Vols v1).bind λx1=>some (.inl x1.Root))) (some (.inl (-1))):Option (Int⊕(Store×Bool)))=some (.inl q)):EZ s r=some (Store.mk (vU s.Vols (Vol.mk r.Vol q)) s.Arena s.Next,true):=by
 have hl:=h.len;have c:=JI h.ar (by have:=h.few;omega);have a:=Fc s c (by omega);unfold EZ;rw[hq,hn];simp only[Aa,CL];rw[cF,Bi,show((s.Vols.length:Int)==3)=false by simp;omega];rw[a];have k1:=Rl (body:=λq:List Vol×Int=>Gh s r q.1 q.2) s.Vols (λv=>decide<|v.Id<r.Vol) [] (by simp;omega)
  (λi v b hv ho=>by
   have hi:=(Ae.1 hv).1;simp only[Gh,D6 hi,Ao,hv,Aa]
   grind [ad1,Bq])
  (λb=>by simp[Dk,Gh])
 rw[Az]at k1;rw[k1];simp only[Aa];have d:=ZL s.Vols r.Vol;rw[Bq (by simp;omega)];simp only[Aa];have k2:=Rl (body:=λq:List Vol×Int=>Gg s r q.1 q.2) s.Vols (λv=>decide<|v.Id>r.Vol) ((s.Vols.filter λv=>decide<|v.Id<r.Vol)++ [Vol.mk r.Vol q]) (by simp;omega)
  (λi v b hv ho=>by
   have hi:=(Ae.1 hv).1;simp only[Gg,D6 hi,Ao,hv,Aa]
   grind [ad1,Bq])
  (λb=>by simp[Dk,Gg])
 rw[k2];rfl
theorem jD {r:BS} (h:BR s) (hb:EG r=true) (hk:r.Kind=2):∃t ok,EZ s r=some (t,ok)/\DN s r.Vol r.Arg=some (ok,t):=by
 have hl:=h.len;have a:=JI h.ar (by have:=h.few;omega);have c:=Fc s a (by omega);have hr:=hb;unfold EG at hr;rw[hk]at hr;simp at hr
 have b:∀id,I3 s id=CB s id:=λ_=>rfl
 have root:(EZ s r=some (s,false)/\DN s r.Vol r.Arg=some (false,s))\/∃q,(cond (decide<|r.Arg>0) ((CB s r.Arg).bind λv1=>cond (decide<|v1<0) ((Dt s).bind λv2=>some<|.inr (v2,false))<|(gi s.Vols v1).bind λx1=>some<|.inl x1.Root) (some<|.inl<|-1):Option (Int⊕(Store×Bool)))=some (.inl q)/\(cond (r.Arg !=0) ((CB s r.Arg).bind λv1=>cond (decide<|v1<0) (some<|.inr (false,s))<|(gi s.Vols v1).bind λx1=>some<|.inl x1.Root) (some<|.inl<|-1):Option (Int⊕(Bool×Store)))=some (.inl q):=by grind [DZ,Ao,EZ,DN]
 rcases root with⟨g1,g2⟩|⟨q,g1,g2⟩
 ·grind
 rcases DZ s (by omega) r.Vol with⟨h1,h2⟩|⟨k,v,h1,h2,h3,_⟩
 ·by_cases h3:s.Vols.length=3
  ·simp_all [Bi,EZ,DN]
  refine⟨_,true,dO h h1 h2 h3 g1,?_⟩;unfold DN;rw[b,b,g2,h1];simp only[Aa,CL];rw[cF,Bi,Ah (by omega:¬(s.Vols.length:Int)>=3)];rw[Bq (by simp;omega)];simp only[Aa];rw[tH h.asc (v:=Vol.mk r.Vol q) h2 hl];rfl
 simp_all [EZ,DN]
theorem oF (h:BR s) (r:BS):Wu s r=Rd s r:=by
 have hl:=h.len;have d:=JI h.ar (by have:=h.few;omega);have e:=Fc s d (by omega);have c:=M8 s d<|by omega
 have g:∀id,I3 s id=CB s id:=λ_=>rfl
 have f:OZ r=some (EG r):=by
  obtain⟨v,a1,a2,_⟩:=Y5 r
  grind [LU]
 have a:=Yh h r;unfold Wu;rw[c,V0 h,f];simp only[Aa,Al,Ad]
 cases hb:EG r with
 |false=>grind [K3,C3]
 |true=>
  simp only[Al,Ad];have hr:=hb;unfold EG at hr;unfold Rd at a⊢;rw[Qc h,LU,hb]at a⊢;simp only[Aa,Al,Ad]at a⊢;unfold N6
  cases k1:(r.Kind==1)with
  |true=>
   have e1:r.Kind=1:=by simpa using k1
   rw[e1]at hr;simp at hr;simp only[An,Aa,Al,Ad];have hj:(cond (r.Arg==0) (some 1) (some r.Arg):Option Int)=some (if 1>r.Arg then 1 else r.Arg):=by grind
   rw[hj];simp only[Aa];have hP:BR (Store.mk [] (Arena.mk [])<|if 1>r.Arg then 1 else r.Arg):=by
    refine⟨⟨by simp,rfl,?_,by simp,by simp,by simp[Be],by simp[Be],by simp⟩,by simp⟩
    grind
   rw[OO hP.toStoreR,WJ hP];rfl
  |false=>
   simp only[Ad];rw[k1]at hr a;simp only[Ad]at a
   cases k2:(r.Kind==2)with
   |true=>
    rw[k2]at a;simp only[An]at a⊢;obtain⟨t,ok,c1,c2⟩:=jD h hb (by simpa using k2);rw[c1]at a⊢;rw[c2];simp only[Aa]at a⊢;unfold K3 at a
    cases ok with
    |false=>grind
    |true=>
     split at a
     ·grind
     obtain⟨t',q,hP,_⟩:=a
     injection q with q
     injection q with q _
     subst q;simp only[Al,Ad];have i:Store.mk t.Vols (Arena.mk t.Arena.Knots) t.Next=t:=rfl;rw[i,OO hP.toStoreR,WJ hP];rfl
   |false=>
    simp only[Ad];rw[k2]at hr;rw[g]
    rcases DZ s (by omega) r.Vol with⟨h1,h2⟩|⟨k,v,h1,h2,h3,_⟩
    ·grind
    rw[h1];simp only[Aa];rw[cF];simp only[Aa];have hm:=Ap h2;have j:=(Ae.1 h2).1
    cases hc:(r.Chunk==1000000000)with
    |true=>grind
    |false=>
     simp only[Ad];have l:r.Chunk≠1000000000:=by simpa using hc
     rw[e];simp only[Aa]
     cases k3:(r.Kind==3)with
     |true=>
      simp only[An];rw[Bi,ad1];have d1:dr s.Vols 0 (k:Int)=some (s.Vols.take k):=by grind [dr]
      have d2:dr s.Vols ((k+1:Nat):Int) (s.Vols.length:Int)=some (s.Vols.drop<|k+1):=by grind [AP,dr]
      rw[d1,d2];simp only[Aa];rw[Ku (by simp;omega)];simp only[Aa];rw[Bq (by simp;omega),RR h.asc h2,h3];simp only[Aa,Al,Ad];have hR:=wJ h r.Vol;simp_all [K1,OO]
     |false=>
      simp only[Ad];rw[k3]at hr;have ha:0<=r.Arg/\r.Arg<16/\0<=r.Chunk/\r.Chunk<=1000000000:=by grind
      obtain⟨t,ht⟩:∃t:Nat,r.Arg=(t:Int):=⟨_,(AL ha.1).symm⟩;have b:=h.root _<|A7.2 ⟨v,hm,rfl⟩;rw[Ao,h2];simp only[Aa];rw[ht,WZ _ (by have:=h.few;omega) h.ar b (by omega) ha.2.2.1,mV _ (by have:=h.few;omega) h.ar b (by omega) ha.2.2.1];simp only[Aa,Al,Ad];rw[Eh,BL];have hR:=AAN h h2 (show t<16 by omega) ha.2.2.1<|show r.Chunk+1<=1000000000 by omega
      grind [K1,OO]
theorem Zx (h:BR s) (a:List BS) (hr:a.length<=1048576):Ph s a=Kh s a:=by
 have hl:=h.len;have d:=JI h.ar (by have:=h.few;omega);have e:=Fc s d (by omega);have c:=M8 s d (by omega);unfold Ph Kh;rw[e,c];obtain⟨b,h1,h2,_⟩:=Hp (body:=λq:Int×List Vol×List Bb×Int=>DE s a q.1 q.2.1 q.2.2.1 q.2.2.2) (body':=λq:Int×List Vol×List Bb×Int=>Ip s a q.1 q.2.1 q.2.2.1 q.2.2.2) (λ(t:Store) i=>(i,t.Vols,t.Arena.Knots,t.Next)) a.length (λ_ t=>BR t) (λ_=>True)
  (λt i hi hP=>by
   have hx:=Ab hi;have f:Store.mk t.Vols (Arena.mk t.Arena.Knots) t.Next=t:=rfl;have g:=Yh hP a[i];simp only[DE,Ip,D6 hi,Ao,hx,Aa];rw[f,oF hP]
   grind [ad1,K3])
  (λt _=>⟨by simp[Dk,DE,Ip],.inl (t.Vols,t.Arena.Knots,t.Next),by simp[Dk,DE],trivial⟩) (s:=s) h
 grind
theorem XK (l:List Tx) (hl:l.length<=1048576) (hr:∀x∈l,x.Recs.length<=20000):Nq l=some (Cv l):=by
 unfold Nq;obtain⟨b,h1,h2⟩:=A9 (body:=λs:Int×Int=>Hx l s.1 s.2) (λ(o:Int) i=>(o,i)) l.length (λi o=>o=(nS (l.take i):Int)) (λb=>b=(nS l:Int))
  (λo i hi ho=>by
   have hx:=Ab hi;have et:l.take (i+1)=l.take i++ [l[i]]:=Af hi;have a:(l.take i).length=i:=by grind
   simp only[Hx,D6 hi,Ao,hx,Aa]
   grind [ad1,aX,W1])
  (λo ho=>⟨o,by simp[Dk,Hx],by grind⟩) (s:=0) rfl
 rw[h1,h2];simp only[Aa];have d:=nR l;have hd:dr l (nS l:Int) (ln l)=some (Cv l):=by
  unfold dr;rw[Bi,B3 (by omega),Ci,Ci,AP<|by simp];rfl
 rw[hd];simp only[Aa];obtain⟨b1,b2⟩:=QY l;obtain⟨c,q1,q2⟩:=A9 (body:=λs:List Tx×Int=>Hw (Cv l) s.1 s.2) (λ(o:List Tx) i=>(o,i)) (Cv l).length (λi o=>o=(Cv l).take i) (λb=>b=Cv l)
  (λo i hi ho=>by
   have hx:=Ab hi;have e:=hr _<|b2 _<|Ar hi;have et:(Cv l).take (i+1)=(Cv l).take i++ [(Cv l)[i]]:=Af hi;simp only[Hw,D6 hi,Ao,hx,Aa];rw[Ku (by omega),Aa,Bq (by grind),Aa,ad1]
   exact .inl ⟨_,rfl,by rw[et,<-ho]⟩)
  (λo ho=>⟨o,by simp[Dk,Hw],by grind⟩) (s:=[]) rfl
 grind
theorem eC (h:Zt f r):Rs f=some (Dj r-1):=by
 have a:=h.len;unfold Rs;rw[h.i];simp only[Aa];obtain⟨b,h1,h2⟩:=A9 (body:=λs:Int×Int=>JE r s.1 s.2) (λ(o:Int) i=>(o,i)) r.length (λi o=>o=Dj (r.take i)-1) (λb=>b=Dj r-1)
  (λo i hi ho=>by
   have hx:=Ab hi;have et:r.take (i+1)=r.take i++ [r[i]]:=Af hi;simp only[JE,D6 hi,Ao,hx,Aa];rw[ad1]
   grind [Wh])
  (λo ho=>⟨o,by simp[Dk,JE],by grind⟩) (s:=0) (by simp[Dj])
 grind
theorem mX (r:List Aj) (hr:F5 r):Ai (λs:Int×Int=>GL r s.1 s.2) (0,1)=some (Ed r):=by
 have a:=hr.len;obtain⟨b,h1,h2⟩:=A9 (body:=λs:Int×Int=>GL r s.1 s.2) (λ(o:Int) i=>(i,o)) r.length (λi o=>o=Ed (r.take i)) (λb=>b=Ed r)
  (λo i hi ho=>by
   have hx:=Ab hi;have ht:=hr.tx _<|Ar hi;have et:r.take (i+1)=r.take i++ [r[i]]:=Af hi;simp only[GL,D6 hi,Ao,hx,Aa]
   grind [BL,Wf])
  (λo ho=>⟨o,by simp[Dk,GL],by grind⟩) (s:=1) rfl
 grind
theorem XM (l:List Tx) (hl:l.length<=1048576) (hr:∀x∈l,x.Recs.length<=20000):Ai (λs:Int×List Vol×List Bb×Int×Int=>GK l s.1 s.2.1 s.2.2.1 s.2.2.2.1 s.2.2.2.2) (0,[],[],1,0)=Ai (λs:Int×List Vol×List Bb×Int×Int=>CS l s.1 s.2.1 s.2.2.1 s.2.2.2.1 s.2.2.2.2) (0,[],[],1,0):=by
 obtain⟨b,h1,h2,_⟩:=Hp (body:=λs:Int×List Vol×List Bb×Int×Int=>CS l s.1 s.2.1 s.2.2.1 s.2.2.2.1 s.2.2.2.2) (body':=λs:Int×List Vol×List Bb×Int×Int=>GK l s.1 s.2.1 s.2.2.1 s.2.2.2.1 s.2.2.2.2) (λ(o:Store×Int) i=>(i,o.1.Vols,o.1.Arena.Knots,o.1.Next,o.2)) l.length (λ_ o=>BR o.1) (λ_=>True)
  (λo i hi hP=>by
   obtain⟨t,b0⟩:=o;have hx:=Ab hi;have d:=hr _<|Ar hi;have c:Store.mk t.Vols (Arena.mk t.Arena.Knots) t.Next=t:=rfl;simp only[CS,GK,D6 hi,Ao,hx,Aa];rw[c,Zx hP _ (by omega),ad1];have a:=V8 hP l[i].Recs (by omega);unfold OM at a;obtain⟨j,hj⟩:∃j,(cond ((i:Int)==0) (some l[i].Num) (some b0):Option Int)=some j:=by
    cases((i:Int)==0)with
    |true=>exact⟨_,rfl⟩
    |false=>exact⟨_,rfl⟩
   rw[hj];split at a
   ·rw[a];exact⟨rfl,.inl ⟨(t,j),rfl,hP⟩⟩
   obtain⟨u,u1,u2,_⟩:=a;rw[u1]
   exact⟨rfl,.inl ⟨(u,j),rfl,u2⟩⟩)
  (λo _=>⟨by simp[Dk,CS,GK],(o.1.Vols,o.1.Arena.Knots,o.1.Next,o.2),by simp[Dk,CS],trivial⟩) (s:=(Store.mk [] (Arena.mk []) 1,0)) ZG
 grind
theorem RZ (hf:AU f):MB f=BZ f:=by
 obtain⟨r,hs,_⟩:=xH hf;have hr:=U6 hs hf;obtain⟨g1,g2⟩:=Sz hr;obtain⟨b1,b2⟩:=QY<|AK r;have a:=Lq r;have b:Dj r<=1000000001:=a.2.2 _ (by omega) (λy hy=>by have:=(hr.seq y hy).2;omega);unfold MB BZ;rw[Ps,Oi hf,hs.s,hs.i,C6 f hf.cap,HR,C6 f hf.cap,eC hs];unfold Mv OX;simp only[Aa,Al,Ad];rw[Tj r hr,mX r hr,Ng r hr,V3 r hr];simp only[Aa];rw[Qd _ g1 g2,XK _ g1 g2];simp only[Aa];rw[XM (Cv<|AK r) (by omega) λx hx=>g2 x<|b2 x hx,BL,show Dj r-1+1=Dj r by omega]
theorem bB {r:Int} (h:BR s) (hr:r∈Be s):Nx s.Arena r=some (EF s.Arena.Knots r):=by
 obtain⟨l,l1,l2,_⟩:=Ok s.Arena (Yr h) r;rw[Kj s.Arena (by have:=h.few;omega) h.ar<|h.root r hr]at l1;rw[l2,l1]
theorem Zg (ha:BR a) (hb:BR b) (e:AO a=AO b) (n:a.Next=b.Next):Ns a b=some true:=by
 have f:=ha.len;have d:a.Vols.length=b.Vols.length:=by grind [Iu]
 unfold Ns;rw[show(ln a.Vols !=ln b.Vols)=false by grind [Bi],show(a.Next !=b.Next)=false by rw[n];simp];obtain⟨q,h1,h2⟩:=A9 (body:=λs:Int=>H0 a b s) (λ(_:Unit) i=>i) a.Vols.length (λ_ _=>True) (λq=>q= .inl ())
  (λ_ i hi _=>by
   have hx:=Ab hi;have hy:=Ab (show i<b.Vols.length by omega);have c:(AO a)[i]?=(AO b)[i]? :=by rw[e]
   unfold AO at c;rw[Je,Je,hx,hy]at c;simp only[L3,Aq,TW]at c;obtain⟨e1,e2⟩:=c;simp only[H0,D6 hi,Ao,hx,hy,Aa];rw[bB hb (A7.2 ⟨_,Ar (show i<b.Vols.length by omega),rfl⟩),bB ha<|A7.2 ⟨_,Ar hi,rfl⟩,e1,e2];simp only[Aa,SC,Ad];generalize hR:EF b.Arena.Knots b.Vols[i].Root=R;have g:R.length=16:=by grind [EF]
   obtain⟨z,z1,z2⟩:=A9 (body:=λs:Int=>Hz R R s) (λ(_:Unit) i=>i) R.length (λ_ _=>True) (λq=>q= .inl ())
    (λ_ k hk _=>by
     have hx:=Ab hk;simp only[Hz,D6 hk,Ao,hx,Aa,SC,Ad];rw[ad1]
     simp)
    (λ_ _=>⟨_,by simp[Dk,Hz],rfl⟩) (s:=()) trivial
   rw[z1,z2];rw[ad1]
   simp)
  (λ_ _=>⟨_,by simp[Dk,H0],rfl⟩) (s:=()) trivial
 grind
theorem eH (h:Gf d r):Pi d=some true:=by
 obtain⟨m,m1,m2,m3⟩:=Lj h.fl h.sr;obtain⟨e1,e2,e3⟩:=Hc h m2 rfl;unfold Pi;rw[RZ h.fl,m1];simp only[Aa,An];rw[V0 h.st,Zg m2.st h.st e1 e2];rw[m2.seq,h.seq,m2.tx,h.tx,e3];simp
theorem kH (hf:AU f) (l:List AE) (hl:l.length<=1048576):∃g n,Ki f l=some (g,n)/\AU g:=by
 unfold Ki;rw[C6 f hf.cap];simp only[Aa];obtain⟨b,h1,g,n,h2,h3⟩:=A9 (body:=λs:Int×List Block=>DF l s.1 s.2) (λ(o:Flash) i=>(i,o.Blocks)) l.length (λ_ o=>AU o) (λb=>∃g n,(b= .inl g.Blocks/\n=ln l\/b= .inr (g,n))/\AU g)
  (λo i hi ho=>by
   have hx:=Ab hi;have a:Flash.mk o.Blocks=o:=rfl;simp only[DF,D6 hi,Ao,hx,Aa];rw[a]
   rcases O6 ho l[i]with⟨k1,k2⟩|⟨_,k2⟩
   ·grind [ad1,oX]
   grind)
  (λo ho=>⟨.inl o.Blocks,by simp[Dk,DF],o,ln l,.inl ⟨rfl,rfl⟩,ho⟩) (s:=f) hf
 rw[h1]
 rcases h2 with⟨rfl,rfl⟩|rfl
 ·simp_all
 grind
theorem RX (hf:AU d.Flash) (l:List AE) (hl:l.length<=1048576):MA d l=Hf d l:=by
 obtain⟨g,n,h1,h2⟩:=kH hf l hl;obtain⟨g',n',h3,h4,_⟩:=oG d.Flash l hf.cap hl
 grind [RZ,MA,Hf]
theorem TL (h:Gf d r):J4 d=some d:=by
 unfold J4;rw[HR,C6 d.Flash h.fl.cap,M8 d.Store (JI h.st.ar (by have:=h.st.few;omega)) (by have:=h.st.len;omega)];rfl
theorem Z3 (h:IE d r) (hw:Em d.Flash 999999000) (most:Int):Pk d most=I7 d most:=by
 unfold Pk I7;rw[KG h.dev,TL h.dev];simp only[Aa];obtain⟨b,b',h1,h2,d',all,h3,h4⟩:=aT (body:=λs:List AE×Int×List Block×List Vol×List Bb×Int×Int×Int×Int=>Ep most s.1 s.2.1 s.2.2.1 s.2.2.2.1 s.2.2.2.2.1 s.2.2.2.2.2.1 s.2.2.2.2.2.2.1 s.2.2.2.2.2.2.2.1 s.2.2.2.2.2.2.2.2)
  (body':=λs:List AE×Int×List Block×List Vol×List Bb×Int×Int×Int×Int=>GM most s.1 s.2.1 s.2.2.1 s.2.2.2.1 s.2.2.2.2.1 s.2.2.2.2.2.1 s.2.2.2.2.2.2.1 s.2.2.2.2.2.2.2.1 s.2.2.2.2.2.2.2.2)
  (λ(o:List AE×Ax) i=>(o.1,i,o.2.Flash.Blocks,o.2.Store.Vols,o.2.Store.Arena.Knots,o.2.Store.Next,o.2.Seq,o.2.Tx,o.2.Base)) (λ(o:List AE×Ax) i=>(o.1,i,o.2.Flash.Blocks,o.2.Store.Vols,o.2.Store.Arena.Knots,o.2.Store.Next,o.2.Seq,o.2.Tx,o.2.Base)) 20
  (λi o=>o.1.length<=200*i/\(∃r',IE o.2 r')/\Em o.2.Flash (999999000+i))
  (λb b'=>∃(d':Ax) (all:List AE),(b= .inr (d',all)\/b= .inl (all,d'.Flash.Blocks,d'.Store.Vols,d'.Store.Arena.Knots,d'.Store.Next,d'.Seq,d'.Tx,d'.Base))/\b'=(all,d'.Flash.Blocks,d'.Store.Vols,d'.Store.Arena.Knots,d'.Store.Next,d'.Seq,d'.Tx,d'.Base))
  (λo i hi hs=>by
   obtain⟨all,e⟩:=o;obtain⟨c,⟨r',hg⟩,a⟩:=hs;simp only at c hg a;have f:Ax.mk (Flash.mk e.Flash.Blocks) (Store.mk e.Store.Vols (Arena.mk e.Store.Arena.Knots) e.Store.Next) e.Seq e.Tx e.Base=e:=rfl;have g:Flash.mk e.Flash.Blocks=e.Flash:=rfl;obtain⟨v,v1,v2,_⟩:=R7 e.Flash hg.dev.fl.cap (by have:=hg.dev.fl.few;omega);simp only[Ep,GM];rw[f,g,v1,v2,Ac (by omega:(i:Int)<20),show decide ((i:Int)<(if 20<most then 20 else most))=decide ((i:Int)<most) by grind];simp only[An,Aa];obtain⟨j,hj⟩:∃j,(bif decide ((i:Int)<most)then some (decide<|v<12)else some false:Option Bool)=some j:=by
    cases decide ((i:Int)<most)with
    |true=>exact⟨_,rfl⟩
    |false=>exact⟨_,rfl⟩
   rw[hj];simp only[Aa]
   cases j with
   |false=>grind
   |true=>
    obtain⟨steps,ok,c1,c2,_,c3⟩:=YG hg (λx hx=>by have:=a x hx;omega);rw[Z0 hg,c1];simp only[Aa]
    cases ok with
    |false=>exact .inr ⟨_,_,rfl,rfl,e,all,.inl rfl,rfl⟩
    |true=>
     obtain⟨d',r2,k1,k2,k3⟩:=(c3 rfl).full hg (by omega);rw[RX hg.dev.fl _ (by omega),k1,Aa,Bq (by omega),ad1]
     exact .inl ⟨(all++steps,d'),rfl,rfl,by simp;omega,⟨r2,k3.good⟩,λx hx=>by have:=k3.wear _ a x hx;omega⟩)
  (λo hs=>by
   obtain⟨all,e⟩:=o;refine⟨.inl (all,e.Flash.Blocks,e.Store.Vols,e.Store.Arena.Knots,e.Store.Next,e.Seq,e.Tx,e.Base),_,?_,?_,e,all,.inr rfl,rfl⟩
   ·grind [Ep]
   grind [GM]) (s:=([],d)) ⟨by simp,⟨r,h⟩,λx hx=>by have:=hw x hx;omega⟩
 have e1:Ai (λs:List AE×Int×List Block×List Vol×List Bb×Int×Int×Int×Int=>Ep most s.1 s.2.1 s.2.2.1 s.2.2.2.1 s.2.2.2.2.1 s.2.2.2.2.2.1 s.2.2.2.2.2.2.1 s.2.2.2.2.2.2.2.1 s.2.2.2.2.2.2.2.2) ([],0,d.Flash.Blocks,d.Store.Vols,d.Store.Arena.Knots,d.Store.Next,d.Seq,d.Tx,d.Base)=some b:=h1;have e2:Ai (λs:List AE×Int×List Block×List Vol×List Bb×Int×Int×Int×Int=>GM most s.1 s.2.1 s.2.2.1 s.2.2.2.1 s.2.2.2.2.1 s.2.2.2.2.2.1 s.2.2.2.2.2.2.1 s.2.2.2.2.2.2.2.1 s.2.2.2.2.2.2.2.2) ([],0,d.Flash.Blocks,d.Store.Vols,d.Store.Arena.Knots,d.Store.Next,d.Seq,d.Tx,d.Base)=some b':=h2;rw[e1,e2,h4]
 rcases h3 with rfl|rfl
 ·rfl
 rfl
theorem AAn (ha:BR a) (hb:BR b) (e:AO a=AO b) (id:Int):CB a id=CB b id:=by
 have d:=ha.len;have f:=hb.len
 have c:∀i:Nat,(a.Vols[i]?).map Vol.Id=(b.Vols[i]?).map Vol.Id:=λi=>by
  have:=Ch (λl=>(l[i]?).map Prod.fst) e
  grind [AO]
 grind [DZ]
theorem VL {n:Nat} (h:IE d r) (k:Ix n d r e re) (q:RF):CR e q=CR d q:=by
 have hv:(ln e.Store.Vols)=ln d.Store.Vols:=by rw[Bi,Bi,<-Iu,<-Iu,k.ab]
 have f:=AAn k.good.dev.st h.dev.st k.ab
 have g:((Ef e.Store).bind λv4=>I6 e.Flash v4 q.Text)=(Ef d.Store).bind λv4=>I6 d.Flash v4 q.Text:=by
  obtain⟨l,l1,_,l3,l4⟩:=E5 h.dev.st;obtain⟨m,m1,_,m3,m4⟩:=E5 k.good.dev.st;rw[l1,m1];simp only[Aa];obtain⟨v,v1,v2⟩:=MN h.dev l4 q.Text;obtain⟨w,w1,w2⟩:=MN k.good.dev m4 q.Text;rw[v1,w1];congr 1
  have hl:∀c,c∈m↔c∈l:=λc=>by rw[m3,l3,k.ab]
  rcases v2 with⟨rfl,v2⟩|⟨v2,v3⟩
  ·rcases w2 with⟨rfl,_⟩|⟨w2,w3⟩
   ·rfl
   rw[k.text _<|(l3 w).1<|(hl w).1 w2]at w3
   grind
  have a:=(l3 v).1 v2
  rcases w2 with⟨rfl,w2⟩|⟨w2,w3⟩
  ·exact absurd (by rw[k.text _ a];exact v3)<|w2 v<|(hl v).2 v2
  have b:=(l3 w).1<|(hl w).1 w2;rw[k.text _ b]at w3;exact h.data.dist _ _ b a<|by rw[w3,v3]
 unfold CR;simp only[f,hv,k.nx];simp only[<-Option.bind_assoc,g]
theorem VJ (h:AU f):Lb f=Ju f:=by
 obtain⟨v,v1,v2,_⟩:=R7 f h.cap (by have:=h.few;omega);rw[v1,v2]
theorem n8 (h:IE d r) (hw:Em d.Flash 999999000) (q:RF):Nr d q=Nd d q:=by
 unfold Nr Nd;obtain⟨v,p1,p2,p3⟩:=sO d (Z4 h.dev) q;rw[TL h.dev,KG h.dev,eH h.dev,O7 h.dev,p1,p2];simp only[Aa,Al,Ad]
 cases a:(v.2.2 !=0)with
 |true=>rfl
 |false=>
  cases l:(q.Kind==6)with
  |true=>
   have hq:ABR q:=by
    obtain⟨i,j,no⟩:=v;have:no=0:=by simpa using a
    subst this;exact Y9 h.dev p1
   obtain⟨k,hk⟩:∃k:Nat,q.Sector=(k:Int):=⟨_,(AL hq.sec.1).symm⟩;simp only[An];rw[hk,mU h q.Vol (by have:=hq.sec;omega),WY h.dev]
  |false=>
   rw[VJ h.dev.fl,Z3 h hw 20];obtain⟨v5,b⟩:=Og h.dev.fl;rw[b];simp only[Aa];have clean:∃e all re,(cond (decide<|v5<12) ((I7 d 20).bind λv6=>some (v6.2,v6.1.Flash.Blocks,v6.1.Store.Vols,v6.1.Store.Arena.Knots,v6.1.Store.Next,v6.1.Seq,v6.1.Tx,v6.1.Base)) (some ([],d.Flash.Blocks,d.Store.Vols,d.Store.Arena.Knots,d.Store.Next,d.Seq,d.Tx,d.Base)):Option (List AE×List Block×List Vol×List Bb×Int×Int×Int×Int))=some (all,Flash.Blocks<|Ax.Flash e,e.Store.Vols,e.Store.Arena.Knots,e.Store.Next,e.Seq,e.Tx,e.Base)/\Ix 20 d r e re:=by
    cases decide (v5<12)with
    |false=>exact⟨d,[],r,rfl,Ix.refl h⟩
    |true=>
     obtain⟨e,all,re,k1,k2,k3,_⟩:=YH h hw 20;rw[k1];exact⟨e,all,re,rfl,k2⟩
   obtain⟨e,all,re,k1,k5⟩:=clean;rw[k1];simp only[Aa];have c:Ax.mk (Flash.mk e.Flash.Blocks) (Store.mk e.Store.Vols (Arena.mk e.Store.Arena.Knots) e.Store.Next) e.Seq e.Tx e.Base=e:=rfl;have f:Flash.mk e.Flash.Blocks=e.Flash:=rfl;rw[c,f,VL h k5 q,p1,VJ k5.good.dev.fl];simp only[Aa];obtain⟨st,ok,w1,w2,w3⟩:=NA e k5.good.dev.fl.cap v.1 (by omega) v.2.1;obtain⟨v9,g⟩:=Og k5.good.dev.fl;rw[w1,w2,g];simp only[Aa];rw[RX k5.good.dev.fl st<|by omega]
   grind
theorem wL {n:Nat} (h:IE d r):JW n d r []:=⟨⟨d.Flash,rfl⟩,λk g _ hg=>by
 obtain⟨m,m1,m2⟩:=hg;rw[List.take_nil]at m1;obtain rfl:m=d.Flash:=m1
 rcases m2 with rfl|⟨s,s1,_⟩
 ·obtain⟨x,hx⟩:=(Ix.refl (n:=n) h).torn h.dev.fl rfl λ_ h=>h;exact⟨x,r,hx⟩
 simp at s1⟩
def ADe (d:Ax) (r:List Aj) (d':Ax) (r':List Aj) (g:Flash):Prop:=∃x rx,BZ g=some (x,true)/\x.Flash=g/\IE x rx/\x.Store.Next<=d.Store.Next+1/\(∀w:Int,Em d.Flash w->Em x.Flash (w+21))/\
 ((AO x.Store=AO d.Store/\∀c,CT (AO d.Store) c->BB rx c=BB r c)\/(AO x.Store=AO d'.Store/\rx=r'))
structure TU (d:Ax) (r:List Aj) (q:RF) (d':Ax) (steps:List AE) (t:ByteArray) (no:Int) (r':List Aj):Prop where
 good:IE d' r'
 len:steps.length<=4010
 nx:d'.Store.Next<=d.Store.Next+1
 ids:ACF d d' q.Vol
 wear:∀w:Int,Em d.Flash w->Em d'.Flash (w+20)
 tk:∀c,CT (AO d.Store) c->BB r' c=BB r c
 kept:no≠0\/q.Kind=6->AO d'.Store=AO d.Store
 text:q.Kind≠6\/no≠0->t=bs []
 read:q.Kind=6->no=0->∃ok,NN d q.Vol q.Sector=some (t,ok)
 done:∃recs text n,CR d q=some (recs,text,n)/\(n≠0->no=n)/\(n=0->no=0\/no=4\/q.Kind=6/\no=1)/\(no=0->q.Kind≠6->(recs=[]/\AO d'.Store=AO d.Store)\/
  ∃x,recs=[x]/\aE d r q x text/\C3 (AO d.Store) d.Store.Next x=some (AO d'.Store,d'.Store.Next)/\(L text≠ []->BB r' x.Chunk=some q.Text))
 walk:Steps d.Flash steps d'.Flash
 cut:∀k g,k<=steps.length->Yj d.Flash steps k g->ADe d r d' r' g
theorem Ix.served {no:Int} {steps:List AE} (k:Ix 20 d r e re) (hs:Steps d.Flash steps e.Flash) (hc:JW 20 d r steps) (hl:steps.length<=4010) (ht:q.Kind≠6\/no≠0->t=bs []) (hr:q.Kind=6->no=0->∃ok,NN d q.Vol q.Sector=some (t,ok)) (hd:∃c text n,CR d q=some (c,text,n)/\(n≠0->no=n)/\(n=0->no=0\/no=4\/q.Kind=6/\no=1)/\(no=0->q.Kind≠6->c=[])):TU d r q e steps t no re:=by
 obtain⟨c,text,n,h1,h2,h3,h4⟩:=hd;refine⟨k.good,hl,by have:=k.nx;omega,vW k.ab _,k.wear,k.text,λ_=>k.ab,ht,hr,⟨c,text,n,h1,h2,h3,λa b=> .inl ⟨h4 a b,k.ab⟩⟩,hs,λj g hj hg=>?_⟩;obtain⟨x,rx,x1,x2,x3⟩:=hc.2 j g hj hg;exact⟨x,rx,x1,x2,x3.good,by have:=x3.nx;omega,λw hw b hb=>by have:=x3.wear w hw b hb;omega,.inl ⟨x3.ab,x3.text⟩⟩
theorem AAu (h:IE d r) (hw:Em d.Flash 999999000) (n:d.Store.Next<1000000000) (q:RF):∃d' steps t no r',Nd d q=some (d',steps,t,no)/\TU d r q d' steps t no r':=by
 unfold Nd;rw[KG h.dev,O7 h.dev];obtain⟨f,text,no,p1,p2,p3⟩:=YA h.dev q;obtain⟨recs',text',no',t1,t2,_⟩:=xO h.dev n q;rw[p1]at t1;rw[p1];simp only[Aa];have k0:Ix 20 d r d r:=Ix.refl h;have c0:JW 20 d r []:=wL h
 cases i:(no !=0)with
 |true=>
  have hn:no≠0:=by simpa using i
  exact⟨_,_,_,_,r,rfl,k0.served rfl c0 (by simp) (λ_=>rfl) (λ_ e=>absurd e hn) ⟨_,_,_,p1,λ_=>rfl,λe=>absurd e hn,λe=>absurd e hn⟩⟩
 |false=>
  have o:no=0:=by simpa using i
  subst o;have hq:=Y9 h.dev p1
  cases j:(q.Kind==6)with
  |true=>
   have hk:q.Kind=6:=by simpa using j
   obtain⟨k,v⟩:∃k:Nat,q.Sector=(k:Int):=⟨_,(AL hq.sec.1).symm⟩;obtain⟨u,ok,u1⟩:∃u ok,NN d q.Vol q.Sector=some (u,ok):=by
    rw[WY h.dev,v]
    rcases gF h q.Vol (k:=k) (by have:=hq.sec;omega)with⟨_,e⟩|⟨h6,c,_,_,_,⟨_,e⟩|⟨_,_,u,_,e⟩⟩<;>exact⟨_,_,e⟩
   rw[u1]
   cases ok with
   |false=>exact⟨_,_,_,_,r,rfl,k0.served rfl c0 (by simp) (λ_=>rfl) (λ_ e=>by cases e) ⟨_,_,_,p1,λe=>absurd rfl e,λ_=> .inr (.inr ⟨hk,rfl⟩),λe=>by cases e⟩⟩
   |true=>exact⟨_,_,_,_,r,rfl,k0.served rfl c0 (by simp) (λe=>by omega) (λ_ _=>⟨true,u1⟩) ⟨_,_,_,p1,λe=>absurd rfl e,λ_=> .inl rfl,λ_ e=>absurd hk e⟩⟩
  |false=>
   have hk:q.Kind≠6:=by simpa using j
   obtain⟨v5,z⟩:=Og h.dev.fl;rw[z];simp only[Aa];have clean:∃e all re,(cond (decide<|v5<12) ((I7 d 20).bind λv6=>some (v6.2,v6.1.Flash.Blocks,v6.1.Store.Vols,v6.1.Store.Arena.Knots,v6.1.Store.Next,v6.1.Seq,v6.1.Tx,v6.1.Base)) (some ([],d.Flash.Blocks,d.Store.Vols,d.Store.Arena.Knots,d.Store.Next,d.Seq,d.Tx,d.Base)):Option (List AE×List Block×List Vol×List Bb×Int×Int×Int×Int))=some (all,Flash.Blocks<|Ax.Flash e,e.Store.Vols,e.Store.Arena.Knots,e.Store.Next,e.Seq,e.Tx,e.Base)/\Ix 20 d r e re/\all.length<=4000/\Steps d.Flash all e.Flash/\JW 20 d r all:=by
    cases decide (v5<12)with
    |false=>exact⟨d,[],r,rfl,k0,by simp,rfl,c0⟩
    |true=>
     obtain⟨e,all,re,k1,k2,k3,k4,k5⟩:=YH h hw 20
     grind
   obtain⟨e,all,re,k1,k5,k4,k3,kc⟩:=clean;rw[k1];simp only[Aa];have h0:Ax.mk (Flash.mk e.Flash.Blocks) (Store.mk e.Store.Vols (Arena.mk e.Store.Arena.Knots) e.Store.Next) e.Seq e.Tx e.Base=e:=rfl;have h1:Flash.mk e.Flash.Blocks=e.Flash:=rfl;have k2:=k5.good;have l:=VL h k5 q;rw[h0,h1,l,p1];simp only[Aa];have stay:TU d r q e all (bs []) 4 re:=k5.served k3 kc (by omega) (λ_=>rfl) (λhh=>absurd hh hk) ⟨_,_,_,p1,λe=>absurd rfl e,λ_=> .inr (.inl rfl),λe=>by cases e⟩;obtain⟨v9,h2⟩:=Og k2.dev.fl;obtain⟨st,ok,w1,_,w3⟩:=NA e k2.dev.fl.cap f (by grind) text;rw[w1,h2]
   cases h3:ok with
   |false=>grind
   |true=>
    subst h3;simp only[Al,Ad,Aa]
    cases decide (v9<8)with
    |true=>grind
    |false=>
     rcases p2 with⟨rfl,rfl⟩|⟨_,x,rfl,p4⟩
     ·have h7:Co e [] (bs [])=some ([],true):=rfl
      injection w1 with w1
      injection w1 with w1 _
      subst w1;obtain⟨d',u1,u2,u3⟩:=k5.torn k2.dev.fl rfl λ_ hh=>hh;rw[O1 k2.dev (steps:=[]) rfl (by simp) u1,Aa,Bq (by simp;omega),AI];exact⟨_,_,_,_,re,rfl,u3.served (by rw[u2];exact k3) kc (by omega) (λ_=>rfl) (λhh=>absurd hh hk) ⟨_,_,_,p1,λe=>absurd rfl e,λ_=> .inl rfl,λ_ _=>rfl⟩⟩
     obtain⟨recs2,text2,no2,s1,s2,_⟩:=YA k2.dev q;rw[l,p1]at s1;have h4:aE e re q x text:=by grind
     rcases oM k2 h4 with w|⟨steps,d',r',a1,a2,a3,a4,a5,_,a7,_,aw,a8,tt,_,ac⟩
     ·grind
     rw[a1]at w1
     injection w1 with w1
     injection w1 with w1 _
     subst w1;rw[a3,Aa,Bq<|by omega];obtain⟨p,hp⟩:∃p,C3 (AO d.Store) d.Store.Next x=some p:=by grind
     rw[k5.ab,k5.nx,hp,D7]at a5;have hnx':=k5.nx
     have a:∀w:Int,Em d.Flash w->Em d'.Flash (w+20):=λw hw=>aw _<|k5.wear w hw
     refine⟨_,_,_,_,r',rfl,⟨a4,by simp;omega,by omega,λy hy=>by rw[<-p4.2.2.1];grind [nD,C3],a,λc hc=>by rw[tt.1 c (by rw[k5.ab];exact hc),k5.text c hc],λhh=>by omega,λ_=>rfl,λhh=>absurd hh hk,
      ⟨_,_,_,p1,λe=>absurd rfl e,λ_=> .inl rfl,λ_ _=> .inr ⟨x,rfl,p4,by rw[hp,a5],λe=>?_⟩⟩,(Mg _ _ _ _).2 ⟨_,k3,a8⟩,λk g h8 hg=>?_⟩⟩
     ·rw[tt.2 e]
      rcases p4.2.2.2 with⟨q1,_⟩|⟨_,_,_,q4,_⟩
      ·exact absurd q1 e
      exact q4
     rcases bH hg k3 with⟨c1,c2⟩|⟨c1,c2⟩
     ·obtain⟨x,rx,x1,x2,x3⟩:=kc.2 k g (by omega) c2;exact⟨x,rx,x1,x2,x3.good,by have:=x3.nx;omega,λw hw b hb=>by have:=x3.wear w hw b hb;omega,.inl ⟨x3.ab,x3.text⟩⟩
     by_cases h5:k-all.length<steps.length
     ·obtain⟨y,ry,y1,y2,y3,_⟩:=ac _ g h5 c2;exact⟨y,ry,y1,y2,y3.good,by have:=y3.nx;omega,λw hw b hb=>by have:=y3.wear _ (k5.wear w hw) b hb;omega,.inl ⟨by rw[y3.ab,k5.ab],λc hc=>by rw[y3.text c (by rw[k5.ab];exact hc),k5.text c hc]⟩⟩
     obtain⟨m,m1,m2⟩:=c2;rw[AP<|by omega]at m1;obtain rfl:=Mf m1 a8
     rcases m2 with rfl|⟨s,s1,_⟩
     ·obtain⟨y,u1,u2,u3⟩:=Lj a4.dev.fl a4.dev.sr;obtain⟨e1,e2,_⟩:=Hc a4.dev u2 rfl;exact⟨y,r',u1,u3,⟨u2,a4.core,by rw[e1];exact a4.data⟩,by omega,λw hw b hb=>by rw[u3]at hb;have:=a w hw b hb;omega,.inr ⟨e1,rfl⟩⟩
     grind
def JR (b:Block):Nat:=if b.Bad=true then 0 else 4-GH b.Leaves
def Es (f:Flash):Nat:=(f.Blocks.map JR).sum
def TM (l:List Leaf):Nat:=(l.filter λx=>x.Is==0).length
theorem bL:∀{l:List Leaf},ZA l->TM l=l.length-GH l
 |[],_=>rfl
 |x::l,h=>by
  have ht:ZA l:=λk a b ha hb=>h (k+1) a b (by simpa using ha)<|by simpa using hb
  have ih:=bL ht;have d:=dL l;by_cases e:x.Is=0
  ·have c:∀(k:Nat) y,(x::l)[k]?=some y->y.Is=0:=by
    intro k
    induction k with
    |zero=>intro y hy;simp at hy;rw[<-hy];exact e
    |succ k ihk=>
     intro y hy;have hk:k<(x::l).length:=by have:=(Ae.1 hy).1;omega
     exact h k _ y (Ab hk) hy<|ihk _<|Ab hk
   have h1:GH (x::l)=0:=by unfold GH;rw[List.takeWhile_cons_of_neg<|by simp[e]];rfl
   have h2:TM (x::l)=(x::l).length:=by
    unfold TM;rw[F6.2 λy hy=>?_];obtain⟨k,hk⟩:=List.getElem?_of_mem hy;simpa using c k y hk
   rw[h1,h2];omega
  have h1:GH (x::l)=GH l+1:=by unfold GH;rw[List.takeWhile_cons_of_pos<|by simp[e]];rfl
  have h2:TM (x::l)=TM l:=by unfold TM;rw[HT<|by simp[e]]
  rw[h1,h2,ih,AB];omega
theorem rB {b:Block} (h:IF b):JR b=if b.Bad=true then 0 else TM b.Leaves:=by unfold JR;rw[bL h.turn,h.four]
theorem uB (b:Block):JR b<=4:=by unfold JR;split<;>omega
theorem yU (l:List Block):(l.map JR).sum<=4*l.length:=by
 induction l with
 |nil=>simp
 |cons b l ih=>have:=uB b;rw[CF,GX,AB];omega
theorem jY (h:AU f):Ju f=some ((Es f:Nat):Int):=by
 have hn:=h.n;unfold Ju;obtain⟨b,h1,h2⟩:=A9 (body:=λs:Int×Int=>Hj f s.1 s.2) (λ(o:Int) i=>(o,i)) f.Blocks.length (λi o=>o=(((f.Blocks.take i).map JR).sum:Nat)) (λb=>b=((Es f:Nat):Int))
  (λo i hi ho=>by
   have hx:=Ab hi;have hP:=h.blk _<|Ar hi;have h4:=hP.four;have et:f.Blocks.take (i+1)=f.Blocks.take i++ [f.Blocks[i]]:=Af hi;have a:=yU<|f.Blocks.take i;rw[FY]at a;simp only[Hj,D6 hi];obtain⟨c,q1,q2⟩:=A9 (body:=λs:Int×Int=>Hi f (i:Int) s.1 s.2) (λ(o:Int) k=>(o,k)) f.Blocks[i].Leaves.length (λk z=>z=o+((if f.Blocks[i].Bad=true then 0 else TM (f.Blocks[i].Leaves.take k):Nat):Int)) (λz=>z=o+((JR f.Blocks[i]:Nat):Int))
    (λz k hk hz=>by
     have hy:=Ab hk;have ek:f.Blocks[i].Leaves.take (k+1)=f.Blocks[i].Leaves.take k++ [f.Blocks[i].Leaves[k]]:=Af hk;have g:TM (f.Blocks[i].Leaves.take k)<=k:=by unfold TM;have:=Cu (λx:Leaf=>x.Is==0)<|f.Blocks[i].Leaves.take k;rw[FY]at this;omega
     have d:TM (f.Blocks[i].Leaves.take<|k+1)=TM (f.Blocks[i].Leaves.take k)+(if f.Blocks[i].Leaves[k].Is=0 then 1 else 0):=by
      rw[ek];unfold TM;rw[BN,A4];congr 1;by_cases e:f.Blocks[i].Leaves[k].Is=0
      ·rw[B3 e,HS<|by simp[e]];rfl
      rw[Bc e,HT<|by simp[e]];rfl
     simp only[Hi,Ao,hx,Aa,D6 hk,hy];rw[ad1];refine .inl ?_
     cases hb:f.Blocks[i].Bad with
     |true=>
      rw[hb,B3 rfl]at hz;exact⟨z,rfl,by rw[B3 rfl];exact hz⟩
     |false=>
      rw[hb,Bc<|by simp]at hz;simp only[BW,An];rw[Bc (by simp),d];by_cases e:f.Blocks[i].Leaves[k].Is=0
      ·rw[show(f.Blocks[i].Leaves[k].Is==0)=true by simp[e],An,BL,B3 e];exact⟨_,rfl,by omega⟩
      rw[show(f.Blocks[i].Leaves[k].Is==0)=false by simp[e],Ad,Bc e]
      exact⟨_,rfl,by omega⟩)
    (λz hz=>⟨z,by simp only[Hi,Ao,hx,Aa,Dk],by rw[hz,Dg,rB hP]⟩) (s:=o) (by
     simp[TM])
   rw[q1,q2,Aa,ad1];refine .inl ⟨_,rfl,?_⟩;rw[et,IC,List.sum_append,ho]
   simp)
  (λo ho=>⟨o,by simp only[Hj,Dk],by rw[ho,Dg];rfl⟩) (s:=0) rfl
 rw[h1,h2];rfl
theorem oW:∀(l:List Block) (c:Nat) (x y:Block),l[c]?=some x->((l.set c y).map JR).sum+JR x=(l.map JR).sum+JR y
 |[],c,x,y,h=>by simp at h
 |b::l,0,x,y,h=>by
  simp only[Mh,Aq]at h;rw[RD,CF,GX,CF,GX,h];omega
 |b::l,c+1,x,y,h=>by
  have:=oW l c x y (by simpa using h);rw[List.set_cons_succ,CF,GX,CF,GX];omega
theorem aC {b l:Int} (h:AU f) (hm:YY f b l t):Es (Qp f b l (Leaf.mk 1 t))+1=Es f:=by
 obtain⟨x,x1,x2,rfl,x4,_⟩:=hm;obtain⟨k1,k2⟩:=Cp x1;obtain⟨c,rfl⟩:∃c:Nat,b=(c:Int):=⟨_,(AL k1).symm⟩;rw[Ci]at k2;have hP:=h.blk x<|Ap k2;unfold Qp Es;rw[x1];simp only[Eh];have hs:=oW f.Blocks c x (Block.mk x.Bad x.Wear<|x.Leaves.set (GH x.Leaves)<|Leaf.mk 1 t) k2;have j:JR x=4-GH x.Leaves:=by unfold JR;rw[x2];rfl
 have n:JR (Block.mk x.Bad x.Wear<|x.Leaves.set (GH x.Leaves)<|Leaf.mk 1 t)=4-(GH x.Leaves+1):=by
  unfold JR;simp only[x2];rw[Bc<|by simp];congr 1;have d:GH x.Leaves<x.Leaves.length:=by rw[hP.four];exact x4
  have g:∀(l:List Leaf) (y:Leaf),y.Is≠0->GH l<l.length->ZA l->GH (l.set (GH l) y)=GH l+1:=by
   intro l
   induction l with
   |nil=>intro y _ h;simp at h
   |cons a l ih=>
    intro y hy i ht;by_cases e:a.Is=0
    ·have h0:GH (a::l)=0:=by unfold GH;rw[List.takeWhile_cons_of_neg<|by simp[e]];rfl
     rw[h0,RD];unfold GH;rw[List.takeWhile_cons_of_pos<|by simpa using hy]
     cases l with
     |nil=>rfl
     |cons z m=>
      have hz:=ht 0 a z rfl rfl e;rw[List.takeWhile_cons_of_neg<|by simp[hz]];rfl
    have h0:GH (a::l)=GH l+1:=by unfold GH;rw[List.takeWhile_cons_of_pos<|by simp[e]];rfl
    rw[h0,List.set_cons_succ];have h1:GH (a::l.set (GH l) y)=GH (l.set (GH l) y)+1:=by unfold GH;rw[List.takeWhile_cons_of_pos<|by simp[e]];rfl
    rw[h1,ih y hy (by rw[h0,AB]at i;omega) λk u v hu hv=>ht (k+1) u v (by simpa using hu)<|by simpa using hv]
  exact g x.Leaves (Leaf.mk 1 t) (by simp) d hP.turn
 omega
theorem tC {l:List Block} (h:∀b∈l,b.Bad=false->GH b.Leaves=4):(l.map JR).sum=0:=by
 induction l with
 |nil=>rfl
 |cons b l ih=>
  rw[CF,GX,ih λx hx=>h x<|by simp[hx]];unfold JR;split
  ·rfl
  rename_i e;rw[h b (by simp)<|by simpa using e]
theorem g6 {g:Flash} {ss:List AE} {ps:List Page} {p:Page} (hg:AU g) (h:Fp f ss ps g) (hs:ss.length<=1000) (hp:Gj p) (hr:0<Es g):∃s g',CG g ss p=some (g',ss++ [s],true)/\Fp f (ss++ [s]) (ps++ [p]) g'/\AU g'/\Es g'+1=Es g:=by
 obtain⟨t,t1,t2,t3,t4⟩:=aJ hp;obtain⟨b,l,room,p1,p2,p3⟩:=Vo hg
 cases room with
 |false=>
  have:=tC<|p3 rfl;unfold Es at hr;omega
 |true=>
  obtain⟨x,a1,a2,a3,a4⟩:=p2 rfl;have hm:YY g b l t:=⟨x,a1,a2,a3,a4,t2,t3⟩
  rcases Si hg ss (by omega) p t1 (λ_=>⟨t2,t3⟩)with⟨_,b',l',q1,q3,q2⟩|q
  ·rw[p1]at q3
   injection q3 with q3
   obtain⟨rfl,rfl⟩:b=b'/\l=l':=by injection q3 with e1 e2;injection e2 with e2 _;exact⟨e1,e2⟩
   exact⟨_,_,q2,S8 h hm t4,(M1 hg hm).1,aC hg hm⟩
  exfalso;unfold CG at q;rw[t1,p1]at q;simp only[Aa,Al,Ad]at q;have hd:=O6 hg<|AE.mk 1 b l t
  rcases hd with⟨_,e⟩|⟨e,_⟩
  ·rw[e]at q;simp only[Aa]at q;rw[Bq (by simp;omega)]at q;simp at q
  exact e<|.inl ⟨rfl,hm⟩
theorem rP {ss0:List AE} (ps:List Page) (e:ps.length<=9) (c:∀p∈ps,Gj p) {a:List Page} {g0:Flash} (h:Fp f ss0 a g0) (hg:AU g0) (h1:ss0.length<=1) (hr:ps.length<=Es g0):∃ss,Ai (λs:List AE×Bool×Int×List Block=>Bk (ps,true) s.1 s.2.1 s.2.2.1 s.2.2.2) (ss0,true,0,g0.Blocks)=some (ss,true):=by
 obtain⟨b,q1,ss,q2⟩:=A9 (body:=λs:List AE×Bool×Int×List Block=>Bk (ps,true) s.1 s.2.1 s.2.2.1 s.2.2.2) (λ(o:List AE×Flash) i=>(o.1,true,i,o.2.Blocks)) ps.length
  (λi o=>Fp f o.1 (a++ps.take i) o.2/\AU o.2/\o.1.length<=i+1/\Es o.2+i=Es g0) (λb=>∃ss,b=(ss,true))
  (λo i hi hs=>by
   obtain⟨ss,g⟩:=o;obtain⟨k1,k2,k3,k4⟩:=hs;simp only at k1 k2 k3 k4;have hx:=Ab hi;have d:Flash.mk g.Blocks=g:=rfl;obtain⟨s,g',p1,p2,p3,p4⟩:=g6 k2 k1 (by omega) (c _<|Ar hi) (by omega);simp only[Bk,Gk,Ac hi,An,Ao,hx,Aa];rw[d,p1,Aa,ad1]
   exact .inl ⟨(ss++ [s],g'),rfl,by rw[Af hi,<-Bw];exact p2,p3,by simp;omega,by show Es g'+(i+1)=_;omega⟩)
  (λo _=>⟨_,by simp only[Bk,Gk,Nat.lt_irrefl,decide_false,Ad,Aa],o.1,rfl⟩) (s:=(ss0,g0)) ⟨by rw[Zv,AI];exact h,hg,by simpa using h1,by simp⟩
 exact⟨ss,by rw[<-q2];exact q1⟩
theorem mJ {T:List ByteArray} {seq tx:Int} (h1:1<=seq) (h2:seq+T.length-1<=1000000000) (h3:1<=tx) (h4:tx<=1000000000) (h9:T.length<=9) (ht:∀t∈T,(L t).length<=90):∀p∈By seq tx T,Gj p:=by
 intro p hp;unfold By at hp;obtain⟨i,hi,rfl⟩:=Av hp;rw[List.length_mapIdx]at hi;rw[List.getElem_mapIdx];have:=ht _<|Ar hi;unfold Gj;simp;omega
theorem kS (hf:AU d.Flash) (b:List BS) (i:b≠ []) (hr:b.length<=8) (j:∀r∈b,EG r=true) (a:ByteArray) (n:1<=d.Seq/\d.Seq<=999999900) (h:1<=d.Tx/\d.Tx<=1000000000) (k:L a≠ []->(L a).length<=90/\∀c,b[b.length-1]?=some c->1<=c.Chunk/\c.Chunk<=1000000000) (l:b.length+2<=Es d.Flash):∃steps,Co d b a=some (steps,true):=by
 have o:0<b.length:=HA.2 i;obtain⟨c,g⟩:∃c,b[b.length-1]?=some c:=⟨_,Ab<|by omega⟩;unfold Co;rw[show(ln b==0)=false by rw[beq_eq_false_iff_ne,Bi];omega];simp only[Ad];have first:∃ss0 g0,(cond (!(seq a<|bs [])) (((gi b<|sb (ln b) 1).bind λx1=>(CG d.Flash []<|Page.mk 1 d.Seq x1.Chunk 0 1 a).bind λv1=>some (v1.2.1,v1.2.2,v1.1.Blocks):Option (List AE×Bool×List Block)).bind λj2=>some (j2.1,ad d.Seq 1,j2.2.1,j2.2.2)) (some ([],d.Seq,true,d.Flash.Blocks)):Option (List AE×Int×Bool×List Block))=some (ss0,EX d a,true,Flash.Blocks g0)/\Fp d.Flash ss0 (BV d c.Chunk a) g0/\AU g0/\ss0.length<=1/\Es d.Flash<=Es g0+1:=by
  by_cases ht:L a=[]
  ·have:seq a (bs [])=true:=by rw[Kc,Bf];exact JK (by rw[ht,Du])
   rw[this];refine⟨[],d.Flash,?_,?_,hf,by simp,by omega⟩
   ·unfold EX;rw[B3 ht];rfl
   unfold BV;rw[B3 ht];rfl
  have:seq a (bs [])=false:=by
   rw[Kc,decide_eq_false_iff_not];intro e;exact ht<|by rw[e,Du]
  obtain⟨hl,hc⟩:=k ht;have hc:=hc c g;rw[this];simp only[BW,An];rw[Bi,BC,show(b.length:Int)-1=((b.length-1:Nat):Int) by omega,Ao,g,Aa,BL];have e1:EX d a=d.Seq+1:=by unfold EX;rw[Bc ht]
  have e2:BV d c.Chunk a=[Page.mk 1 d.Seq c.Chunk 0 1 a]:=by unfold BV;rw[Bc ht]
  rw[e1,e2];obtain⟨s,g',q1,q2,q3,q4⟩:=g6 (f:=d.Flash) (ss:=[]) (ps:=[]) hf rfl (by simp) (p:=Page.mk 1 d.Seq c.Chunk 0 1 a) (by unfold Gj;simp;omega) (by omega);rw[q1];exact⟨_,g',rfl,q2,q3,by simp,by omega⟩
 obtain⟨ss0,g0,e0,h0,h1,h2,h3⟩:=first
 rw[e0];simp only[Aa];have m:1<=EX d a/\EX d a<=999999901:=by unfold EX;split<;>omega
 obtain⟨T,t1,t2,t3,tl,t4⟩:=bS (EX d a) d.Tx b (by omega) j
 rcases t4 with⟨t4,t5,t6,t7,t8,t9⟩|⟨t4,t5⟩
 ·rw[t4];simp only[Aa];have q:(By (EX d a) d.Tx T).length=T.length:=by unfold By;rw[List.length_mapIdx]
  obtain⟨ss,q1⟩:=rP (By (EX d a) d.Tx T) (by omega) (mJ t6 t7 t8 t9 t5 t3) h0 h1 h2 (by omega);rw[q1];exact⟨ss,rfl⟩
 exact absurd ⟨by omega,m.1,by omega,h.1,h.2⟩ t5
theorem xU {s z:ByteArray} (hs:(L s).length<=64) (h:D5 s=some (z,true)):(L z).length<=(L s).length+1:=by
 unfold D5 at h;rw[Bh,cF]at h;obtain⟨v1,_,h⟩:=Ag.1 h;obtain⟨v2,_,h⟩:=Ag.1 h;rw[BL,Bh]at h;by_cases e:((L s).length:Int)+1<=((L v2).length:Int)
 ·rw[Ac e,An,Fy _ _ (by rw[Du];simp;omega)]at h;simp only[Aa,Aq,TW,and_true]at h;rw[<-h,FZ,Du];simp
 rw[Ah e,Ad]at h;simp only[Aq,TW,and_true]at h;rw[<-h];omega
theorem Y7:∀{f:Flash} {ss:List AE} {ps:List Page} {g:Flash},AU f->Fp f ss ps g->Es g+ss.length=Es f
 |f,[],[],g,_,h=>by rw[show g=f from h];rfl
 |f,s::ss,p::ps,g,hf,h=>by
  have e:KF f s=Qp f s.Block s.Leaf (Leaf.mk 1 s.Text):=by unfold KF;rw[B3 h.1]
  have h1:=aC hf h.2.1;have h2:=Y7 (by rw[e];exact(M1 hf h.2.1).1) h.2.2.2;rw[e]at h2;rw[AB];omega
 |f,[],q::ps,g,_,h=>h.elim
 |f,s::ss,[],g,_,h=>h.elim
theorem yF (h:IE d r) (hs:d.Seq<=999999900) (ht:d.Tx<=1000000000) {a:ByteArray} (hx:aE d r q x a) (hl:(L a).length<=90) (c:3<=Es d.Flash):
  ∃steps g,Co d [x] a=some (steps,true)/\Steps d.Flash steps g/\Es g+steps.length=Es d.Flash/\steps.length=(if L a=[]then 1 else 2):=by
 obtain⟨x1,x2,xv,x3⟩:=hx
 have i:∀z∈ [x],EG z=true:=λz hz=>by rw[Bl]at hz;rw[hz];exact x1
 have j:=h.dev.st.nx;have k:1<=d.Seq:=by rw[h.dev.seq];exact(Lq r).2.1
 have l:1<=d.Tx:=by rw[h.dev.tx];exact(WF r).2.1
 obtain⟨steps',w1⟩:=kS h.dev.fl [x] (by simp) (by simp) i a ⟨k,hs⟩ ⟨l,ht⟩ (λe=>⟨hl,λb f=>by
  have:b=x:=by simpa using f.symm
  subst this
  rcases x3 with⟨x3,_⟩|⟨_,x4,_⟩
  ·exact absurd x3 e
  rw[x4];exact j⟩)<|by simpa using c
 rcases TS h.dev.fl h.dev.seqs [x] (by simp) (by simp) i a with w|⟨steps,T,g,b,k1,k2,k3,k4,k5,k6,k7,k8,k9,k0⟩
 ·rw[w]at w1;cases w1
 have m:(By (EX d a) d.Tx T).length=T.length:=by unfold By;rw[List.length_mapIdx]
 obtain⟨s1,s2⟩:=DQ k7;have hT:T.length=1:=by
  rw[Ct]at k0;omega
 refine⟨steps,g,k2,s1,Y7 h.dev.fl k7,?_⟩;rw[s2,A4,m,hT];unfold BV;split<;>rfl
theorem AAv (h:IE d r) (hw:Em d.Flash 999999000) (c:d.Store.Next<1000000000) (hs:d.Seq<=999999900) (ht:d.Tx<=1000000000) {a:ByteArray} (hp:CR d q=some ([x],a,0)) (hk:q.Kind≠6) (hl:(L a).length<=90) (e:12<=Es d.Flash):
  ∃d' steps r',Nd d q=some (d',steps,bs [],0)/\TU d r q d' steps (bs []) 0 r'/\Es d'.Flash+steps.length=Es d.Flash/\steps.length=(if L a=[]then 1 else 2)/\d'.Seq<=d.Seq+10/\d'.Tx<=d.Tx+1:=by
 obtain⟨d',steps,t,no,r',e1,e2⟩:=AAu h hw c q;have pl:aE d r q x a:=by
  obtain⟨j,text',no',p1,p2,_⟩:=YA h.dev q;rw[hp]at p1
  grind
 obtain⟨ss,g,w1,w2,w3,w4⟩:=yF h hs ht pl hl<|by omega
 rcases oM h pl with w|⟨ss',d2,r2,a1,a2,a3,a4,a5,a6,a7,a8,a9,aw,_⟩
 ·rw[w]at w1;cases w1
 rw[w1]at a1;obtain rfl:ss=ss':=by grind
 obtain rfl:g=d2.Flash:=Mf w2 aw;have b:Nd d q=some (d2,ss,bs [],0):=by
  unfold Nd;rw[KG h.dev,O7 h.dev,hp];simp only[Aa];rw[show(q.Kind==6)=false by simpa using hk,jY h.dev.fl];simp only[Aa,SC,Al,Ad];rw[Ah (by omega:¬((Es d.Flash:Nat):Int)<12)];simp only[Aa,Ad];have f:Ax.mk (Flash.mk d.Flash.Blocks) (Store.mk d.Store.Vols (Arena.mk d.Store.Arena.Knots) d.Store.Next) d.Seq d.Tx d.Base=d:=rfl;have i:Flash.mk d.Flash.Blocks=d.Flash:=rfl;rw[f,i,hp];simp only[Aa];rw[w1,jY h.dev.fl];simp only[Aa,Al,Ad];rw[Ah (by omega:¬((Es d.Flash:Nat):Int)<8)];simp only[Aa,Ad];rw[a3,Aa,Bq (by simp;omega)];rfl
 rw[e1]at b
 injection b with b
 obtain⟨rfl,rfl,rfl,rfl⟩:d'=d2/\steps=ss/\t=bs []/\no=0:=by grind
 refine⟨d',steps,r',e1,e2,w3,w4,?_,?_⟩
 ·rw[a4.dev.seq,h.dev.seq];exact a8.2.2
 rw[a4.dev.tx,h.dev.tx];exact a8.2.1
theorem ACw {s:Int} (hk:3<=k/\k<=6) (hv:1<=v/\v<=9) (hs:0<=s/\s<=15) (h0:k≠6->s=0) (ho:if k=4 then 1<=o/\o<=9 else o=0):I2 (RF.mk k v s o (bs []))=some true:=by
 unfold I2;simp only[Dx,Bh,Du];rw[Ac (by omega:(1:Int)<=k/\k<=6),Ac hv,Ac hs,show seq (bs []) (bs [])=true by rw[Kc];simp,show(k !=1)=true by simp;omega];by_cases h4:k=4
 ·subst h4;rw[B3 rfl]at ho;rw[Ac ho,h0<|by omega];rfl
 rw[Bc h4]at ho;subst ho;rw[show(k==4)=false by simpa using h4];by_cases h6:k=6
 ·subst h6;rfl
 rw[h0 h6]
 rcases(by omega:k=3\/k=5)with rfl|rfl<;>rfl
theorem ACv {s:Int} (hv:1<=v/\v<=9) (hs:0<=s/\s<=15) (ht:(L t).length<=64):I2 (RF.mk 1 v s 0 t)=some true:=by
 unfold I2;simp only[Dx,Bh];rw[Ac hv,Ac hs,Ah (by omega:¬((L t).length:Int)>64)];rfl
theorem uL (h:Gf d r) (hk:k=3\/k=4) (hv:1<=v/\v<=9) (ho:if k=4 then 1<=o/\o<=9 else o=0) (hn:JG (AO d.Store) v=none) (hl:(AO d.Store).length<3) (hg:k=4->JG (AO d.Store) o≠none):CR d (RF.mk k v 0 o (bs []))=some ([BS.mk 2 v o 0],bs [],0):=by
 have a:=h.st.len;rw[Iu]at hl;obtain⟨w,w1,w2⟩:=Yy d.Store (by omega) v;obtain⟨u,u1,u2⟩:=Yy d.Store (by omega) o;have:=w2.2 hn;unfold CR;rw[ACw (by omega) hv (by omega) (λ_=>rfl) ho];simp only[Aa,Al,Ad];rw[w1];simp only[Aa];rw[Ah (by omega:¬w>=0),Bi,Ah (by omega:¬(d.Store.Vols.length:Int)>=3)]
 rcases hk with rfl|rfl
 ·rfl
 have h2:¬u<0:=λhh=>hg rfl<|u2.1 hh
 rw[u1];simp only[Aa];rw[Ah h2];rfl
theorem lW {s:Int} (h:Gf d r) (hv:1<=v/\v<=9) (hs:0<=s/\s<=15) (ht:(L t).length<=64) (hg:JG (AO d.Store) v≠none):∃c a,CR d (RF.mk 1 v s 0 t)=some ([BS.mk 4 v s c],a,0)/\(L a).length<=90/\
  ((CT (AO d.Store) c/\BB r c=some t/\L a=[])\/(c=d.Store.Next/\L a≠ []/\∀c',CT (AO d.Store) c'->BB r c'≠some t)):=by
 have f:=h.st.len;obtain⟨w,w1,w2⟩:=Yy d.Store (by omega) v;obtain⟨live,l1,l2,l3,l4⟩:=E5 h.st;obtain⟨c,f1,f2⟩:=MN h l4 t;unfold CR;rw[ACv hv hs ht];simp only[Aa,Al,Ad];rw[w1];simp only[Aa];rw[Ac (Int.not_lt.1 λhh=>hg (w2.1 hh):w>=0),l1,Aa,f1]
 rcases f2 with⟨rfl,f2⟩|⟨f2,f3⟩
 ·obtain⟨z,z1,z2,z3⟩:=Y0 t ht;rw[z1];exact⟨d.Store.Next,z,rfl,by have:=xU ht z1;omega,.inr ⟨rfl,λe=>by rw[e]at z3;simp at z3,λc' hc=>f2 c'<|(l3 c').2 hc⟩⟩
 have b:=(l3 c).1 f2;have hc:(c==0)=false:=by have:=(T3 h.st b).1;simp;omega
 simp only[Aa];rw[hc];exact⟨c,bs [],rfl,by rw[Du];simp,.inl ⟨b,f3,Du _⟩⟩
theorem mZ (h:Gf d r):TC d=some true:=by
 have hn:=h.fl.n;have a:=h.fl.few;have e:r.length<=nl d.Flash.Blocks:=by
  have h1:=dG 0 d.Flash.Blocks;have h3:=h.sr.2.len;omega
 unfold TC;obtain⟨v,h1,h2⟩:=A9 (body:=λs:Int×Int=>Lg d s.1 s.2) (λ(s:Int) i=>(s,i)) d.Flash.Blocks.length (λi n=>n=(((d.Flash.Blocks.take i).map λb=>b.Leaves.length).sum:Nat)) (λv=>v= .inl ((nl d.Flash.Blocks:Nat):Int))
  (λn i hi hs=>by
   have hb:d.Flash.Blocks[i]?=some d.Flash.Blocks[i]:=Ab hi;have hw:=(h.fl.blk _<|Ar hi).wear;have c:=NJ (λb:Block=>b.Leaves.length) d.Flash.Blocks i hi;have f:=KE (λb:Block=>b.Leaves.length) d.Flash.Blocks<|i+1;unfold nl at a;simp only[Lg,D6 hi,Ao,hb,Aa];rw[UI,Ac hw];simp only[Aa,Al,Ad];rw[ad1,BL (by rw[Bi];omega) (by rw[Bi];omega),Bi]
   exact .inl ⟨_,rfl,by omega⟩)
  (λn hs=>⟨.inl n,by simp only[Lg,Dk],by rw[hs,Dg];rfl⟩) (s:=0) (by simp)
 rw[h1,h2];obtain⟨w,w1,w2,w3,w4⟩:=R7 d.Flash h.fl.cap (by have:=h.fl.few;omega);simp only[Aa,CL];rw[w2,Aa,cT,h.scan.i,Aa,Bi,Ac<|by omega]
theorem ABC (h:code.length<=1048576):Z6 code=some false:=by grind [Bi,Z6]
theorem qI (h:IE d r) (hw:Em d.Flash 999999000) (e:d.Store.Next<1000000000) (hs:d.Seq<=999999900) (ht:d.Tx<=1000000000) {a:ByteArray} (hp:CR d q=some ([x],a,0)) (hk:q.Kind≠6) (hl:(L a).length<=90) (b:12<=Es d.Flash):
  ∃d' steps r',Nd d q=some (d',steps,bs [],0)/\Nr d q=some (d',steps,bs [],0)/\TU d r q d' steps (bs []) 0 r'/\C3 (AO d.Store) d.Store.Next x=some (AO d'.Store,d'.Store.Next)/\(L a≠ []->BB r' x.Chunk=some q.Text)/\
   Es d'.Flash+steps.length=Es d.Flash/\steps.length=(if L a=[]then 1 else 2)/\d'.Seq<=d.Seq+10/\d'.Tx<=d.Tx+1:=by
 obtain⟨d',steps,r',e1,e2,e3,e4,e5,e6⟩:=AAv h hw e hs ht hp hk hl b;obtain⟨c,text',n,p1,p2,p3,p4⟩:=e2.done;rw[hp]at p1
 injection p1 with p1
 obtain⟨rfl,rfl,rfl⟩:c=[x]/\text'=a/\n=0:=by grind
 rcases p4 rfl hk with⟨p4,_⟩|⟨y,y1,y2,y3,y4⟩
 ·cases p4
 injection y1 with y1 _
 subst y1;exact⟨d',steps,r',e1,by rw[n8 h hw];exact e1,e2,y3,y4,e3,e4,e5,e6⟩
theorem rM (h:BR s):HW s s.Vols.length=((AO s).map Prod.snd).flatten:=by
 unfold HW AO;rw[Dg,GR];congr 1
 refine DY λv hv=>?_
 rw[Kj _ (by have:=h.few;omega) h.ar<|h.root _<|A7.2 ⟨v,hv,rfl⟩];rfl
def Nm (a i:Nat):List Int:=(List.range i).foldl (λR j=>R.set ((a+j) %16) 1) P7
theorem Xq:∀a,a<16->∀i,i<7->(∀x∈Nm a i,x=0\/x=1)/\(1∈Nm a i↔0<i)/\((Nm a i).filter λx=>x==1).length=i/\Nm a (i+1)=(Nm a i).set ((a+i) %16) 1:=by decide+kernel
def ZO:ByteArray:=bs [116,104,101,32,115,97,109,101]
structure j8 (a i:Nat) (d:Ax) (r:List Aj):Prop where
 good:IE d r
 wear:Em d.Flash (20*(i+1))
 ab:AO d.Store=[(1,Nm a i)]
 nx:d.Store.Next=if i=0 then 1 else 2
 text:0<i->BB r 1=some ZO
 sq:d.Seq<=1+10*(i+1)
 tx:d.Tx<=1+(i+1)
 room:30<=Es d.Flash+i+if i=0 then 0 else 1
theorem rI {a:Nat} (hi:i<6) (h:j8 a i d r):∃d' steps r',Nr d (RF.mk 1 1 ((((a+i) %16:Nat)):Int) 0 ZO)=some (d',steps,bs [],0)/\((steps.length:Int)==2)=((i:Int)==0)/\j8 a (i+1) d' r':=by
 obtain⟨m,hm⟩:∃m,m=a %16:=⟨_,rfl⟩
 have hR:∀j,Nm a j=Nm m j:=λj=>by
  unfold Nm;congr 1;funext R k;congr 1;omega
 obtain⟨o1,o2,o3,o4⟩:=Xq m (by omega) i (by omega);rw[<-hR]at o1 o2 o3 o4;rw[<-hR,show(m+i) %16=(a+i) %16 by omega]at o4;have b:=h.ab;have f:=h.nx
 have hw:Em d.Flash 999999000:=λx hx=>by have:=h.wear x hx;omega
 have o:=h.sq;have q:=h.tx;have g:=h.room;have n:29<=Es d.Flash+i:=by split at g<;>omega
 have live:∀c,CT (AO d.Store) c->c=1/\0<i:=λc hc=>by
  obtain⟨c0,p,hp,hc⟩:=hc;rw[b,Bl]at hp;subst hp
  rcases o1 c hc with e|e
  ·omega
  subst e;exact⟨rfl,o2.1 hc⟩
 have h64:(L ZO).length<=64:=by unfold ZO;rw[Du];simp
 obtain⟨c,text,p1,p2,p3⟩:=lW h.good.dev (v:=1) (s:=(((a+i) %16:Nat):Int)) (t:=ZO) (by omega) (by omega) h64 (by rw[b];simp[JG]);have l:c=1/\(L text=[]↔0<i):=by
  rcases p3 with⟨q1,q2,q3⟩|⟨q1,q2,q3⟩
  ·obtain⟨e1,e2⟩:=live c q1;exact⟨e1,λ_=>e2,λ_=>q3⟩
  have h0:¬0<i:=λe=>q3 1 ⟨by omega,_,by rw[b];exact Bl.2 rfl,o2.2 e⟩<|h.text e
  refine⟨?_,λe=>absurd e q2,λe=>absurd e h0⟩;rw[q1,f,B3<|by omega]
 obtain⟨rfl,k2⟩:=l;obtain⟨d',steps,r',e1,e2,e3,e4,e5,e6,e7,e8,e9⟩:=qI h.good hw (by rw[f];split<;>omega) (by omega) (by omega) p1 (by simp) p2 (by omega);refine⟨d',steps,r',e2,?_,e3.good,λx hx=>by have:=e3.wear _ h.wear x hx;omega,?_,?_,λ_=>?_,by omega,by omega,?_⟩
 ·rw[e7];by_cases h0:0<i
  ·rw[B3<|k2.2 h0];simp;omega
  rw[Bc λe=>h0<|k2.1 e,show i=0 by omega];rfl
 all_goals
  rw[b]at e4
  have hv:∀k:Nat,k<16->C3 [(1,Nm a i)] d.Store.Next (BS.mk 4 1 (k:Int) 1)=some ([(1,(Nm a i).set k 1)],2):=λk hk=>by
   unfold C3;rw[rC (by omega) (by omega)<|by omega];simp[JG,lF,f];split<;>rfl
  rw[hv _<|by omega]at e4
  injection e4 with e4
  injection e4 with f1 f2
 ·rw[<-f1,o4]
 ·rw[<-f2,Bc<|by omega]
 ·by_cases h0:0<i
  ·rw[e3.tk 1 ⟨by omega,_,by rw[b];exact Bl.2 rfl,o2.2 h0⟩];exact h.text h0
  exact e5 λe=>h0<|k2.1 e
 rw[Bc<|by omega];by_cases h0:0<i
 ·rw[B3<|k2.2 h0]at e7;rw[Bc<|by omega]at g;omega
 rw[Bc λe=>h0<|k2.1 e]at e7;rw[B3<|by omega]at g;omega
theorem uS {a:Nat}:∃d0 d steps r,KS 8=some (d0,true)/\Nr d0 (RF.mk 3 1 0 0 (bs []))=some (d,steps,bs [],0)/\j8 a 0 d r:=by
 obtain⟨d0,d1,d2,d3,d4,d5⟩:=kI (n:=8)<|by omega
 have hw:Em d0.Flash 0:=λx hx=>by
  rw[d5]at hx;rw[(List.mem_replicate.1 hx).2];exact HZ _
 have hr:Es d0.Flash=32:=by rw[d5];rfl
 have hs:d0.Seq=1:=by rw[d2.dev.seq];rfl
 have ht:d0.Tx=1:=by rw[d2.dev.tx];rfl
 obtain⟨d',steps,r',e1,e2,e3,e4,e5,e6,e7,e8,e9⟩:=qI d2 (λx hx=>by have:=hw x hx;omega) (by omega) (by omega) (by omega) (uL d2.dev (v:=1) (o:=0) (.inl rfl) (by omega) (by simp) (by rw[d3];rfl) (by rw[d3];simp)<|by simp) (by simp) (by rw[Du];simp) (by omega);have hv:C3 (AO d0.Store) d0.Store.Next (BS.mk 2 1 0 0)=some ([(1,P7)],1):=by rw[d3,d4];rfl
 rw[hv]at e4
 injection e4 with e4
 injection e4 with f1 f2
 rw[B3<|Du _]at e7;refine⟨d0,d',steps,r',d1,e2,e3.good,λx hx=>by have:=e3.wear _ hw x hx;omega,f1.symm,f2.symm,λh=>by omega,by omega,by omega,?_⟩;rw[B3 rfl];omega
theorem UO (hs:code.length<=1048576):Jf code=some true:=by
 obtain⟨pl,p1,p2,p3⟩:=fP hs
 have hg:∀i,i<12->∃a:Nat,gi pl (i:Nat)=some (a:Int)/\a<10000:=λi hi=>by
  have hx:=Ab (show i<pl.length by omega);have:=p3 _ (Ar<|show i<pl.length by omega);rw[Ao,hx];exact⟨pl[i].toNat,by rw[AL this.1],by omega⟩
 obtain⟨m,g0,_⟩:=hg 0 (by omega);obtain⟨a,g1,ha⟩:=hg 1 (by omega);rw[show((0:Nat):Int)=0 from rfl]at g0;rw[show((1:Nat):Int)=1 from rfl]at g1;obtain⟨d0,d,ss,r,q1,q2,q3⟩:=uS (a:=a);obtain⟨n,hn,h⟩:∃n:Nat,ad 1 (Int.tmod (m:Int) 6)=((n+1:Nat):Int)/\n<6:=by
  refine⟨m %6,?_,by omega⟩;rw[Int.tmod_eq_emod_of_nonneg (by omega),BL];omega
 unfold Jf;rw[ABC hs];simp only[Aa,Ad];rw[p1,q1];simp only[Aa];rw[q2,g0];simp only[Aa];obtain⟨b,l1,d9,r9,rfl,h9⟩:=A9 (body:=λs:Int×List Block×List Vol×List Bb×Int×Int×Int×Int=>G3 pl m s.1 s.2.1 s.2.2.1 s.2.2.2.1 s.2.2.2.2.1 s.2.2.2.2.2.1 s.2.2.2.2.2.2.1 s.2.2.2.2.2.2.2)
  (λ(d:Ax) i=>(i,d.Flash.Blocks,d.Store.Vols,d.Store.Arena.Knots,d.Store.Next,d.Seq,d.Tx,d.Base)) (n+1) (λi d=>∃r,j8 a i d r) (λb=>∃(d:Ax) (r:List Aj),b= .inl (d.Flash.Blocks,d.Store.Vols,d.Store.Arena.Knots,d.Store.Next,d.Seq,d.Tx,d.Base)/\j8 a (n+1) d r)
  (λd i hi hd=>by
   obtain⟨r,hr⟩:=hd;obtain⟨d',steps,r',e1,e2,e3⟩:=rI (by omega) hr;have f:Ax.mk (Flash.mk d.Flash.Blocks) (Store.mk d.Store.Vols (Arena.mk d.Store.Arena.Knots) d.Store.Next) d.Seq d.Tx d.Base=d:=rfl;simp only[G3];rw[hn,cT,g1];simp only[Aa];rw[f,BL,show Int.tmod ((a:Int)+(i:Int)) 16=(((a+i) %16:Nat):Int) by rw[Int.tmod_eq_emod_of_nonneg<|by omega];omega];rw[show bs [116,104,101,32,115,97,109,101]=ZO from rfl,e1];simp only[Aa,SC,Ad];rw[Bi,e2,ad1]
   exact .inl ⟨d',by simp,r',e3⟩)
  (λd hd=>by
   obtain⟨r,hr⟩:=hd;refine⟨_,?_,d,r,rfl,hr⟩;simp only[G3]
   rw[hn,cF]) (s:=d) ⟨r,q3⟩
 rw[l1];simp only[Aa,CL];have g:Store.mk d9.Store.Vols (Arena.mk d9.Store.Arena.Knots) d9.Store.Next=d9.Store:=rfl;have f:Ax.mk (Flash.mk d9.Flash.Blocks) d9.Store d9.Seq d9.Tx d9.Base=d9:=rfl;rw[g,f];obtain⟨o1,o2,o3,_⟩:=Xq (a %16) (by omega) (n+1) (by omega);have hR:Nm (a %16) (n+1)=Nm a (n+1):=by
  unfold Nm;congr 1;funext R k;congr 1;omega
 rw[hR]at o1 o2 o3;obtain⟨l,k1,k2,k3,_⟩:=E5 h9.good.dev.st;have hl:l=[1]:=by
  have hm:∀x,x∈l↔x=1:=λx=>by
   rw[k3 x];unfold CT;rw[h9.ab];simp only[Bl,exists_eq_left];constructor
   ·rintro⟨x1,x2⟩
    rcases o1 x x2 with e|e<;>omega
   rintro rfl;exact⟨by omega,o2.2<|by omega⟩
  cases l with
  |nil=>exact absurd ((hm 1).2 rfl)<|by simp
  |cons x l=>
   obtain rfl:=(hm x).1<|by simp
   cases l with
   |nil=>rfl
   |cons y l=>
    obtain rfl:=(hm y).1 (by simp);unfold asc at k2;simp at k2
 obtain⟨c,c1,_,_,_,c5⟩:=sM d9.Store (by have:=h9.good.dev.st.len;omega) (Yr h9.good.dev.st) 1 (by omega);rw[rM h9.good.dev.st,h9.ab]at c5;simp only[CF,List.map_nil,List.flatten_cons,List.flatten_nil,AI]at c5;rw[o3]at c5;rw[k1,hl];simp only[Aa,An];rw[show(ln [(1:Int)]==1)=true from rfl,show gi [(1:Int)] 0=some 1 from rfl];simp only[Aa,An];rw[c1,c5,hn];simp only[Aa,beq_self_eq_true,An];rw[mZ h9.good.dev];rfl
theorem fnOnceKept_true (code:List Int) (hc:ol (oK .u8) code):Jf code=some true:=by
 by_cases h:code.length<=1048576
 ·exact UO h
 unfold Jf Z6;rw[Bi,Ac<|by omega];rfl
end Go.TI
