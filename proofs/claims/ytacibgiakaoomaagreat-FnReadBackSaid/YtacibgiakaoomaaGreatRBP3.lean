/- What is written is read, and from a clone. No condition; no program is in sight. -/
import Derived.Test.YtacibgiakaoomaaGreatRBP2
set_option linter.unusedVariables false
set_option linter.unusedSimpArgs false
namespace Go.TI
open Go
theorem VL (s:Store) (hv:s.Vols.length<=1048576) (id:Int):∃w,C6 s id=some w/\(w<0↔Dw (A5 s) id=none):=by
 rcases DM s hv id with⟨e,h⟩|⟨k,v,e,h1,h2,_⟩
 ·grind [GG]
 grind [GG]
variable {d e:Device} {r r' re:List Ak} {f:Flash} {s a b:Store} {k n i:Nat} {q:Ask} {v vol o:Int} {t:ByteArray} {ss:List A8} {x:BV} {M:List Shelf} {l:List Int} {p:Int×List Int} {α:Type}
theorem AAb (h:EE d r) (hn:d.Store.Next<1000000000) (q:Ask):∃b text no,Cn d q=some (b,text,no)/\(b=[]\/∃x p,b=[x]/\Cd (A5 d.Store) d.Store.Next x=some p)/\(L text≠ []->q.Kind=1):=by
 have n:=h.st.len;have f:=h.st.nx;obtain⟨v,a1,a2⟩:=NX q
 have a:∀{P:Prop},L (bs [])≠ []->P:=λhh=>absurd (CB _) hh
 unfold Cn;rw[a1];simp only[Aa]
 cases v with
 |false=>exact⟨_,_,_,rfl,.inl rfl,a⟩
 |true=>
  have hq:=a2 rfl;simp only[Aj,Ad];have j:=hq.kind;obtain⟨w,hw,k⟩:=VL d.Store (by omega) q.Vol;rw[hw];simp only[Aa];by_cases h34:q.Kind=3\/q.Kind=4
  ·have:(cond (q.Kind==3) (some true) (some<|q.Kind==4):Option Bool)=some true:=by grind
   rw[this];simp only[Aa,Al];by_cases g:w<0
   ·rw[Ah (by omega:¬w>=0)];simp only[Ad];obtain⟨u,hu,o⟩:=VL d.Store (by omega) q.Of;obtain⟨j2,l,s⟩:∃j2,(cond (q.Kind==4) ((C6 d.Store q.Of).bind λv3=>some<|decide<|v3<0) (some false):Option Bool)=some j2/\(j2=false->q.Kind=4->Dw (A5 d.Store) q.Of≠none):=by grind
    rw[l];simp only[Aa]
    cases j2 with
    |true=>exact⟨_,_,_,rfl,.inl rfl,a⟩
    |false=>
     simp only[Ad];rw[AY];by_cases i:(d.Store.Vols.length:Int)>=3
     ·rw[Ac i];exact⟨_,_,_,rfl,.inl rfl,a⟩
     rw[Ah i];refine⟨_,_,_,rfl,.inr ⟨_,(WL (A5 d.Store) q.Vol (if 0<q.Of then(Dw (A5 d.Store) q.Of).getD IG else IG),d.Store.Next),rfl,?_⟩,a⟩;unfold Cd;rw[AT (by rw[AAE hq.vol hq.of_];simp),AT (by simp),Bv rfl,AT];simp only[not_or];refine⟨?_,by grind,by rw[Iq];omega⟩;rintro⟨e1,e2⟩
     rcases h34 with e|e
     ·have:=hq.no (by omega);omega
     grind
   rw[Ac (by omega:w>=0)];exact⟨_,_,_,rfl,.inl rfl,a⟩
  have:(cond (q.Kind==3) (some true) (some<|q.Kind==4):Option Bool)=some false:=by grind
  rw[this];simp only[Aa,Ad];by_cases g:w<0
  ·rw[Ah (by omega:¬w>=0)];exact⟨_,_,_,rfl,.inl rfl,a⟩
  rw[Ac (by omega:w>=0)]
  have hg:Dw (A5 d.Store) q.Vol≠none:=λe=>g<|k.2 e
  have taken:∀x:BV,EC x=true->x.Kind≠1->x.Kind≠2->x.Vol=q.Vol->x.Chunk<1000000000->∃p,Cd (A5 d.Store) d.Store.Next x=some p:=by
   intro x x1 x2 x3 x4 x5;unfold Cd;have x6:¬(Dw (A5 d.Store) x.Vol=none\/x.Chunk=1000000000):=by grind
   rw[AT (by rw[x1];simp),AT x2,AT x3,AT x6];split<;>exact⟨_,rfl⟩
  simp only[Aj,Ad]
  cases k1:(q.Kind==1)with
  |true=>
   simp only[Al];have k1':q.Kind=1:=by simpa using k1
   obtain⟨live,l1,l2,l3,l4⟩:=Fx h.st;obtain⟨c,f1,f2⟩:=MU h l4 q.Text;rw[l1,Aa,f1];simp only[Aa]
   rcases f2 with⟨rfl,f2⟩|⟨f2,f3⟩
   ·obtain⟨z,z1,z2,z3⟩:=Zs q.Text hq.text;rw[show((0:Int)==0)=true from rfl,z1];obtain⟨p,hp⟩:=taken (BV.mk 4 q.Vol q.Sector d.Store.Next) (nC hq.vol (by have:=hq.sec;omega) ⟨f.1,f.2⟩) (by simp) (by simp) rfl hn;exact⟨_,_,_,rfl,.inr ⟨_,_,rfl,hp⟩,λ_=>k1'⟩
   have m:=(l3 c).1 f2;have t:=Uq h.st m;rw[show(c==0)=false by grind];obtain⟨p,hp⟩:=taken (BV.mk 4 q.Vol q.Sector c) (nC hq.vol (by have:=hq.sec;omega)<|by omega) (by simp) (by simp) rfl (by show c<_;omega);exact⟨_,_,_,rfl,.inr ⟨_,_,rfl,hp⟩,λ_=>k1'⟩
  |false=>
   simp only[Ad]
   cases k2:(q.Kind==2)with
   |true=>
    obtain⟨p,hp⟩:=taken (BV.mk 5 q.Vol q.Sector 0) (by
     have:=hq.vol;have:=hq.sec
     grind [EC]) (by simp) (by simp) rfl<|by grind
    exact⟨_,_,_,rfl,.inr ⟨_,_,rfl,hp⟩,a⟩
   |false=>
    simp only[Ad]
    cases k5:(q.Kind==5)with
    |true=>
     obtain⟨p,hp⟩:=taken (BV.mk 3 q.Vol 0 0) (by
      have:=hq.vol
      grind [EC]) (by simp) (by simp) rfl<|by grind
     exact⟨_,_,_,rfl,.inr ⟨_,_,rfl,hp⟩,a⟩
    |false=>exact⟨_,_,_,rfl,.inl rfl,a⟩
theorem uS (h:AM f):N7 f<=10000:=by
 have hl:∀l:List Leaf,(∀x∈l,lfP x)->(l.map Xt).sum<=120*l.length:=by
  intro l
  induction l with
  |nil=>intro _;simp
  |cons x l ih=>
   intro hx;rw[C8,GT,AD];have:=ih (λy hy=>hx y<|by simp[hy]);have h1:Xt x<=120:=by
    have a:x.Text.size=(L x.Text).length:=by rfl
    unfold Xt
    rcases hx x (by simp)with⟨_,e⟩|⟨_,_,e⟩|⟨_,e⟩
    ·grind
    ·omega
    omega
   omega
 have hb:∀l:List Block,(∀b∈l,IF b)->(l.map Lv).sum<=500*l.length:=by
  intro l
  induction l with
  |nil=>intro _;simp
  |cons b l ih=>
   intro hx;rw[C8,GT,AD];have:=ih (λy hy=>hx y<|by simp[hy]);have h1:=hx b (by simp);have h2:=hl b.Leaves h1.leaf;have h4:=h1.four;have hz:Lv b=b.Leaves.length+(b.Leaves.map Xt).sum:=rfl;omega
 have:=hb f.Blocks h.blk;have hn:=h.n;unfold N7 zl;omega
theorem sJ (hf:AM d.Flash) (hs:BU d.Store):LD d<=1048576:=by
 have h1:=uS hf;have h2:=hs.len;have h3:=hs.small;have a:∀l:List AZ,(∀k∈l,k.Kids.length=4)->(l.map VR).sum=4*l.length:=by
  intro l
  induction l with
  |nil=>intro _;rfl
  |cons k l ih=>grind [VR]
 have h4:=a d.Store.Arena.Knots (λk hk=>by
  obtain⟨i,hi,rfl⟩:=Aw hk;have:=(F6.1 hs.ar i hi).1
  grind [Oh])
 have e1:Jk d.Store=d.Store.Vols.length+(d.Store.Arena.Knots.length+(d.Store.Arena.Knots.map VR).sum):=rfl
 grind [LD]
theorem UZ (h:EE d r):LD d<=1048576:=sJ h.fl h.st
theorem mM (s:Store) (hv:s.Vols.length<=1048576) (ha:PL s.Arena):∃l,M6 s=some l/\P8 s=some l/\l.length<=1+17*s.Vols.length:=by
 unfold M6 P8;obtain⟨l,h1,h2,h3⟩:=Gw (body:=λq:List BV×Int=>Eg s q.1 q.2) (body':=λq:List BV×Int=>Io s q.1 q.2) (λ(l:List BV) i=>(l,i)) s.Vols.length (λi l=>l.length<=1+17*i) (λl=>l.length<=1+17*s.Vols.length)
  (λl i hi hl=>by
   have hg:s.Vols[i]?=some s.Vols[i]:=Ab hi;obtain⟨a,a1,a2,a3⟩:=Ru s.Arena ha s.Vols[i].Root;have b:ap 32 l [BV.mk 2 s.Vols[i].Id 0 0]=some (l++ [BV.mk 2 s.Vols[i].Id 0 0]):=AN (by grind);simp only[Eg,Io,Da hi,Ap,hg,Aa,b,a1,a2];obtain⟨u,u1,u2,u3⟩:=Gw (body:=λq:List BV×Int=>Fy s (i:Int) a q.1 q.2) (body':=λq:List BV×Int=>Im s.Vols[i] a q.1 q.2) (λ(l:List BV) k=>(l,k)) a.length (λk o=>o.length<=l.length+1+k) (λo=>o.length<=l.length+17)
    (λo k hk ho=>by
     have c:a[k]?=some a[k]:=Ab hk
     grind [Ap,ad1,AN,Fy,Im])
    (λo ho=>⟨by simp[CM,Fy,Im],o,by simp[CM,Fy],by omega⟩) (s:=l++ [BV.mk 2 s.Vols[i].Id 0 0]) (by simp)
   grind [ad1])
  (λl hl=>⟨by simp[CM,Eg,Io],l,by simp[CM,Eg],hl⟩) (s:=[BV.mk 1 0 s.Next 0]) (by simp)
 grind
theorem mL (h:EE d r):∃st ok,Ns d=some (st,ok)/\N3 d=some (st,ok)/\(ok=true->1<=st.length)/\st.length<=1048576:=by
 have hf:IC d.Flash:=h.fl.cap;obtain⟨a,r1,r2,r3⟩:=mM d.Store (by have:=h.st.len;omega)<|gN h.st;have hb:=h.st.vs;obtain⟨b1,b2⟩:=dP hb;have e:=TT h.st;rw[r1]at e
 injection e with e
 subst e;obtain⟨st,ok,w1,w2,w3⟩:=NI d hf (LA (A5 d.Store) d.Store.Next) (by omega)<|bs [];refine⟨st,ok,?_,?_,?_,by omega⟩
 ·unfold Ns;grind
 ·unfold N3;grind
 intro ho;subst ho
 rcases PN h.fl h.seqs (LA (A5 d.Store) d.Store.Next) (by unfold LA;simp) b2 b1 (bs [])with w|⟨steps,T,g,b,q1,q2,q3,q4,q5,q6,q7,q8,q9⟩
 ·grind
 rw[w1]at q2
 injection q2 with q2
 injection q2 with q2 _
 subst q2;have c:=(DD q7).2
 grind [Bz]
theorem V3 (x a b:Int):F5 x a b=some (decide (a<=x/\x<=b)):=by
 unfold F5
 grind
theorem Lr (h:l.length<=1048576):Hp l=some l:=by grind [Kz,Hp]
theorem QX (a:Arena) (h:zO a.Knots):Hr a=some a:=by
 unfold Hr;have q:=QM (body:=λs:Int×List AZ=>Hq a s.1 s.2) a.Knots (λk=>k)
  (λi x b hx ho=>by
   have hi:=(Ae.1 hx).1;have hk:=h.2 x<|An hx;simp only[Hq,Da hi,Ap,hx,Aa];rw[Lr hk];simp only[Aa];have:=h.1;rw[AN (by simp;omega),ad1]
   rfl)
  (λb=>by simp[CM,Hq])
 rw[q];simp
theorem MI (s:Store) (h:zO s.Arena.Knots) (hv:s.Vols.length<=1048576):FY s=some s:=by
 unfold FY;rw[Kz (by omega),QX _ h];rfl
theorem P9 (a:Arena) (ha:a.Knots.length<=1048576):HN a=some (Ci a.Knots):=by grind [UX,J2]
theorem QS (a:Arena) (ha:a.Knots.length<=1048576) (r:Int):FN a r=some (decide (0<=r/\r<(a.Knots.length:Int))&&!(B4 a.Knots r).Leaf):=by
 unfold FN;rw[V3,AY,BD]
 grind [GS]
theorem jT {a:Arena} {r:Int} (ha:a.Knots.length<=1048576) (hr:CH a.Knots r=true):(cond (r !=(-1)) ((FN a r).bind λv2=>some (!v2)) (some false):Option Bool)=some false:=by grind [B5,QS]
theorem oB {r:Int} {s:Nat} {n:Int} (a:Arena) (ha:a.Knots.length<=1048000) (hK:Ci a.Knots=true) (hr:CH a.Knots r=true) (hs:s<16) (hn:0<=n):
  Xl a r (s:Int) n=some (Arena.mk (Je a.Knots r s n),(a.Knots.length:Int)+1):=by
 unfold Xl;rw[QX _ (JQ hK<|by omega),P9 a (by omega),V3,hK];rw[Ac (by omega:0<=(s:Int)/\(s:Int)<=15),Ah (by omega:¬n<0)];simp only[Aj,Ad,Aa];have hq:(cond (r !=(-1)) ((FN a r).bind λv2=>cond (!v2) (some true)<|some false) (some false):Option Bool)=some false:=by grind [B5,QS]
 rw[hq,mk4];simp only[Aa,Ad];have fin:∀(lf tp:List Int),lf.length=4->tp.length=4->Je a.Knots r s n=a.Knots++ [AZ.mk true<|lf.set (s %4) n,AZ.mk false<|tp.set (s/4) (a.Knots.length:Int)]->
   ((gi lf<|Int.tmod (s:Int) 4).bind λx4=>(gi tp<|qu (s:Int) 4).bind λx5=>(ap 32 a.Knots [AZ.mk true<|si lf (Int.tmod (s:Int) 4) n,AZ.mk false<|si tp (qu (s:Int) 4)<|ln a.Knots]).bind λq2=>some (Arena.mk q2,ad (ln a.Knots) 1))=some (Arena.mk<|Je a.Knots r s n,(a.Knots.length:Int)+1):=by
  intro lf tp h1 h2 h3;rw[qu4 hs,uY,Ap,Ap,Ab (by omega),Ab (by omega),Aa,AN (by simp;omega),Dk,Dk,AY,<-h3,ad1];rfl
 rcases B5 hr with rfl|⟨h0,h1,hl⟩
 ·rw[Ah (by omega:¬(-1:Int)>=0)];simp only[Ad,Aa];have hx:gi [(-1:Int),-1,-1,-1] (qu (s:Int) 4)=some (-1):=by
   rw[qu4 hs,Ap]
   grind
  rw[hx,Aa,Ah (by omega:¬(-1:Int)>=0)];have:=fin [0,0,0,0] [-1,-1,-1,-1] rfl rfl rfl
  grind
 rw[cT,GS h0 h1];have h4:=(E5 hK h0 h1).1;rw[Aa,Lr<|by omega];simp only[Aa];have hx:gi (B4 a.Knots r).Kids (qu (s:Int) 4)=some (NK (B4 a.Knots r)<|s/4):=by rw[qu4 hs,kN (by omega:s/4<(B4 a.Knots r).Kids.length)]
 rw[hx];simp only[Aa]
 rcases Fk hK h0 h1 hl (show s/4<4 by omega)with e|⟨e1,e2,e3⟩
 ·grind [Je,PX,T5]
 rw[cT,GS e1<|by omega]
 grind [E5,Lr,Je,PX,T5]
theorem Xn (l:List Int) (n:Int) (hl:l.length<=1048576):MH l n=some (l.contains n):=by
 unfold MH;obtain⟨b,h1,h2⟩:=A4 (body:=λs:Int=>Li l n s) (λ(_:Unit) i=>i) l.length (λi _=>n∉l.take i) (λb=>(b= .inr true/\n∈l)\/(b= .inl ()/\n∉l))
  (λ_ i hi hs=>by
   have hx:=Ab hi;simp only[Li,Da hi,Ap,hx,Aa];rw[ad1]
   cases e:(l[i]==n)with
   |true=>grind
   |false=>
    refine .inl ⟨(),by rfl,?_⟩
    grind [Ag])
  (λ_ hs=>⟨.inl (),by simp[CM,Li],.inr ⟨rfl,by grind⟩⟩) (s:=()) (by simp)
 grind
theorem Uv {r:Int} (a:Arena) (ha:a.Knots.length<=1048000) (hK:Ci a.Knots=true) (hr:CH a.Knots r=true):∃l,Oj a r=some l/\l.length<=5/\∀i:Nat,(i:Int)∈l↔MY a.Knots r i=true:=by
 unfold Oj;rw[QS a<|by omega]
 rcases B5 hr with rfl|⟨h0,h1,hl⟩
 ·simp[MY]
 rw[Ac ⟨h0,h1⟩,hl,GS h0 h1];simp only[BQ,Bool.and_self,Aj,Ad,Aa];obtain⟨h4,hk⟩:=E5 hK h0 h1;obtain⟨l,q1,q2,q3⟩:=A4 (body:=λs:List Int×Int=>J9 a (B4 a.Knots r) s.1 s.2) (λ(o:List Int) i=>(o,i)) (B4 a.Knots r).Kids.length
  (λi o=>o.length<=1+i/\∀n:Nat,(n:Int)∈o↔(r=(n:Int)\/(n:Int)∈(B4 a.Knots r).Kids.take i)) (λo=>o.length<=5/\∀n:Nat,(n:Int)∈o↔(r=(n:Int)\/(n:Int)∈(B4 a.Knots r).Kids))
  (λo i hi ho=>by
   have hx:=Ab hi;have et:(B4 a.Knots r).Kids.take (i+1)=(B4 a.Knots r).Kids.take i++ [(B4 a.Knots r).Kids[i]]:=Ag hi;refine .inl ?_;simp only[J9,Da hi,Ap,hx,Aa];rw[V3,AY,BD,ad1];simp only[Aa];have b:(B4 a.Knots r).Kids[i]=NK (B4 a.Knots r) i:=by grind
   rcases Fk hK h0 h1 hl (show i<4 by omega)with e|⟨e1,e2,e3⟩
   ·grind
   rw[cT,Xn o _<|by omega];simp only[Aa]
   cases hc:o.contains (B4 a.Knots r).Kids[i]with
   |true=>
    grind
   |false=>
    rw[AN (by simp;omega)];refine⟨_,rfl,by simp;omega,λn=>?_⟩
    grind)
  (λo ho=>⟨o,by simp[CM,J9],by have:=ho.1;omega,by grind⟩) (s:=[r]) ⟨by simp,λn=>by simp[eq_comm]⟩
 grind [MY]
theorem aE (hr:F7 r):∃l,Ai (λs:List Int×Int=>IX r s.1 s.2) ([],0)=some l/\l.Nodup/\(∀x,x∈l↔∃y∈r,y.Page.Kind=2/\y.Page.Tx=x)/\l.length<=r.length:=by
 have a:=hr.len;obtain⟨l,h1,h2,h3,h4⟩:=A4 (body:=λs:List Int×Int=>IX r s.1 s.2) (λ(o:List Int) i=>(o,i)) r.length (λi o=>o.Nodup/\(∀x,x∈o↔∃y∈r.take i,y.Page.Kind=2/\y.Page.Tx=x)/\o.length<=i) (λo=>o.Nodup/\(∀x,x∈o↔∃y∈r,y.Page.Kind=2/\y.Page.Tx=x)/\o.length<=r.length)
  (λo i hi ho=>by
   have hx:=Ab hi;have et:r.take (i+1)=r.take i++ [r[i]]:=by simp
   refine .inl ?_;simp only[IX,Da hi,Ap,hx,Aa];rw[ad1,Xn o _<|by omega]
   cases hk:(r[i].Page.Kind==2)with
   |false=>grind
   |true=>
    cases hc:o.contains r[i].Page.Tx with
    |true=>grind
    |false=>
     rw[AN<|by grind];refine⟨_,rfl,?_,λx=>?_,by simp;omega⟩
     ·grind
     grind)
  (λo ho=>⟨o,by simp[CM,IX],by grind⟩) (s:=[]) ⟨CR,by simp,by simp⟩
 grind
theorem sP (hr:F7 r) (h1:l.Nodup) (h2:∀x,x∈l↔∃y∈r,y.Page.Kind=2/\y.Page.Tx=x):Sj l=CW r:=by
 obtain⟨n1,n2,n3⟩:=FL r λy hy=>(hr.tx y hy).1;refine UL ?_ n1 λx=>?_
 ·have hs:(Sj l).Pairwise λx y=>x<=y:=by grind [List.pairwise_mergeSort,Sj]
  have hd:(Sj l).Nodup:=by grind [List.mergeSort_perm,Sj]
  unfold asc;exact(hs.and hd).imp (λh=>by omega)
 simp_all [Sj]
theorem bV (t:ByteArray) (ht:(L t).length<=20000):∀(n a:Nat) (c:List BV),(L t).length-a<=n->a<=(L t).length->c.length<=a->Ai (λs:List BV×Int=>KM t s.1 s.2) (c,(a:Int))=Ai (λs:List BV×ByteArray×Int×Bool=>Ed t s.1 s.2.1 s.2.2.1 s.2.2.2) (c,t,(a:Int),false)
 |n,a,c,hn,ha,ho=>by
  rw[Au,Au];simp only[Ed,KM];rw[Ba];by_cases d:a<(L t).length
  ·rw[Ac (by omega:(a:Int)<((L t).length:Int))];rw[DT t d,ad1];obtain⟨r1,a1,a2,a3⟩:=H5 t ((a+1:Nat):Int) (by omega) ⟨by omega,by omega⟩;have f:oI r1.2.1:=by
    rcases a3 with⟨_,_,e⟩|⟨_,_,b,_,_,e,_,_,e2,_⟩
    ·rw[e];exact⟨by omega,by omega⟩
    rw[e];exact⟨by omega,by omega⟩
   obtain⟨r2,b1,b2,b3⟩:=H5 t r1.2.1 (by omega) f;rw[a2,Aa,b2];have l1:CN (EJ.mk t ((a+1:Nat):Int) false)=some (if r1.2.2=true then(r1.1,EJ.mk t r1.2.1 false)else(0,EJ.mk t ((a+1:Nat):Int) true)):=by grind [CN]
   rw[l1]
   cases h1:r1.2.2 with
   |false=>grind [CN]
   |true=>
    simp only[Co,Aa,Aj,Ad];have l2:CN (EJ.mk t r1.2.1 false)=some (if r2.2.2=true then(r2.1,EJ.mk t r2.2.1 false)else(0,EJ.mk t r1.2.1 true)):=by grind [CN]
    rw[l2]
    cases h2:r2.2.2 with
    |false=>rfl
    |true=>
     simp only[Co,Aa,Aj,Ad];obtain⟨v,c1,c2,_⟩:=Zx<|BV.mk (qu (IntKind.i64.wrap ((L t)[a].toNat:Int)) 16) (Int.tmod (IntKind.i64.wrap ((L t)[a].toNat:Int)) 16) r1.1 r2.1;rw[c1,c2];simp only[Aa]
     cases v with
     |false=>rfl
     |true=>
      rw[AN (by simp;omega)]
      rcases b3 with⟨e,_⟩|⟨_,aa,b,m,k1,k2,k3,k4,k5,_⟩
      ·grind
      rcases a3 with⟨e,_⟩|⟨_,aa',b',m',p1,p2,p3,p4,p5,_⟩
      ·grind
      rw[k2]
      match n,hn with
      |n+1,hn=>exact bV t ht n b _ (by omega) k5 (by simp;omega)
      |0,hn=>omega
  grind
theorem aB (t:ByteArray) (ht:(L t).length<=20000):Pt t=I4 t:=by
 have h:=bV t ht (L t).length 0 [] (by omega) (by omega)<|by simp
 grind [Pt,I4]
def AC4:Page:=Page.mk 0 0 0 0 0<|bs []
theorem cO (r:List Ak) (hl:r.length<=1048576) (t a c:Int) (h:(a=0/\c=0)\/(0<a/\0<c)):QR r t a c=some (match Ri r t a c with|some y=>(y.Page,true)|none=>(AC4,false)):=by
 have hp:∀y:Ak,(cond (y.Page.Kind==2) (cond (y.Page.Tx==t) (cond (y.Page.Part==a) (cond (c==0) (some true)<|some<|y.Page.Count==c)<|some false)<|some false) (some false):Option Bool)=some (mN t a c y):=by grind [mN]
 unfold QR;obtain⟨b,h1,h2⟩:=A4 (body:=λs:Int=>Lh r t a c s) (λ(_:Unit) i=>i) r.length (λi _=>∀(j:Nat) x,j<i->r[j]?=some x->mN t a c x=false) (λb=>match Ri r t a c with|some y=>b= .inr (y.Page,true)|none=>b= .inl ())
  (λ_ i hi hs=>by
   have hx:=Ab hi;simp only[Lh,Da hi,Ap,hx,Aa];rw[hp,ad1]
   cases e:mN t a c r[i]with
   |true=>grind [gJ,Ri]
   |false=>
    refine .inl ⟨(),by rfl,λj x hj d=>?_⟩
    grind)
  (λ_ hs=>⟨.inl (),by simp[CM,Lh],by grind [rV,Ri]⟩) (s:=()) (λj x hj=>by omega)
 rw[h1]
 cases hf:Ri r t a c with
 |none=>rw[hf]at h2;simp only at h2;rw[h2];rfl
 |some y=>grind
theorem yW (r:List Ak) (hr:F7 r) (t:Int) (v:Page×Bool) (hv:1<=v.1.Count/\v.1.Count<=9):∀(n:Nat) (a:Int) (text:ByteArray) (seq:Int),a+n=11->1<=a->a<=v.1.Count->(L text).length<=90*a.toNat->
  ∃b,Ai (λs:ByteArray×Int×Int=>KG r t v s.1 s.2.1 s.2.2) (text,seq,a)=some b/\(match parts r t n a v.1.Count (L text) seq with
   |none=>b= .inr (Tx.mk 0 0 [],false)
   |some (x,q)=>∃u,b= .inl (u,q)/\L u=x/\(L u).length<=1000)
 |0,a,text,seq,hn,h1,hc,ht=>by omega
 |n+1,a,text,seq,hn,h1,hc,ht=>by
  rw[Au];simp only[KG,parts];by_cases e:a<v.1.Count
  ·rw[Ac e,Bv (.inr e)];rw[cO r hr.len t a v.1.Count (.inr ⟨by omega,by omega⟩)];simp only[Aa]
   cases hf:Ri r t a v.1.Count with
   |none=>grind
   |some y=>
    simp only[Aj,Ad];have hy:=Rh hf;have d:=hr.text y hy.1;have c:=rI hy.2 (by omega);rw[E8 text y.Page.Text (by omega),Aa,BW,c];have es:QK a seq y=(if y.Page.Seq<seq then y.Page.Seq else seq):=by grind [QK]
    rw[es,<-EG];exact yW r hr t v hv n (a+1) _ _ (by omega) (by omega) (by omega)<|by grind [EG]
  simp_all [Ah];grind
theorem fM (r:List Ak) (hr:F7 r) (t:Int):∃x ok,Ph r t=some (x,ok)/\Jd r t=(if ok=true then some x else none)/\x.Recs.length<=20000:=by
 unfold Ph Jd;rw[cO r hr.len t 0 0<|.inl ⟨rfl,rfl⟩];simp only[Aa]
 have a:parts r t 11 0 0 [] 0=(match Ri r t 0 0 with
  |none=>none
  |some y=>parts r t 10 1 y.Page.Count (L y.Page.Text) y.Page.Seq):=by rfl
 rw[a]
 cases hf:Ri r t 0 0 with
 |none=>simp
 |some y=>
  simp only[Aj,Ad];have hy:=Rh hf;have c:=hr.text y hy.1;have hc:=hr.cnt y hy.1;obtain⟨b,h1,h2⟩:=yW r hr t (y.Page,true) hc 10 1 y.Page.Text y.Page.Seq (by omega) (by omega) hc.1 (by omega);rw[h1];simp only[Aa]
  cases hp:parts r t 10 1 y.Page.Count (L y.Page.Text) y.Page.Seq with
  |none=>grind
  |some w=>
   obtain⟨x,q⟩:=w;rw[hp]at h2;obtain⟨u,rfl,rfl,h4⟩:=h2;simp only[CX];obtain⟨l,ok,r1,r2,r3⟩:=Zy u (by omega);rw[aB u (by omega),r1,ADE,r2];simp_all;grind
theorem Wr (r:List Ak) (hr:F7 r):Rc r=some (AK r):=by
 have c:=hr.len;have a:=FL r λy hy=>(hr.tx y hy).1;obtain⟨l,l1,l2,l3,l4⟩:=aE hr;unfold Rc;rw[l1];simp only[Aa];unfold TF;rw[Bv (by omega),sP hr l2 l3];simp only[Aa];obtain⟨b,h1,h2⟩:=A4 (body:=λs:List Tx×Int=>Ln r (CW r) s.1 s.2) (λ(o:List Tx) i=>(o,i)) (CW r).length (λi o=>o=((CW r).take i).filterMap (Jd r)) (λb=>b=AK r)
  (λo i hi ho=>by
   have hx:=Ab hi;have et:(CW r).take (i+1)=(CW r).take i++ [(CW r)[i]]:=Ag hi;simp only[Ln,Da hi,Ap,hx,Aa];rw[ad1];obtain⟨z,ok,k1,k2,k3⟩:=fM r hr (CW r)[i]
   grind [AN])
  (λo ho=>⟨o,by simp[CM,Ln],by rw[ho,Et];rfl⟩) (s:=[]) rfl
 grind
theorem cW (x:Tx):QT x=some (nX x):=by grind [AY,QT,nX,gi]
theorem oY (h:EE d r):Nx d=My d:=by
 have hr:=h.pages;unfold Nx My
 cases(d.Base !=sb d.Tx 1)with
 |true=>rfl
 |false=>
  rw[h.scan.s,h.scan.i];simp only[Aa];rw[Nn r hr,Wr r hr];simp only[Aa];have hb:(λs:Int=>JB d (AK r) s)=(λs:Int=>G6 d (AK r) s):=by
   funext s;simp only[JB,G6]
   cases decide (s<ln (AK r))with
   |false=>rfl
   |true=>
    cases hg:gi (AK r) s with
    |none=>rfl
    |some x=>simp_all [cW,AY,nX,gi];grind
  rw[hb]
theorem aM (h:EE d r):Pk d=Mz d:=by
 have hn:=h.fl.n;obtain⟨live,l1,l2,l3,l4⟩:=Fx h.st;unfold Mz Pk;rw[h.scan.s,l1];simp only[Aa];rw[LT r live d.Base h.scan.len l4,LT r live 1000000000 h.scan.len l4];simp only[Aa]
 have c:∀b,live.foldl (ZQ r) (r.map<|CY b)=Ca r live b:=λ_=>rfl
 rw[c,c]
 have hi:∀b:Block,IV b=Ff b:=λ_=>rfl
 have step:∀(o:Int×Int) (i:Nat),i<d.Flash.Blocks.length->GC d o.1 o.2 (i:Int)=Dd d r (Ca r live d.Base) (Ca r live 1000000000) o.1 o.2 (i:Int)/\∃o':Int×Int,Dd d r (Ca r live d.Base) (Ca r live 1000000000) o.1 o.2 (i:Int)=some (.inl (o'.1,o'.2,((i+1:Nat):Int))):=by
  intro o i a;have hx:=Ab a;have hP:=h.fl.blk _<|Aq a;have e:Gv d.Flash.Blocks[i].Leaves<=4:=by have:=fD d.Flash.Blocks[i].Leaves;rw[hP.four]at this;exact this
  simp only[Dd,GC,Da a,Ap,hx,Aa];rw[Yk r _ (i:Int) h.scan.len<|IQ _ _ _,Yk r _ (i:Int) h.scan.len<|IQ _ _ _,hi,Jz _ hP.four,ad1,(l9 h l1 l2 l4 1000000000 (i:Int)).2,(l9 h l1 l2 l4 d.Base (i:Int)).2];generalize cn r.length (λj=>(Ca r live d.Base)[j]?.getD false&&bk r (i:Int) j)=A;generalize cn r.length (λj=>(Ca r live 1000000000)[j]?.getD false&&bk r (i:Int) j)=C;simp only[Aa]
  cases d.Flash.Blocks[i].Bad with
  |true=>grind
  |false=>
   simp only[BQ,Al,Ad,Aa];by_cases q:Gv d.Flash.Blocks[i].Leaves=4
   ·rw[Ah (by omega:¬((Gv d.Flash.Blocks[i].Leaves:Nat):Int)<4),show(((Gv d.Flash.Blocks[i].Leaves:Nat):Int)==4)=true by simp;omega];simp_all;grind
   grind
 obtain⟨v,e1,e2,_⟩:=Gw (body:=λs:Int×Int×Int=>Dd d r (Ca r live d.Base) (Ca r live 1000000000) s.1 s.2.1 s.2.2) (body':=λs:Int×Int×Int=>GC d s.1 s.2.1 s.2.2) (λ(o:Int×Int) i=>(o.1,o.2,i)) d.Flash.Blocks.length (λ_ _=>True) (λ_=>True)
  (λo i a _=>by simp_all)
  (λo _=>⟨by simp[CM,Dd,GC],o.1,by simp[CM,Dd],trivial⟩) (s:=(-1,4)) trivial
 grind
theorem aV (h:G5 d r):P6 d=M5 d:=by
 obtain⟨l,d1,d2,_⟩:=aT d<|UZ h.dev;obtain⟨st,ok,b1,b2,_⟩:=mL h.dev;obtain⟨live,l1,l2,l3,l4⟩:=Fx h.dev.st
 have hm:∀b,Ll d b=Hk d b:=λb=>by
  obtain⟨v,_,v2,v3,_⟩:=Z6 h.dev h.few l1 l2 l3 l4 b;rw[v2,v3]
 unfold P6 M5;rw[d1,d2,oY h.dev,aM h.dev,b1,b2]
 grind
theorem bD {c:Nat} {s:A8} (hc:s.Block=(c:Int)) (B:Int×List Block->Option ((Int×List Block)⊕List Block)) (hB:∀i bl,B (i,bl)=Fd s i bl):∀(n i:Nat) (bl:List Block) (x:Block),bl[c]?=some x->i+n=x.Leaves.length->x.Leaves.length<=4->(∀(k:Nat),k<i->x.Leaves[k]?=some (Leaf.mk 2 (bs [])))->
  Ai B ((i:Int),bl)=some (bl.set c (Block.mk x.Bad x.Wear (List.replicate x.Leaves.length (Leaf.mk 2 (bs [])))))
 |0,i,bl,x,hx,hi,h4,hk=>by
  rw[Au,hB];simp only[Fd,hc,Ap,hx,Aa,GR];rw[cF];have e:x.Leaves=List.replicate x.Leaves.length (Leaf.mk 2 (bs [])):=by
   apply Bo
   grind
  rw[<-e];have:bl.set c x=bl:=by
   apply Bo
   grind
  cases x
  grind
 |n+1,i,bl,x,hx,hi,h4,hk=>by
  have a:i<x.Leaves.length:=by omega
  have hl:=Ab a;rw[Au,hB];simp only[Fd,hc,Ap,hx,Aa,Da a,hl,Dk];rw[ad1];have:=bD (s:=s) hc B hB n (i+1) (bl.set c<|Block.mk x.Bad x.Wear<|x.Leaves.set i<|Leaf.mk 2<|bs []) (Block.mk x.Bad x.Wear<|x.Leaves.set i<|Leaf.mk 2<|bs []) (by grind) (by simp;omega) (by simpa using h4) (λk b=>by grind);simp_all
theorem ACe {s:A8} (h:AM f) (hs:O9 f s):∃g,NV f s=some (g,true)/\uU f s g:=by
 have hd:J0 f s=some (JZ f s,true):=by grind [M4]
 unfold NV;rw[hd,BZ f h.cap];simp only[Aa,Aj,Ad]
 rcases hs with⟨k1,hm⟩|⟨k1,hc⟩
 ·rw[show(s.Kind==1)=true by simpa using k1];simp only[Al];obtain⟨_,_,A,B,e1,_,e2⟩:=Kp h hm;obtain⟨x,x1,x2,x3,x4,x5,x6⟩:=hm;have hP:=h.blk x<|An (BK x1).2;rw[x1];simp only[Aa];have hq:qu (FU s.Text) 2=(((L s.Text).length/2:Nat):Int):=by grind [Ba,MV,qu]
  rw[hq,show sub s.Text 0 (((L s.Text).length/2:Nat):Int)=sub s.Text ((0:Nat):Int) (((L s.Text).length/2:Nat):Int)from rfl,EU s.Text (HU _)<|by omega];simp only[Aa];have hx:gi x.Leaves s.Leaf=some (x.Leaves[Gv x.Leaves]'(by rw[hP.four];exact x4)):=by grind [Ap]
  rw[hx];simp only[Aa];refine⟨_,rfl,?_,λn hw=>d7 hw<|hw x<|An (BK x1).2,.inl ⟨k1,?_⟩⟩
  ·obtain⟨b0,b1⟩:=BK x1;obtain⟨c,a⟩:∃c:Nat,s.Block=(c:Int):=⟨_,(AA b0).symm⟩;rw[a,x3,Dk,Dk];refine Lq h (SU hP rfl x4 (.inr<|.inr ⟨rfl,?_⟩)<|by simp)
   grind [Jc]
  grind [Qg]
 rw[show(s.Kind==1)=false by simp;omega];simp only[Ad];obtain⟨x,x1,x2,x3⟩:=hc;obtain⟨b0,b1⟩:=BK x1;obtain⟨c,a⟩:∃c:Nat,s.Block=(c:Int):=⟨_,(AA b0).symm⟩;rw[a,B8]at b1;have hP:=h.blk x<|An b1;have hl:=bD (s:=s) a (λq:Int×List Block=>Fd s q.1 q.2) (λ_ _=>rfl) x.Leaves.length 0 f.Blocks x b1 (by omega) (by rw[hP.four];omega) (λk hk=>by omega);rw[show((0:Nat):Int)=0 from rfl]at hl;rw[hl];refine⟨_,rfl,?_,λn hw y hy=>?_,.inr ⟨k1,?_⟩⟩
 ·refine Lq h ⟨by simp[hP.four],hP.wear,λy hy=>?_,λk y z hy hz h0=>?_⟩
  ·rw[Dp hy];exact .inr<|.inr ⟨rfl,by rw[CB];simp⟩
  grind
 ·rcases BP hy with hy|rfl
  ·exact hw y hy
  exact hw x<|An b1
 grind [Wh,Uf]
theorem pN (hf:AM f) (hk:k<=ss.length) (hl:ss.length<=1000000) (h:∃m,Steps f ss m) (torn:Bool):∃g,I6 f ss (k:Int) torn=some (g,true)/\AM g/\Wz f ss k g:=by
 obtain⟨z,hz⟩:=h;rw[<-Bs k ss]at hz;obtain⟨m,h1,h2⟩:=(HO _ _ _ _).1 hz;have hm:=Sd hf h1;unfold I6;rw[AY,CU];simp only[Aa];rw[Ac (by omega:0<=(k:Int)/\(k:Int)<=(ss.length:Int))];have b:dr ss 0 (k:Int)=some (ss.take k):=by
  unfold dr
  grind
 have a:(ss.take k).length=k:=by grind
 rw[b];simp only[Aa];rw[Lc hf h1 (by omega),a];simp only[Aa];rw[Ah (by omega:¬(k:Int)<(k:Int))]
 cases torn with
 |false=>exact⟨m,rfl,hm,m,h1,.inl rfl⟩
 |true=>
  simp only[Aj,Ad,Aa];by_cases e:k=ss.length
  ·rw[show((k:Int)==(ss.length:Int))=true by simp;omega];exact⟨m,rfl,hm,m,h1,.inl rfl⟩
  rw[show((k:Int)==(ss.length:Int))=false by simp;omega];have hx:=Ab (show k<ss.length by omega);rw[A6<|show k<ss.length by omega]at h2;rw[Ap,hx];simp only[Aa];obtain⟨g,g1,g2⟩:=ACe hm h2.1;rw[g1];exact⟨g,rfl,g2.1,m,h1,.inr ⟨_,hx,h2.1,g2⟩⟩
theorem XT (h:EE d r) (vol k:Int):KY d vol k=(EK r d.Store vol k):=by
 unfold KY;rw[h.scan.s];simp only[Aa];cases EK r d.Store vol k<;>rfl
noncomputable def MW (r:List Ak) (c:Int):ByteArray:=if 0<c then(Bj r c).getD (bs [])else bs []
noncomputable def EI (r:List Ak) (p:Int×List Int):Shelf:=Shelf.mk p.1 ((List.range 16).map λk=>MW r (p.2[k]?.getD 0))
noncomputable def Jf (r:List Ak) (l:Vs):List Shelf:=l.map (EI r)
theorem jD {v:Vol} (h:G5 d r) (hv:v∈d.Store.Vols) (hk:k<16):EK r d.Store v.Id (k:Int)=some (MW r ((DF d.Store.Arena.Knots v.Root)[k]?.getD 0),true):=by
 have hg:=IY h.dev.st.asc hv
 grind [VY,MW]
theorem rB (h:G5 d r):EM d=some (Jf r (A5 d.Store))/\Gy d=some (Jf r (A5 d.Store)):=by
 have c:=h.dev.st.len;have hs:EM d=some (Jf r<|A5 d.Store):=by
  unfold EM;rw[h.dev.scan.s];simp only[Aa];obtain⟨b,h1,rfl⟩:=A4 (body:=λs:List Shelf×Int=>CT d r s.1 s.2) (λ(o:List Shelf) i=>(o,i)) d.Store.Vols.length (λi o=>o=Jf r ((A5 d.Store).take i)) (λo=>o=Jf r (A5 d.Store))
   (λo i hi ho=>by
    have hg:d.Store.Vols[i]?=some d.Store.Vols[i]:=Ab hi;simp only[CT,Da hi,Ap,hg,Aa];have:=QM (body:=λs:Int×List ByteArray=>Ez d r d.Store.Vols[i] s.1 s.2) (List.range 16) (λk=>MW r<|(DF d.Store.Arena.Knots d.Store.Vols[i].Root)[k]?.getD 0)
     (λk x a hx ho=>by grind [jD,AN,ad1,Ez])
     (λa=>by rfl)
    grind [AN,ad1,Ag,Jf,A5,EI])
   (λo ho=>⟨o,by simp[CM,CT],by grind [AF,A5]⟩) (s:=[]) rfl
  rw[h1];rfl
 obtain⟨m,m1,m2⟩:=VO d<|UZ h.dev
 grind
theorem cQ {l:Vs} (h:∀c,Cv l c->Bj r' c=Bj r c):Jf r' l=Jf r l:=by
 refine Dc λp hp=>BM (Shelf.mk p.1)<|Dc λk _=>?_
 unfold MW;split
 ·rename_i hc;rw[h _ ⟨hc,p,hp,?_⟩]
  grind
 rfl
theorem tL (h:EE d r):SE (Jf r (A5 d.Store)):=by
 have:=h.st.len;refine⟨by grind [Jf,A5],λx hx=>?_⟩;obtain⟨p,_,rfl⟩:=A0.1 hx;simp[EI]
theorem fS (a:Arena) (ha:a.Knots.length<=1048000) (hK:Ci a.Knots=true) (R:List Int) (hc:R.length<=1000) (hR:∀r∈R,CH a.Knots r=true) (v:List Int):∃l,Ai (λs:List Int×Int=>EQ a R v s.1 s.2) ([],0)=some (.inl l)/\l.length<=5000/\∀i:Nat,(i:Int)∈l↔Cj a.Knots R i=true:=by
 obtain⟨b,h1,l,rfl,h3,h4⟩:=A4 (body:=λs:List Int×Int=>EQ a R v s.1 s.2) (λ(o:List Int) i=>(o,i)) R.length (λi o=>o.length<=5*i/\∀n:Nat,(n:Int)∈o↔Cj a.Knots (R.take i) n=true) (λb=>∃l,b= .inl l/\l.length<=5000/\∀i:Nat,(i:Int)∈l↔Cj a.Knots R i=true)
  (λo i hi ho=>by
   obtain⟨o1,o2⟩:=ho;have hx:=Ab hi;have hr:=hR _<|Aq hi;obtain⟨m,m1,m2,m3⟩:=Uv a ha hK hr;simp only[EQ,Da hi,Ap,hx,Aa];rw[jT (by omega) hr];simp only[Aa,Ad];rw[m1,Aa,AN (by omega),ad1]
   simp_all [T8,Cj];grind)
  (λo ho=>⟨_,by simp[CM,EQ],o,rfl,by have:=ho.1;omega,by grind⟩) (s:=[]) ⟨by simp,λn=>by simp[Cj]⟩
 grind
theorem ZV (a:Arena) (ha:a.Knots.length<=1048000) (hK:Ci a.Knots=true) (R:List Int) (hR:∀r∈R,CH a.Knots r=true) (l:List Int) (z:l.length<=5000) (hl:∀i:Nat,(i:Int)∈l↔Cj a.Knots R i=true):
  Ai (λs:List Int×Int×List AZ=>EP a l s.1 s.2.1 s.2.2) (List.replicate a.Knots.length 0,0,[])=some (Tp a.Knots R a.Knots.length,T9 a.Knots R):=by
 have h:∀i:Nat,l.contains (i:Int)=Cj a.Knots R i:=λi=>by grind
 obtain⟨b,h1,h2⟩:=A4 (body:=λs:List Int×Int×List AZ=>EP a l s.1 s.2.1 s.2.2) (λ(o:List Int×List AZ) i=>(o.1,i,o.2)) a.Knots.length
  (λi o=>o=(Tp a.Knots R i,((List.range i).filter<|Cj a.Knots R).map<|XE a.Knots R)) (λb=>b=(Tp a.Knots R a.Knots.length,T9 a.Knots R))
  (λo i hi ho=>by
   subst ho;have h0:(0:Int)<=(i:Int):=by omega
   have f:(i:Int)<(a.Knots.length:Int):=by omega
   simp only[EP,Da hi];rw[GS h0 f,Xn l _ (by omega),h];simp only[Aa]
   cases hu:Cj a.Knots R i with
   |false=>
    rw[ad1];refine .inl ⟨(Tp a.Knots R i,((List.range i).filter<|Cj a.Knots R).map<|XE a.Knots R),rfl,?_⟩;simp_all [Ds,Tp];grind
   |true=>
    obtain⟨h4,hk⟩:=E5 hK h0 f;have n:gi (Tp a.Knots R i) (i:Int)=some 0:=by grind [Ap,Tp]
    rw[n,Lr<|by omega];simp only[Aa];have y:=ABT (K:=a.Knots) (R:=R) i;have h3:(((List.range i).filter<|Cj a.Knots R).map<|XE a.Knots R).length=iF a.Knots R i:=by rw[Bm];rfl
    have d:si (Tp a.Knots R i) (i:Int) (ln<|((List.range i).filter<|Cj a.Knots R).map<|XE a.Knots R)=Tp a.Knots R (i+1):=by simp_all [AY,Dk,NY,Tp];grind
    have inner:Ai (λs:Int×List Int=>EO (Tp a.Knots R i) (i:Int) (((List.range i).filter<|Cj a.Knots R).map<|XE a.Knots R) (B4 a.Knots (i:Int)) s.1 s.2) (0,(B4 a.Knots (i:Int)).Kids)=some (XE a.Knots R i).Kids:=by
     have q:=MF (body:=λs:Int×List Int=>EO (Tp a.Knots R i) (i:Int) (((List.range i).filter<|Cj a.Knots R).map<|XE a.Knots R) (B4 a.Knots (i:Int)) s.1 s.2) (λl k=>(k,l)) (λ_ x=>bif(B4 a.Knots (i:Int)).Leaf then x else Qf a.Knots R x) (B4 a.Knots (i:Int)).Kids
      (λk l x p t g=>by
       have u:=(Ae.1 g).1;have v:k<4:=by omega
       have ex:x=NK (B4 a.Knots (i:Int)) k:=by grind
       have same:l.set k x=l:=by
        apply Bo
        grind
       simp only[EO,Da u,Ap,g,Aa];rw[d]
       cases j:(B4 a.Knots (i:Int)).Leaf with
       |true=>grind [ad1]
       |false=>
        simp only[BQ,Al,Ad,Aa]
        rcases Fk hK h0 f j v with e|⟨e1,e2,e3⟩
        ·grind [ad1,Qf]
        obtain⟨c,hc⟩:∃c:Nat,x=(c:Int):=⟨x.toNat,by omega⟩;have w:x∈(B4 a.Knots (i:Int)).Kids:=An g;have m:=Tz (X4 hK hR hu j) h0 w (by omega);rw[hc]at m;rw[hc,Ap];unfold Tp;rw[Mj (by omega),Aa,Bv ⟨by omega,m⟩,t,Aa,Dk,ad1]
        rfl)
      (λl p=>by simp[CM,EO])
     rw[HG]at q;rw[q];unfold XE
     cases(B4 a.Knots (i:Int)).Leaf with
     |true=>simp
     |false=>rfl
    rw[inner,Aa,AN (by grind),Aa,ad1,d];refine .inl ⟨(_,_),rfl,?_⟩;congr 1;rw[Ds,BC,HP hu,List.filter_nil,GJ]
    rfl)
  (λo ho=>⟨o,by simp[CM,EP],ho⟩) (s:=(List.replicate a.Knots.length 0,[])) (by grind [LB,ES,Tp])
 grind
theorem n8 (a:Arena) (ha:a.Knots.length<=1048000) (hK:Ci a.Knots=true) (R:List Int) (hc:R.length<=1000) (hR:∀r∈R,CH a.Knots r=true):LW a R=some (Arena.mk (T9 a.Knots R),R.map (Qf a.Knots R)):=by
 unfold LW;rw[Lr<|by omega];simp only[Aa];obtain⟨l,l1,l2,l3⟩:=fS a ha hK R hc hR R;rw[l1,P9 a (by omega),hK];simp only[Aa,CX,Aj,Ad];rw[AY,Yx (by omega) (by omega),Aa,ZV a ha hK R hR l l2 l3];simp only[Aa];have q:=MF (body:=λs:List Int×Int=>Gx R (Tp a.Knots R a.Knots.length,T9 a.Knots R) s.1 s.2) (λl k=>(l,k)) (λ_ x=>Qf a.Knots R x) R
  (λk l x g h b=>by
   have hk:=(Ae.1 b).1;simp only[Gx,Da hk,Ap,b,Aa]
   rcases B5 (hR x<|An b)with e|⟨e1,e2,e3⟩
   ·rw[cF,ad1];have:Qf a.Knots R x=x:=by unfold Qf;omega
    rw[this,show l.set k x=l from by
     apply Bo
     grind]
   rw[cT];obtain⟨c,d⟩:∃c:Nat,x=(c:Int):=⟨x.toNat,by omega⟩;have f:=NM (K:=a.Knots) (An b) e1;rw[d]at f;rw[d,Ap];unfold Tp;rw[Mj (by omega),Aa,Bv ⟨by omega,f⟩,h,Aa,Dk,ad1]
   rfl)
  (λl g=>by simp[CM,Gx])
 grind [HG]
theorem Pf (h:StoreR s):KL s=some (Kg s):=by
 have hl:=h.len;have hf:=h.few;have d:(Bb s).length=s.Vols.length:=by unfold Bb;rw[Bm]
 unfold KL;have hr:Ai (λq:List Int×Int=>Ep s q.1 q.2) ([],0)=some (Bb s):=by
  obtain⟨b,h1,h2⟩:=A4 (body:=λq:List Int×Int=>Ep s q.1 q.2) (λ(o:List Int) i=>(o,i)) s.Vols.length (λi o=>o=(s.Vols.take i).map Vol.Root) (λb=>b=Bb s)
   (λo i hi ho=>by
    have hx:=Ab hi;simp only[Ep,Da hi,Ap,hx,Aa]
    grind [AN,ad1,Dg])
   (λo ho=>⟨o,by simp[CM,Ep],by rw[ho,AF<|Ax _];rfl⟩) (s:=[]) rfl
  grind
 rw[hr];simp only[Aa];rw[n8 _ (by omega) h.ar _ (by omega) h.root];simp only[Aa];have q:=MF (body:=λq:Int×List Vol=>FO s (Arena.mk<|T9 s.Arena.Knots<|Bb s,(Bb s).map<|Qf s.Arena.Knots<|Bb s) q.1 q.2) (λl i=>(i,l)) (λ_ v=>Vol.mk v.Id<|Qf s.Arena.Knots (Bb s) v.Root) s.Vols
  (λi l x a e c=>by
   have hi:=(Ae.1 c).1;simp only[FO,Da hi]
   grind [Ap,Dk,ad1,Bb])
  (λl a=>by simp[CM,FO])
 rw[HG]at q;rw[q];rfl
theorem yF {K:Ks} {R:List Int} {n:Int} (hK:Ci K=true) (hR:∀r∈R,CH K r=true) (hi:i<K.length) (hu:Cj K R i=true) (hl:(B4 K (i:Int)).Leaf=true) (hn:n∈(B4 K (i:Int)).Kids):∃r∈R,n∈DF K r:=by
 unfold Cj at hu;obtain⟨r,hr,h⟩:=Ev.1 hu;unfold MY at h;rw[Ao,Bc,GK,Bc,Ev]at h;obtain⟨h0,h⟩:=h
 rcases B5 (hR r hr)with e|⟨_,h1,h2⟩
 ·omega
 rcases h with h|⟨x,hx,he⟩
 ·grind
 obtain⟨h4,hk⟩:=E5 hK h0 h1;obtain⟨j,hj,a⟩:=Aw hx;have b:NK (B4 K r) j=(i:Int):=by grind
 obtain⟨g4,gk⟩:=E5 hK (r:=(i:Int)) (by omega) (by omega);obtain⟨t,ht,c⟩:=Aw hn;have d:NK (B4 K (i:Int)) t=n:=by grind
 refine⟨r,hr,A0.2 ⟨4*j+t,by simp;omega,?_⟩⟩
 grind [Qd]
theorem Wq (h:BU s):Om s=some true:=by
 have hl:=h.len;have hf:=h.few;unfold Om;rw[AY,cF,P9 _ (by omega),h.ar,V3,Ac h.nx];obtain⟨b,h1,l,rfl,h3,h4⟩:=A4 (body:=λq:List Int×Int=>JI s q.1 q.2) (λ(o:List Int) i=>(o,i)) s.Vols.length (λi o=>o.length<=5*i/\∀n:Nat,(n:Int)∈o↔Cj s.Arena.Knots ((Bb s).take i) n=true) (λb=>∃l,b= .inl l/\l.length<=5000/\∀i:Nat,(i:Int)∈l↔Cj s.Arena.Knots (Bb s) i=true)
  (λo i hi ho=>by
   obtain⟨o1,o2⟩:=ho;have hx:=Ab hi;have hm:s.Vols[i]∈s.Vols:=Aq hi;have a:s.Vols[i].Root∈Bb s:=A0.2 ⟨_,hm,rfl⟩;have hr:=h.root _ a;have f:(Bb s)[i]?=some s.Vols[i].Root:=by unfold Bb;grind
   obtain⟨m,m1,m2,m3⟩:=Uv s.Arena (by omega) h.ar hr;simp only[JI,Da hi,Ap,hx,Aa];rw[V3,Ac<|h.ids _ hm,jT (by omega) hr];have hj:(cond (decide<|(i:Int)>0) ((gi s.Vols<|sb (i:Int) 1).bind λx2=>cond (decide<|x2.Id>=s.Vols[i].Id) (some true)<|some false) (some false):Option Bool)=some false:=by
    by_cases h0:i=0
    ·rw[cF]
    rw[cT,BD,show(i:Int)-1=((i-1:Nat):Int) by omega,Ap,Ab<|by omega];simp only[Aa];have:=QG h.asc (show i-1<i by omega) (x:=s.Vols[i-1].Id) (y:=s.Vols[i].Id) (by grind) (by grind);rw[cF]
   rw[hj];simp only[Aa,Ad];rw[m1,Aa,AN (by omega),ad1]
   simp_all [T8,Cj];grind)
  (λo ho=>⟨_,by simp[CM,JI],o,rfl,by have:=ho.1;omega,by grind [AF,Bb]⟩) (s:=[]) ⟨by simp,λn=>by simp[Cj]⟩
 rw[h1];simp only[Aa,CX];obtain⟨c,q1,q2⟩:=A4 (body:=λq:Int=>JH s l q) (λ(_:Unit) i=>i) s.Arena.Knots.length (λ_ _=>True) (λc=>c= .inl ())
  (λ_ i hi _=>by
   have hu:=h.used i hi;simp only[JH,Da hi];rw[GS (by omega) (by omega),Xn l _ (by omega),List.contains_iff_mem.2<|(h4 i).2 hu];simp only[Aa,Aj,Ad];obtain⟨d,e1,e2⟩:=A4 (body:=λq:Int=>JG s (B4 s.Arena.Knots (i:Int)) q) (λ(_:Unit) i=>i) (B4 s.Arena.Knots (i:Int)).Kids.length (λ_ _=>True) (λc=>c= .inl ())
    (λ_ k hk _=>by
     have hx:=Ab hk;have h44:=(E5 h.ar (r:=(i:Int)) (by omega)<|by omega).1;simp only[JG,Da hk,Ap,hx,Aa];rw[ad1]
     cases e:(B4 s.Arena.Knots (i:Int)).Leaf with
     |false=>simp
     |true=>
      obtain⟨r,r1,r2⟩:=yF h.ar h.root hi hu e<|Aq hk;have:=h.lt r r1 _ r2
      simp_all [Ah])
    (λ_ _=>⟨_,by simp[CM,JG],rfl⟩) (s:=()) trivial
   rw[e1,e2];rw[ad1]
   simp)
  (λ_ _=>⟨_,by simp[CM,JH],rfl⟩) (s:=()) trivial
 grind
def yQ (l:List Vol) (v:Vol):List Vol:=(l.filter λw=>decide<|w.Id<v.Id)++ [v]++l.filter λw=>decide<|w.Id>v.Id
theorem vE {l:List Vol} {v:Vol} (h:(l.map Vol.Id).Pairwise (·<·)) (hv:∀w∈l,w.Id≠v.Id) (hl:l.length<=3):Ki (Ml Bi) (l++ [v])=some (yQ l v):=by
 have hk:∀x,Bi x=x.Id:=λ_=>rfl
 obtain⟨r,h1,h2,h3⟩:=bP Bi (l++ [v]) (by simp;omega);have hs:srt Bi (yQ l v):=by
  have:=XL h v;rw[List.pairwise_map]at this
  exact this.imp λhh=>by grind
 have:r=yQ l v:=by
  refine Mu _ h2 hs λk=>?_
  rw[h3 k];unfold yQ;rw[BC,BC,BC,Dx,Dx]
  rcases Int.lt_trichotomy k v.Id with e|e|e
  ·grind [BE]
  ·grind [BE]
  grind [BE]
 rw[h1,this]
theorem fG {r:BV} {q:Int} (h:BU s) (hn:C6 s r.Vol=some (-1)) (hv:∀v∈s.Vols,v.Id≠r.Vol) (h3:s.Vols.length≠3) (hq:(cond (decide (r.Arg>0)) ((C6 s r.Arg).bind λv1=>cond (decide (v1<0)) ((Dy s).bind λv2=>some (.inr (v2,false))) ((gi s.Vols v1).bind λx1=>some (.inl x1.Root))) (some (.inl (-1))):Option (Int⊕(Store×Bool)))=some (.inl q)):FH s r=some (Store.mk (yQ s.Vols (Vol.mk r.Vol q)) s.Arena s.Next,true):=by
 have hl:=h.len;have c:=JQ h.ar (by have:=h.few;omega);have a:=Fc s c (by omega);unfold FH;rw[hq,hn];simp only[Aa,CX];rw[cF,AY,show((s.Vols.length:Int)==3)=false by simp;omega];rw[a];have k1:=RE (body:=λq:List Vol×Int=>Hb s r q.1 q.2) s.Vols (λv=>decide<|v.Id<r.Vol) [] (by simp;omega)
  (λi v b hv ho=>by
   have hi:=(Ae.1 hv).1;simp only[Hb,Da hi,Ap,hv,Aa]
   grind [ad1,AN])
  (λb=>by simp[CM,Hb])
 rw[Av]at k1;rw[k1];simp only[Aa];have d:=bO s.Vols r.Vol;rw[AN (by simp;omega)];simp only[Aa];have k2:=RE (body:=λq:List Vol×Int=>Ha s r q.1 q.2) s.Vols (λv=>decide<|v.Id>r.Vol) ((s.Vols.filter λv=>decide<|v.Id<r.Vol)++ [Vol.mk r.Vol q]) (by simp;omega)
  (λi v b hv ho=>by
   have hi:=(Ae.1 hv).1;simp only[Ha,Da hi,Ap,hv,Aa]
   grind [ad1,AN])
  (λb=>by simp[CM,Ha])
 rw[k2];rfl
theorem kW {r:BV} (h:BU s) (hb:EC r=true) (hk:r.Kind=2):∃t ok,FH s r=some (t,ok)/\DB s r.Vol r.Arg=some (ok,t):=by
 have hl:=h.len;have a:=JQ h.ar (by have:=h.few;omega);have c:=Fc s a (by omega);have hr:=hb;unfold EC at hr;rw[hk]at hr;simp at hr
 have b:∀id,I1 s id=C6 s id:=λ_=>rfl
 have root:(FH s r=some (s,false)/\DB s r.Vol r.Arg=some (false,s))\/∃q,(cond (decide<|r.Arg>0) ((C6 s r.Arg).bind λv1=>cond (decide<|v1<0) ((Dy s).bind λv2=>some<|.inr (v2,false))<|(gi s.Vols v1).bind λx1=>some<|.inl x1.Root) (some<|.inl<|-1):Option (Int⊕(Store×Bool)))=some (.inl q)/\(cond (r.Arg !=0) ((C6 s r.Arg).bind λv1=>cond (decide<|v1<0) (some<|.inr (false,s))<|(gi s.Vols v1).bind λx1=>some<|.inl x1.Root) (some<|.inl<|-1):Option (Int⊕(Bool×Store)))=some (.inl q):=by grind [DM,Ap,FH,DB]
 rcases root with⟨g1,g2⟩|⟨q,g1,g2⟩
 ·grind
 rcases DM s (by omega) r.Vol with⟨h1,h2⟩|⟨k,v,h1,h2,h3,_⟩
 ·by_cases h3:s.Vols.length=3
  ·simp_all [AY,FH,DB]
  refine⟨_,true,fG h h1 h2 h3 g1,?_⟩;unfold DB;rw[b,b,g2,h1];simp only[Aa,CX];rw[cF,AY,Ah (by omega:¬(s.Vols.length:Int)>=3)];rw[AN (by simp;omega)];simp only[Aa];rw[vE h.asc (v:=Vol.mk r.Vol q) h2 hl];rfl
 simp_all [FH,DB]
theorem pM (h:BU s) (r:BV):Xm s r=TS s r:=by
 have hl:=h.len;have d:=JQ h.ar (by have:=h.few;omega);have e:=Fc s d (by omega);have c:=MI s d<|by omega
 have g:∀id,I1 s id=C6 s id:=λ_=>rfl
 have f:Ps r=some (EC r):=by
  obtain⟨v,a1,a2,_⟩:=Zx r
  grind [Mf]
 have a:=Zb h r;unfold Xm;rw[c,Wq h,f];simp only[Aa,Aj,Ad]
 cases hb:EC r with
 |false=>grind [KF,Cd]
 |true=>
  simp only[Aj,Ad];have hr:=hb;unfold EC at hr;unfold TS at a⊢;rw[Qz h,Mf,hb]at a⊢;simp only[Aa,Aj,Ad]at a⊢;unfold ND
  cases k1:(r.Kind==1)with
  |true=>
   have e1:r.Kind=1:=by simpa using k1
   rw[e1]at hr;simp at hr;simp only[Al,Aa,Aj,Ad];have hj:(cond (r.Arg==0) (some 1) (some r.Arg):Option Int)=some (if 1>r.Arg then 1 else r.Arg):=by grind
   rw[hj];simp only[Aa];have hP:BU (Store.mk [] (Arena.mk [])<|if 1>r.Arg then 1 else r.Arg):=by
    refine⟨⟨by simp,rfl,?_,by simp,by simp,by simp[Bb],by simp[Bb],by simp⟩,by simp⟩
    grind
   rw[Pf hP.toStoreR,XB hP];rfl
  |false=>
   simp only[Ad];rw[k1]at hr a;simp only[Ad]at a
   cases k2:(r.Kind==2)with
   |true=>
    rw[k2]at a;simp only[Al]at a⊢;obtain⟨t,ok,c1,c2⟩:=kW h hb (by simpa using k2);rw[c1]at a⊢;rw[c2];simp only[Aa]at a⊢;unfold KF at a
    cases ok with
    |false=>grind
    |true=>
     split at a
     ·grind
     obtain⟨t',q,hP,_⟩:=a
     injection q with q
     injection q with q _
     subst q;simp only[Aj,Ad];have i:Store.mk t.Vols (Arena.mk t.Arena.Knots) t.Next=t:=rfl;rw[i,Pf hP.toStoreR,XB hP];rfl
   |false=>
    simp only[Ad];rw[k2]at hr;rw[g]
    rcases DM s (by omega) r.Vol with⟨h1,h2⟩|⟨k,v,h1,h2,h3,_⟩
    ·grind
    rw[h1];simp only[Aa];rw[cF];simp only[Aa];have hm:=An h2;have j:=(Ae.1 h2).1
    cases hc:(r.Chunk==1000000000)with
    |true=>grind
    |false=>
     simp only[Ad];have l:r.Chunk≠1000000000:=by simpa using hc
     rw[e];simp only[Aa]
     cases k3:(r.Kind==3)with
     |true=>
      simp only[Al];rw[AY,ad1];have d1:dr s.Vols 0 (k:Int)=some (s.Vols.take k):=by grind [dr]
      have d2:dr s.Vols ((k+1:Nat):Int) (s.Vols.length:Int)=some (s.Vols.drop<|k+1):=by grind [AF,dr]
      rw[d1,d2];simp only[Aa];rw[Kz (by simp;omega)];simp only[Aa];rw[AN (by simp;omega),NH h.asc h2,h3];simp only[Aa,Aj,Ad];have hR:=zE h r.Vol;simp_all [K9,Pf]
     |false=>
      simp only[Ad];rw[k3]at hr;have ha:0<=r.Arg/\r.Arg<16/\0<=r.Chunk/\r.Chunk<=1000000000:=by grind
      obtain⟨t,ht⟩:∃t:Nat,r.Arg=(t:Int):=⟨_,(AA ha.1).symm⟩;have b:=h.root _<|A0.2 ⟨v,hm,rfl⟩;rw[Ap,h2];simp only[Aa];rw[ht,XU _ (by have:=h.few;omega) h.ar b (by omega) ha.2.2.1,oB _ (by have:=h.few;omega) h.ar b (by omega) ha.2.2.1];simp only[Aa,Aj,Ad];rw[Dk,BW];have hR:=ABS h h2 (show t<16 by omega) ha.2.2.1<|show r.Chunk+1<=1000000000 by omega
      grind [K9,Pf]
theorem aR (h:BU s) (a:List BV) (hr:a.length<=1048576):P2 s a=M3 s a:=by
 have hl:=h.len;have d:=JQ h.ar (by have:=h.few;omega);have e:=Fc s d (by omega);have c:=MI s d (by omega);unfold P2 M3;rw[e,c];obtain⟨b,h1,h2,_⟩:=Gw (body:=λq:Int×List Vol×List AZ×Int=>Ee s a q.1 q.2.1 q.2.2.1 q.2.2.2) (body':=λq:Int×List Vol×List AZ×Int=>Il s a q.1 q.2.1 q.2.2.1 q.2.2.2) (λ(t:Store) i=>(i,t.Vols,t.Arena.Knots,t.Next)) a.length (λ_ t=>BU t) (λ_=>True)
  (λt i hi hP=>by
   have hx:=Ab hi;have f:Store.mk t.Vols (Arena.mk t.Arena.Knots) t.Next=t:=rfl;have g:=Zb hP a[i];simp only[Ee,Il,Da hi,Ap,hx,Aa];rw[f,pM hP]
   grind [ad1,KF])
  (λt _=>⟨by simp[CM,Ee,Il],.inl (t.Vols,t.Arena.Knots,t.Next),by simp[CM,Ee],trivial⟩) (s:=s) h
 grind
theorem YC (l:List Tx) (hl:l.length<=1048576) (hr:∀x∈l,x.Recs.length<=20000):Ny l=some (Cm l):=by
 unfold Ny;obtain⟨b,h1,h2⟩:=A4 (body:=λs:Int×Int=>Hu l s.1 s.2) (λ(o:Int) i=>(o,i)) l.length (λi o=>o=(o7 (l.take i):Int)) (λb=>b=(o7 l:Int))
  (λo i hi ho=>by
   have hx:=Ab hi;have et:l.take (i+1)=l.take i++ [l[i]]:=Ag hi;have a:(l.take i).length=i:=by grind
   simp only[Hu,Da hi,Ap,hx,Aa]
   grind [ad1,cW,Xs])
  (λo ho=>⟨o,by simp[CM,Hu],by grind⟩) (s:=0) rfl
 rw[h1,h2];simp only[Aa];have d:=o6 l;have hd:dr l (o7 l:Int) (ln l)=some (Cm l):=by
  unfold dr;rw[AY,Bv (by omega),B8,B8,AF<|by simp];rfl
 rw[hd];simp only[Aa];obtain⟨b1,b2⟩:=Rx l;obtain⟨c,q1,q2⟩:=A4 (body:=λs:List Tx×Int=>Ht (Cm l) s.1 s.2) (λ(o:List Tx) i=>(o,i)) (Cm l).length (λi o=>o=(Cm l).take i) (λb=>b=Cm l)
  (λo i hi ho=>by
   have hx:=Ab hi;have e:=hr _<|b2 _<|Aq hi;have et:(Cm l).take (i+1)=(Cm l).take i++ [(Cm l)[i]]:=Ag hi;simp only[Ht,Da hi,Ap,hx,Aa];rw[Kz (by omega),Aa,AN (by grind),Aa,ad1]
   exact .inl ⟨_,rfl,by rw[et,<-ho]⟩)
  (λo ho=>⟨o,by simp[CM,Ht],by grind⟩) (s:=[]) rfl
 grind
theorem fW (h:aN f r):RN f=some (CZ r-1):=by
 have a:=h.len;unfold RN;rw[h.i];simp only[Aa];obtain⟨b,h1,h2⟩:=A4 (body:=λs:Int×Int=>JN r s.1 s.2) (λ(o:Int) i=>(o,i)) r.length (λi o=>o=CZ (r.take i)-1) (λb=>b=CZ r-1)
  (λo i hi ho=>by
   have hx:=Ab hi;have et:r.take (i+1)=r.take i++ [r[i]]:=Ag hi;simp only[JN,Da hi,Ap,hx,Aa];rw[ad1]
   grind [Xa])
  (λo ho=>⟨o,by simp[CM,JN],by grind⟩) (s:=0) (by simp[CZ])
 grind
theorem oD (r:List Ak) (hr:F7 r):Ai (λs:Int×Int=>GE r s.1 s.2) (0,1)=some (DQ r):=by
 have a:=hr.len;obtain⟨b,h1,h2⟩:=A4 (body:=λs:Int×Int=>GE r s.1 s.2) (λ(o:Int) i=>(i,o)) r.length (λi o=>o=DQ (r.take i)) (λb=>b=DQ r)
  (λo i hi ho=>by
   have hx:=Ab hi;have ht:=hr.tx _<|Aq hi;have et:r.take (i+1)=r.take i++ [r[i]]:=Ag hi;simp only[GE,Da hi,Ap,hx,Aa]
   grind [BW,WY])
  (λo ho=>⟨o,by simp[CM,GE],by grind⟩) (s:=1) rfl
 grind
theorem YF (l:List Tx) (hl:l.length<=1048576) (hr:∀x∈l,x.Recs.length<=20000):Ai (λs:Int×List Vol×List AZ×Int×Int=>GD l s.1 s.2.1 s.2.2.1 s.2.2.2.1 s.2.2.2.2) (0,[],[],1,0)=Ai (λs:Int×List Vol×List AZ×Int×Int=>De l s.1 s.2.1 s.2.2.1 s.2.2.2.1 s.2.2.2.2) (0,[],[],1,0):=by
 obtain⟨b,h1,h2,_⟩:=Gw (body:=λs:Int×List Vol×List AZ×Int×Int=>De l s.1 s.2.1 s.2.2.1 s.2.2.2.1 s.2.2.2.2) (body':=λs:Int×List Vol×List AZ×Int×Int=>GD l s.1 s.2.1 s.2.2.1 s.2.2.2.1 s.2.2.2.2) (λ(o:Store×Int) i=>(i,o.1.Vols,o.1.Arena.Knots,o.1.Next,o.2)) l.length (λ_ o=>BU o.1) (λ_=>True)
  (λo i hi hP=>by
   obtain⟨t,b0⟩:=o;have hx:=Ab hi;have d:=hr _<|Aq hi;have c:Store.mk t.Vols (Arena.mk t.Arena.Knots) t.Next=t:=rfl;simp only[De,GD,Da hi,Ap,hx,Aa];rw[c,aR hP _ (by omega),ad1];have a:=Wx hP l[i].Recs (by omega);unfold Pd at a;obtain⟨j,hj⟩:∃j,(cond ((i:Int)==0) (some l[i].Num) (some b0):Option Int)=some j:=by
    cases((i:Int)==0)with
    |true=>exact⟨_,rfl⟩
    |false=>exact⟨_,rfl⟩
   rw[hj];split at a
   ·rw[a];exact⟨rfl,.inl ⟨(t,j),rfl,hP⟩⟩
   obtain⟨u,u1,u2,_⟩:=a;rw[u1]
   exact⟨rfl,.inl ⟨(u,j),rfl,u2⟩⟩)
  (λo _=>⟨by simp[CM,De,GD],(o.1.Vols,o.1.Arena.Knots,o.1.Next,o.2),by simp[CM,De],trivial⟩) (s:=(Store.mk [] (Arena.mk []) 1,0)) bJ
 grind
theorem KP (hf:AM f):I9 f=Cc f:=by
 obtain⟨r,hs,_⟩:=zZ hf;have hr:=Vr hs hf;obtain⟨g1,g2⟩:=Td hr;obtain⟨b1,b2⟩:=Rx<|AK r;have a:=Lx r;have b:CZ r<=1000000001:=a.2.2 _ (by omega) (λy hy=>by have:=(hr.seq y hy).2;omega);unfold I9 Cc;rw[PE,O0 hf,hs.s,hs.i,BZ f hf.cap,Fp,BZ f hf.cap,fW hs];unfold SH Pq;simp only[Aa,Aj,Ad];rw[TO r hr,oD r hr,Nn r hr,Wr r hr];simp only[Aa];rw[Q3 _ g1 g2,YC _ g1 g2];simp only[Aa];rw[YF (Cm<|AK r) (by omega) λx hx=>g2 x<|b2 x hx,BW,show CZ r-1+1=CZ r by omega]
theorem dB {r:Int} (h:BU s) (hr:r∈Bb s):N4 s.Arena r=some (DF s.Arena.Knots r):=by
 obtain⟨l,l1,l2,_⟩:=Ru s.Arena (gN h) r;rw[M7 s.Arena (by have:=h.few;omega) h.ar<|h.root r hr]at l1;rw[l2,l1]
theorem aA (ha:BU a) (hb:BU b) (e:A5 a=A5 b) (n:a.Next=b.Next):Nz a b=some true:=by
 have f:=ha.len;have d:a.Vols.length=b.Vols.length:=by grind [Iq]
 unfold Nz;rw[show(ln a.Vols !=ln b.Vols)=false by grind [AY],show(a.Next !=b.Next)=false by rw[n];simp];obtain⟨q,h1,h2⟩:=A4 (body:=λs:Int=>Hx a b s) (λ(_:Unit) i=>i) a.Vols.length (λ_ _=>True) (λq=>q= .inl ())
  (λ_ i hi _=>by
   have hx:=Ab hi;have hy:=Ab (show i<b.Vols.length by omega);have c:(A5 a)[i]?=(A5 b)[i]? :=by rw[e]
   unfold A5 at c;rw[Dh,Dh,hx,hy]at c;simp only[ID,Ar,UP]at c;obtain⟨e1,e2⟩:=c;simp only[Hx,Da hi,Ap,hx,hy,Aa];rw[dB hb (A0.2 ⟨_,Aq (show i<b.Vols.length by omega),rfl⟩),dB ha<|A0.2 ⟨_,Aq hi,rfl⟩,e1,e2];simp only[Aa,Ji,Ad];generalize hR:DF b.Arena.Knots b.Vols[i].Root=R;have g:R.length=16:=by grind [DF]
   obtain⟨z,z1,z2⟩:=A4 (body:=λs:Int=>Hw R R s) (λ(_:Unit) i=>i) R.length (λ_ _=>True) (λq=>q= .inl ())
    (λ_ k hk _=>by
     have hx:=Ab hk;simp only[Hw,Da hk,Ap,hx,Aa,Ji,Ad];rw[ad1]
     simp)
    (λ_ _=>⟨_,by simp[CM,Hw],rfl⟩) (s:=()) trivial
   rw[z1,z2];rw[ad1]
   simp)
  (λ_ _=>⟨_,by simp[CM,Hx],rfl⟩) (s:=()) trivial
 grind
theorem f7 (h:EE d r):P4 d=some true:=by
 obtain⟨m,m1,m2,m3⟩:=Ls h.fl h.sr;obtain⟨e1,e2,e3⟩:=GY h m2 rfl;unfold P4;rw[KP h.fl,m1];simp only[Aa,Al];rw[Wq h.st,aA m2.st h.st e1 e2];rw[m2.seq,h.seq,m2.tx,h.tx,e3];simp
theorem mF (hf:AM f) (l:List A8) (hl:l.length<=1048576):∃g n,IM f l=some (g,n)/\AM g:=by
 unfold IM;rw[BZ f hf.cap];simp only[Aa];obtain⟨b,h1,g,n,h2,h3⟩:=A4 (body:=λs:Int×List Block=>D4 l s.1 s.2) (λ(o:Flash) i=>(i,o.Blocks)) l.length (λ_ o=>AM o) (λb=>∃g n,(b= .inl g.Blocks/\n=ln l\/b= .inr (g,n))/\AM g)
  (λo i hi ho=>by
   have hx:=Ab hi;have a:Flash.mk o.Blocks=o:=rfl;simp only[D4,Da hi,Ap,hx,Aa];rw[a]
   rcases M4 ho l[i]with⟨k1,k2⟩|⟨_,k2⟩
   ·grind [ad1,qB]
   grind)
  (λo ho=>⟨.inl o.Blocks,by simp[CM,D4],o,ln l,.inl ⟨rfl,rfl⟩,ho⟩) (s:=f) hf
 rw[h1]
 rcases h2 with⟨rfl,rfl⟩|rfl
 ·simp_all
 grind
theorem S5 (hf:AM d.Flash) (l:List A8) (hl:l.length<=1048576):MJ d l=Hg d l:=by
 obtain⟨g,n,h1,h2⟩:=mF hf l hl;obtain⟨g',n',h3,h4,_⟩:=Z8 d.Flash l hf.cap hl
 grind [KP,MJ,Hg]
theorem UF (h:EE d r):JA d=some d:=by
 unfold JA;rw[Fp,BZ d.Flash h.fl.cap,MI d.Store (JQ h.st.ar (by have:=h.st.few;omega)) (by have:=h.st.len;omega)];rfl
theorem aW (h:G5 d r) (hw:DI d.Flash 999999000) (most:Int):P7 d most=I7 d most:=by
 unfold P7 I7;rw[IJ h.dev,UF h.dev];simp only[Aa];obtain⟨b,b',h1,h2,d',all,h3,h4⟩:=cR (body:=λs:List A8×Int×List Block×List Vol×List AZ×Int×Int×Int×Int=>Ef most s.1 s.2.1 s.2.2.1 s.2.2.2.1 s.2.2.2.2.1 s.2.2.2.2.2.1 s.2.2.2.2.2.2.1 s.2.2.2.2.2.2.2.1 s.2.2.2.2.2.2.2.2)
  (body':=λs:List A8×Int×List Block×List Vol×List AZ×Int×Int×Int×Int=>GF most s.1 s.2.1 s.2.2.1 s.2.2.2.1 s.2.2.2.2.1 s.2.2.2.2.2.1 s.2.2.2.2.2.2.1 s.2.2.2.2.2.2.2.1 s.2.2.2.2.2.2.2.2)
  (λ(o:List A8×Device) i=>(o.1,i,o.2.Flash.Blocks,o.2.Store.Vols,o.2.Store.Arena.Knots,o.2.Store.Next,o.2.Seq,o.2.Tx,o.2.Base)) (λ(o:List A8×Device) i=>(o.1,i,o.2.Flash.Blocks,o.2.Store.Vols,o.2.Store.Arena.Knots,o.2.Store.Next,o.2.Seq,o.2.Tx,o.2.Base)) 20
  (λi o=>o.1.length<=200*i/\(∃r',G5 o.2 r')/\DI o.2.Flash (999999000+i))
  (λb b'=>∃(d':Device) (all:List A8),(b= .inr (d',all)\/b= .inl (all,d'.Flash.Blocks,d'.Store.Vols,d'.Store.Arena.Knots,d'.Store.Next,d'.Seq,d'.Tx,d'.Base))/\b'=(all,d'.Flash.Blocks,d'.Store.Vols,d'.Store.Arena.Knots,d'.Store.Next,d'.Seq,d'.Tx,d'.Base))
  (λo i hi hs=>by
   obtain⟨all,e⟩:=o;obtain⟨c,⟨r',hg⟩,a⟩:=hs;simp only at c hg a;have f:Device.mk (Flash.mk e.Flash.Blocks) (Store.mk e.Store.Vols (Arena.mk e.Store.Arena.Knots) e.Store.Next) e.Seq e.Tx e.Base=e:=rfl;have g:Flash.mk e.Flash.Blocks=e.Flash:=rfl;obtain⟨v,v1,v2,_⟩:=VN e.Flash hg.dev.fl.cap (by have:=hg.dev.fl.few;omega);simp only[Ef,GF];rw[f,g,v1,v2,Ac (by omega:(i:Int)<20),show decide ((i:Int)<(if 20<most then 20 else most))=decide ((i:Int)<most) by grind];simp only[Al,Aa];obtain⟨j,hj⟩:∃j,(bif decide ((i:Int)<most)then some (decide<|v<12)else some false:Option Bool)=some j:=by
    cases decide ((i:Int)<most)with
    |true=>exact⟨_,rfl⟩
    |false=>exact⟨_,rfl⟩
   rw[hj];simp only[Aa]
   cases j with
   |false=>grind
   |true=>
    obtain⟨steps,ok,c1,c2,_,c3⟩:=ZA hg (λx hx=>by have:=a x hx;omega);rw[aV hg,c1];simp only[Aa]
    cases ok with
    |false=>exact .inr ⟨_,_,rfl,rfl,e,all,.inl rfl,rfl⟩
    |true=>
     obtain⟨d',r2,k1,k2,k3⟩:=(c3 rfl).full hg (by omega);rw[S5 hg.dev.fl _ (by omega),k1,Aa,AN (by omega),ad1]
     exact .inl ⟨(all++steps,d'),rfl,rfl,by simp;omega,⟨r2,k3.good⟩,λx hx=>by have:=k3.wear _ a x hx;omega⟩)
  (λo hs=>by
   obtain⟨all,e⟩:=o;refine⟨.inl (all,e.Flash.Blocks,e.Store.Vols,e.Store.Arena.Knots,e.Store.Next,e.Seq,e.Tx,e.Base),_,?_,?_,e,all,.inr rfl,rfl⟩
   ·grind [Ef]
   grind [GF]) (s:=([],d)) ⟨by simp,⟨r,h⟩,λx hx=>by have:=hw x hx;omega⟩
 have e1:Ai (λs:List A8×Int×List Block×List Vol×List AZ×Int×Int×Int×Int=>Ef most s.1 s.2.1 s.2.2.1 s.2.2.2.1 s.2.2.2.2.1 s.2.2.2.2.2.1 s.2.2.2.2.2.2.1 s.2.2.2.2.2.2.2.1 s.2.2.2.2.2.2.2.2) ([],0,d.Flash.Blocks,d.Store.Vols,d.Store.Arena.Knots,d.Store.Next,d.Seq,d.Tx,d.Base)=some b:=h1;have e2:Ai (λs:List A8×Int×List Block×List Vol×List AZ×Int×Int×Int×Int=>GF most s.1 s.2.1 s.2.2.1 s.2.2.2.1 s.2.2.2.2.1 s.2.2.2.2.2.1 s.2.2.2.2.2.2.1 s.2.2.2.2.2.2.2.1 s.2.2.2.2.2.2.2.2) ([],0,d.Flash.Blocks,d.Store.Vols,d.Store.Arena.Knots,d.Store.Next,d.Seq,d.Tx,d.Base)=some b':=h2;rw[e1,e2,h4]
 rcases h3 with rfl|rfl
 ·rfl
 rfl
theorem ABr (ha:BU a) (hb:BU b) (e:A5 a=A5 b) (id:Int):C6 a id=C6 b id:=by
 have d:=ha.len;have f:=hb.len
 have c:∀i:Nat,(a.Vols[i]?).map Vol.Id=(b.Vols[i]?).map Vol.Id:=λi=>by
  have:=BM (λl=>(l[i]?).map Prod.fst) e
  grind [A5]
 grind [DM]
theorem WC (h:G5 d r) (k:Iu n d r e re) (q:Ask):Cn e q=Cn d q:=by
 have hv:(ln e.Store.Vols)=ln d.Store.Vols:=by rw[AY,AY,<-Iq,<-Iq,k.ab]
 have f:=ABr k.good.dev.st h.dev.st k.ab
 have g:((Fg e.Store).bind λv4=>I5 e.Flash v4 q.Text)=(Fg d.Store).bind λv4=>I5 d.Flash v4 q.Text:=by
  obtain⟨l,l1,_,l3,l4⟩:=Fx h.dev.st;obtain⟨m,m1,_,m3,m4⟩:=Fx k.good.dev.st;rw[l1,m1];simp only[Aa];obtain⟨v,v1,v2⟩:=MU h.dev l4 q.Text;obtain⟨w,w1,w2⟩:=MU k.good.dev m4 q.Text;rw[v1,w1];congr 1
  have hl:∀c,c∈m↔c∈l:=λc=>by rw[m3,l3,k.ab]
  rcases v2 with⟨rfl,v2⟩|⟨v2,v3⟩
  ·rcases w2 with⟨rfl,_⟩|⟨w2,w3⟩
   ·rfl
   rw[k.text _<|(l3 w).1<|(hl w).1 w2]at w3
   grind
  have a:=(l3 v).1 v2
  rcases w2 with⟨rfl,w2⟩|⟨w2,w3⟩
  ·exact absurd (by rw[k.text _ a];exact v3)<|w2 v<|(hl v).2 v2
  have b:=(l3 w).1<|(hl w).1 w2;rw[k.text _ b]at w3;exact h.data.dist _ _ b a<|by rw[w3,v3]
 unfold Cn;simp only[f,hv,k.nx];simp only[<-Option.bind_assoc,g]
theorem WA (h:AM f):MK f=Jy f:=by
 obtain⟨v,v1,v2,_⟩:=VN f h.cap (by have:=h.few;omega);rw[v1,v2]
theorem Tk (h:G5 d r) (hw:DI d.Flash 999999000) (q:Ask):Pr d q=KE d q:=by
 unfold Pr KE;obtain⟨v,p1,p2,p3⟩:=uH d (UZ h.dev) q;rw[UF h.dev,IJ h.dev,f7 h.dev,LR h.dev,p1,p2];simp only[Aa,Aj,Ad]
 cases a:(v.2.2 !=0)with
 |true=>rfl
 |false=>
  cases l:(q.Kind==6)with
  |true=>
   have hq:ABI q:=by
    obtain⟨i,j,no⟩:=v;have:no=0:=by simpa using a
    subst this;exact Z3 h.dev p1
   obtain⟨k,hk⟩:∃k:Nat,q.Sector=(k:Int):=⟨_,(AA hq.sec.1).symm⟩;simp only[Al];rw[hk,n9 h q.Vol (by have:=hq.sec;omega),XT h.dev]
  |false=>
   rw[WA h.dev.fl,aW h hw 20];obtain⟨v5,b⟩:=Oy h.dev.fl;rw[b];simp only[Aa];have clean:∃e all re,(cond (decide<|v5<12) ((I7 d 20).bind λv6=>some (v6.2,v6.1.Flash.Blocks,v6.1.Store.Vols,v6.1.Store.Arena.Knots,v6.1.Store.Next,v6.1.Seq,v6.1.Tx,v6.1.Base)) (some ([],d.Flash.Blocks,d.Store.Vols,d.Store.Arena.Knots,d.Store.Next,d.Seq,d.Tx,d.Base)):Option (List A8×List Block×List Vol×List AZ×Int×Int×Int×Int))=some (all,Flash.Blocks<|Device.Flash e,e.Store.Vols,e.Store.Arena.Knots,e.Store.Next,e.Seq,e.Tx,e.Base)/\Iu 20 d r e re:=by
    cases decide (v5<12)with
    |false=>exact⟨d,[],r,rfl,Iu.refl h⟩
    |true=>
     obtain⟨e,all,re,k1,k2,k3,_⟩:=ZB h hw 20;rw[k1];exact⟨e,all,re,rfl,k2⟩
   obtain⟨e,all,re,k1,k5⟩:=clean;rw[k1];simp only[Aa];have c:Device.mk (Flash.mk e.Flash.Blocks) (Store.mk e.Store.Vols (Arena.mk e.Store.Arena.Knots) e.Store.Next) e.Seq e.Tx e.Base=e:=rfl;have f:Flash.mk e.Flash.Blocks=e.Flash:=rfl;rw[c,f,WC h k5 q,p1,WA k5.good.dev.fl];simp only[Aa];obtain⟨st,ok,w1,w2,w3⟩:=NI e k5.good.dev.fl.cap v.1 (by omega) v.2.1;obtain⟨v9,g⟩:=Oy k5.good.dev.fl;rw[w1,w2,g];simp only[Aa];rw[S5 k5.good.dev.fl st<|by omega]
   grind
theorem zH (h:G5 d r):Kf n d r []:=⟨⟨d.Flash,rfl⟩,λk g _ hg=>by
 obtain⟨m,m1,m2⟩:=hg;rw[List.take_nil]at m1;obtain rfl:m=d.Flash:=m1
 rcases m2 with rfl|⟨s,s1,_⟩
 ·obtain⟨x,hx⟩:=(Iu.refl (n:=n) h).torn h.dev.fl rfl λ_ h=>h;exact⟨x,r,hx⟩
 simp at s1⟩
def AEs (d:Device) (r:List Ak) (d':Device) (r':List Ak) (g:Flash):Prop:=∃x rx,Cc g=some (x,true)/\x.Flash=g/\G5 x rx/\x.Store.Next<=d.Store.Next+1/\(∀w:Int,DI d.Flash w->DI x.Flash (w+21))/\
 ((A5 x.Store=A5 d.Store/\∀c,Cv (A5 d.Store) c->Bj rx c=Bj r c)\/(A5 x.Store=A5 d'.Store/\rx=r'))
structure Sf (d:Device) (r:List Ak) (q:Ask) (d':Device) (steps:List A8) (t:ByteArray) (no:Int) (r':List Ak):Prop where
 good:G5 d' r'
 len:steps.length<=4010
 nx:d'.Store.Next<=d.Store.Next+1
 ids:AAf d d' q.Vol
 wear:∀w:Int,DI d.Flash w->DI d'.Flash (w+20)
 tk:∀c,Cv (A5 d.Store) c->Bj r' c=Bj r c
 kept:no≠0\/q.Kind=6->A5 d'.Store=A5 d.Store
 text:q.Kind≠6\/no≠0->t=bs []
 read:q.Kind=6->no=0->∃ok,KY d q.Vol q.Sector=some (t,ok)
 done:∃recs text n,Cn d q=some (recs,text,n)/\(n≠0->no=n)/\(n=0->no=0\/no=4\/q.Kind=6/\no=1)/\(no=0->q.Kind≠6->(recs=[]/\A5 d'.Store=A5 d.Store)\/
  ∃x,recs=[x]/\Yf d r q x text/\Cd (A5 d.Store) d.Store.Next x=some (A5 d'.Store,d'.Store.Next)/\(L text≠ []->Bj r' x.Chunk=some q.Text))
 walk:Steps d.Flash steps d'.Flash
 cut:∀k g,k<=steps.length->Wz d.Flash steps k g->AEs d r d' r' g
theorem Iu.served {no:Int} {steps:List A8} (k:Iu 20 d r e re) (hs:Steps d.Flash steps e.Flash) (hc:Kf 20 d r steps) (hl:steps.length<=4010) (ht:q.Kind≠6\/no≠0->t=bs []) (hr:q.Kind=6->no=0->∃ok,KY d q.Vol q.Sector=some (t,ok)) (hd:∃c text n,Cn d q=some (c,text,n)/\(n≠0->no=n)/\(n=0->no=0\/no=4\/q.Kind=6/\no=1)/\(no=0->q.Kind≠6->c=[])):Sf d r q e steps t no re:=by
 obtain⟨c,text,n,h1,h2,h3,h4⟩:=hd;refine⟨k.good,hl,by have:=k.nx;omega,j6 k.ab _,k.wear,k.text,λ_=>k.ab,ht,hr,⟨c,text,n,h1,h2,h3,λa b=> .inl ⟨h4 a b,k.ab⟩⟩,hs,λj g hj hg=>?_⟩;obtain⟨x,rx,x1,x2,x3⟩:=hc.2 j g hj hg;exact⟨x,rx,x1,x2,x3.good,by have:=x3.nx;omega,λw hw b hb=>by have:=x3.wear w hw b hb;omega,.inl ⟨x3.ab,x3.text⟩⟩
theorem sC (h:G5 d r) (hw:DI d.Flash 999999000) (n:d.Store.Next<1000000000) (q:Ask):∃d' steps t no r',KE d q=some (d',steps,t,no)/\Sf d r q d' steps t no r':=by
 unfold KE;rw[IJ h.dev,LR h.dev];obtain⟨f,text,no,p1,p2,p3⟩:=Z4 h.dev q;obtain⟨recs',text',no',t1,t2,_⟩:=AAb h.dev n q;rw[p1]at t1;rw[p1];simp only[Aa];have k0:Iu 20 d r d r:=Iu.refl h;have c0:Kf 20 d r []:=zH h
 cases i:(no !=0)with
 |true=>
  have hn:no≠0:=by simpa using i
  exact⟨_,_,_,_,r,rfl,k0.served rfl c0 (by simp) (λ_=>rfl) (λ_ e=>absurd e hn) ⟨_,_,_,p1,λ_=>rfl,λe=>absurd e hn,λe=>absurd e hn⟩⟩
 |false=>
  have o:no=0:=by simpa using i
  subst o;have hq:=Z3 h.dev p1
  cases j:(q.Kind==6)with
  |true=>
   have hk:q.Kind=6:=by simpa using j
   obtain⟨k,v⟩:∃k:Nat,q.Sector=(k:Int):=⟨_,(AA hq.sec.1).symm⟩;obtain⟨u,ok,u1⟩:∃u ok,KY d q.Vol q.Sector=some (u,ok):=by
    rw[XT h.dev,v]
    rcases VY h q.Vol (k:=k) (by have:=hq.sec;omega)with⟨_,e⟩|⟨h6,c,_,_,_,⟨_,e⟩|⟨_,_,u,_,e⟩⟩<;>exact⟨_,_,e⟩
   rw[u1]
   cases ok with
   |false=>exact⟨_,_,_,_,r,rfl,k0.served rfl c0 (by simp) (λ_=>rfl) (λ_ e=>by cases e) ⟨_,_,_,p1,λe=>absurd rfl e,λ_=> .inr (.inr ⟨hk,rfl⟩),λe=>by cases e⟩⟩
   |true=>exact⟨_,_,_,_,r,rfl,k0.served rfl c0 (by simp) (λe=>by omega) (λ_ _=>⟨true,u1⟩) ⟨_,_,_,p1,λe=>absurd rfl e,λ_=> .inl rfl,λ_ e=>absurd hk e⟩⟩
  |false=>
   have hk:q.Kind≠6:=by simpa using j
   obtain⟨v5,z⟩:=Oy h.dev.fl;rw[z];simp only[Aa];have clean:∃e all re,(cond (decide<|v5<12) ((I7 d 20).bind λv6=>some (v6.2,v6.1.Flash.Blocks,v6.1.Store.Vols,v6.1.Store.Arena.Knots,v6.1.Store.Next,v6.1.Seq,v6.1.Tx,v6.1.Base)) (some ([],d.Flash.Blocks,d.Store.Vols,d.Store.Arena.Knots,d.Store.Next,d.Seq,d.Tx,d.Base)):Option (List A8×List Block×List Vol×List AZ×Int×Int×Int×Int))=some (all,Flash.Blocks<|Device.Flash e,e.Store.Vols,e.Store.Arena.Knots,e.Store.Next,e.Seq,e.Tx,e.Base)/\Iu 20 d r e re/\all.length<=4000/\Steps d.Flash all e.Flash/\Kf 20 d r all:=by
    cases decide (v5<12)with
    |false=>exact⟨d,[],r,rfl,k0,by simp,rfl,c0⟩
    |true=>
     obtain⟨e,all,re,k1,k2,k3,k4,k5⟩:=ZB h hw 20
     grind
   obtain⟨e,all,re,k1,k5,k4,k3,kc⟩:=clean;rw[k1];simp only[Aa];have h0:Device.mk (Flash.mk e.Flash.Blocks) (Store.mk e.Store.Vols (Arena.mk e.Store.Arena.Knots) e.Store.Next) e.Seq e.Tx e.Base=e:=rfl;have h1:Flash.mk e.Flash.Blocks=e.Flash:=rfl;have k2:=k5.good;have l:=WC h k5 q;rw[h0,h1,l,p1];simp only[Aa];have stay:Sf d r q e all (bs []) 4 re:=k5.served k3 kc (by omega) (λ_=>rfl) (λhh=>absurd hh hk) ⟨_,_,_,p1,λe=>absurd rfl e,λ_=> .inr (.inl rfl),λe=>by cases e⟩;obtain⟨v9,h2⟩:=Oy k2.dev.fl;obtain⟨st,ok,w1,_,w3⟩:=NI e k2.dev.fl.cap f (by grind) text;rw[w1,h2]
   cases h3:ok with
   |false=>grind
   |true=>
    subst h3;simp only[Aj,Ad,Aa]
    cases decide (v9<8)with
    |true=>grind
    |false=>
     rcases p2 with⟨rfl,rfl⟩|⟨_,x,rfl,p4⟩
     ·have h7:Ck e [] (bs [])=some ([],true):=rfl
      injection w1 with w1
      injection w1 with w1 _
      subst w1;obtain⟨d',u1,u2,u3⟩:=k5.torn k2.dev.fl rfl λ_ hh=>hh;rw[OK k2.dev (steps:=[]) rfl (by simp) u1,Aa,AN (by simp;omega),AJ];exact⟨_,_,_,_,re,rfl,u3.served (by rw[u2];exact k3) kc (by omega) (λ_=>rfl) (λhh=>absurd hh hk) ⟨_,_,_,p1,λe=>absurd rfl e,λ_=> .inl rfl,λ_ _=>rfl⟩⟩
     obtain⟨recs2,text2,no2,s1,s2,_⟩:=Z4 k2.dev q;rw[l,p1]at s1;have h4:Yf e re q x text:=by grind
     rcases pS k2 h4 with w|⟨steps,d',r',a1,a2,a3,a4,a5,_,a7,_,aw,a8,tt,_,ac⟩
     ·grind
     rw[a1]at w1
     injection w1 with w1
     injection w1 with w1 _
     subst w1;rw[a3,Aa,AN<|by omega];obtain⟨p,hp⟩:∃p,Cd (A5 d.Store) d.Store.Next x=some p:=by grind
     rw[k5.ab,k5.nx,hp,Er]at a5;have hnx':=k5.nx
     have a:∀w:Int,DI d.Flash w->DI d'.Flash (w+20):=λw hw=>aw _<|k5.wear w hw
     refine⟨_,_,_,_,r',rfl,⟨a4,by simp;omega,by omega,λy hy=>by rw[<-p4.2.2.1];grind [oN,Cd],a,λc hc=>by rw[tt.1 c (by rw[k5.ab];exact hc),k5.text c hc],λhh=>by omega,λ_=>rfl,λhh=>absurd hh hk,
      ⟨_,_,_,p1,λe=>absurd rfl e,λ_=> .inl rfl,λ_ _=> .inr ⟨x,rfl,p4,by rw[hp,a5],λe=>?_⟩⟩,(HO _ _ _ _).2 ⟨_,k3,a8⟩,λk g h8 hg=>?_⟩⟩
     ·rw[tt.2 e]
      rcases p4.2.2.2 with⟨q1,_⟩|⟨_,_,_,q4,_⟩
      ·exact absurd q1 e
      exact q4
     rcases dH hg k3 with⟨c1,c2⟩|⟨c1,c2⟩
     ·obtain⟨x,rx,x1,x2,x3⟩:=kc.2 k g (by omega) c2;exact⟨x,rx,x1,x2,x3.good,by have:=x3.nx;omega,λw hw b hb=>by have:=x3.wear w hw b hb;omega,.inl ⟨x3.ab,x3.text⟩⟩
     by_cases h5:k-all.length<steps.length
     ·obtain⟨y,ry,y1,y2,y3,_⟩:=ac _ g h5 c2;exact⟨y,ry,y1,y2,y3.good,by have:=y3.nx;omega,λw hw b hb=>by have:=y3.wear _ (k5.wear w hw) b hb;omega,.inl ⟨by rw[y3.ab,k5.ab],λc hc=>by rw[y3.text c (by rw[k5.ab];exact hc),k5.text c hc]⟩⟩
     obtain⟨m,m1,m2⟩:=c2;rw[AF<|by omega]at m1;obtain rfl:=Mq m1 a8
     rcases m2 with rfl|⟨s,s1,_⟩
     ·obtain⟨y,u1,u2,u3⟩:=Ls a4.dev.fl a4.dev.sr;obtain⟨e1,e2,_⟩:=GY a4.dev u2 rfl;exact⟨y,r',u1,u3,⟨u2,a4.core,by rw[e1];exact a4.data⟩,by omega,λw hw b hb=>by rw[u3]at hb;have:=a w hw b hb;omega,.inr ⟨e1,rfl⟩⟩
     grind
theorem dJ {l:List Shelf} (h:SE l) {body:List Shelf×Int->Option ((List Shelf×Int)⊕List Shelf)} (hb:∀o i,body (o,i)=bif decide (i<ln l)then((gi l i).bind λx=>(ap 16 [] x.Texts).bind λq1=>(ap 32 o [Shelf.mk x.Vol q1]).bind λq2=>some (.inl (q2,ad i 1)))else some (.inr o)):Ai body ([],0)=some l:=by
 have h1:=h.1;obtain⟨b,h3,rfl⟩:=A4 (body:=body) (λ(o:List Shelf) i=>(o,i)) l.length (λi o=>o=l.take i) (λb=>b=l)
  (λo i hi ho=>by
   have hx:=Ab hi;have:=h.2 _<|Aq hi;rw[hb];simp only[Da hi,Ap,hx,Aa];rw[AN (by simp;omega),Aa,Av,AN (by grind),Aa,ad1]
   exact .inl ⟨_,rfl,by rw[ho,Ag hi]⟩)
  (λo ho=>⟨o,by simp_all [CM],by grind⟩) (s:=[]) rfl
 exact h3
theorem zI {l:List Shelf} (h:SE l):NQ l=some l/\KH l=some l:=by
 constructor
 ·grind [dJ,NQ,TK,gi]
 unfold KH;rw[dJ h λo i=>rfl];rfl
theorem o5 (h:EE d r) (vol:Int):RG (Jf r (A5 d.Store)) vol=R0 (Jf r (A5 d.Store)) vol/\((R0 (Jf r (A5 d.Store)) vol=some (-1)/\Dw (A5 d.Store) vol=none)\/
  ∃k:Nat,∃a,R0 (Jf r (A5 d.Store)) vol=some (k:Int)/\(A5 d.Store)[k]?=some (vol,a)/\Dw (A5 d.Store) vol=some a):=by
 refine⟨rfl,?_⟩;have g:=h.st.len;have c:(Jf r<|A5 d.Store).length=d.Store.Vols.length:=by unfold Jf A5;simp
 unfold R0;obtain⟨b,h1,h2⟩:=A4 (body:=λs:Int=>OC (Jf r<|A5 d.Store) vol s) (λ(_:Unit) i=>i) d.Store.Vols.length (λi _=>∀j w,j<i->d.Store.Vols[j]?=some w->w.Id≠vol)
  (λb=>(b= .inl ()/\Dw (A5 d.Store) vol=none)\/∃k:Nat,∃a,b= .inr (k:Int)/\(A5 d.Store)[k]?=some (vol,a)/\Dw (A5 d.Store) vol=some a)
  (λ_ i hi hs=>by
   have hv:=Ab hi;have hx:(Jf r<|A5 d.Store)[i]?=some (EI r (d.Store.Vols[i].Id,DF d.Store.Arena.Knots d.Store.Vols[i].Root)):=by grind [Jf,A5]
   have f:i<(Jf r<|A5 d.Store).length:=by omega
   simp only[OC,Da f,Ap,hx,Aa];by_cases e:d.Store.Vols[i].Id=vol
   ·rw[show((EI r (d.Store.Vols[i].Id,DF d.Store.Arena.Knots d.Store.Vols[i].Root)).Vol==vol)=true from JW.2 e];refine .inr ⟨_,rfl,.inr ⟨i,DF d.Store.Arena.Knots d.Store.Vols[i].Root,rfl,?_,?_⟩⟩
    ·unfold A5;grind
    rw[<-e];exact IY h.st.asc<|Aq hi
   rw[show((EI r (d.Store.Vols[i].Id,DF d.Store.Arena.Knots d.Store.Vols[i].Root)).Vol==vol)=false from beq_eq_false_iff_ne.2 e,Ad,ad1];refine .inl ⟨(),rfl,λj w hj hw=>?_⟩
   grind)
  (λ_ hs=>⟨_,by simp only[OC];rw[show((d.Store.Vols.length:Nat):Int)=((Jf r<|A5 d.Store).length:Nat) by rw[c]];simp only[CM],.inl ⟨rfl,GG.1 λv hv=>by
   obtain⟨j,hj,e⟩:=Aw hv
   exact hs j v hj<|by grind⟩⟩) (s:=()) (λj w hj=>by omega)
 grind
def ZT (M:List Shelf) (s:Shelf):List Shelf:=(M.filter λx=>decide<|x.Vol<s.Vol)++ [s]++M.filter λx=>decide<|x.Vol>s.Vol
theorem ABZ (hM:M.length<=3) (p:Shelf->Bool) (o:List Shelf) (ho:o.length<=4) {body:List Shelf×Int->Option ((List Shelf×Int)⊕List Shelf)} (hb:∀o i,body (o,i)=bif decide (i<ln M)then((gi M i).bind λx=>bif p x then((gi M i).bind λy=>(ap 32 o [y]).bind λq=>some (.inl (q,ad i 1)))else some (.inl (o,ad i 1)))else some (.inr o)):Ai body (o,0)=some (o++M.filter p):=by
 obtain⟨b,h3,rfl⟩:=A4 (body:=body) (λ(q:List Shelf) i=>(q,i)) M.length (λi q=>q=o++(M.take i).filter p) (λb=>b=o++M.filter p)
  (λq i hi hq=>by
   have hx:=Ab hi;have a:=B7 p<|M.take i;rw[Eu]at a;rw[hb];simp only[Da hi,Ap,hx,Aa]
   grind [Ag,ad1,AN])
  (λq hq=>⟨q,by simp_all [CM],by grind⟩) (s:=o) (by simp)
 exact h3
theorem nY {s:Shelf} (h:SE M) (hM:M.length<=3) (hs:s.Texts.length=16):SE (ZT M s)/\(ZT M s).length<=7:=by
 have h1:=B7 (λx:Shelf=>decide<|x.Vol<s.Vol) M;have h2:=B7 (λx:Shelf=>decide<|x.Vol>s.Vol) M;have hl:(ZT M s).length<=7:=by unfold ZT;grind
 refine⟨⟨by omega,λx hx=>?_⟩,hl⟩;unfold ZT at hx;simp only[Ay,Bn]at hx
 rcases hx with(hx|rfl)|hx
 ·exact h.2 x (AI.1 hx).1
 ·omega
 exact h.2 x (AI.1 hx).1
theorem ADF {s:Shelf} (h:SE M) (hM:M.length<=3) (hs:s.Texts.length=16) (a:∀x∈M,x.Vol≠s.Vol):TL M s=some (ZT M s)/\Lg M s=some (ZT M s):=by
 have h1:=B7 (λx:Shelf=>decide<|x.Vol<s.Vol) M;have h2:=B7 (λx:Shelf=>decide<|x.Vol>s.Vol) M;constructor
 ·unfold TL;rw[ABZ hM (λx=>decide<|x.Vol<s.Vol) [] (by simp) λo i=>rfl,Aa,AN (by simp;omega),Aa,Av,ABZ hM (λx=>decide<|x.Vol>s.Vol) _ (by simp;omega) λo i=>rfl,Aa]
  grind [zI,nY,ZT]
 unfold Lg;obtain⟨b,h3,rfl⟩:=A4 (body:=λq:List Shelf×List Shelf×Int=>Ho M s q.1 q.2.1 q.2.2) (λ(q:List Shelf×List Shelf) i=>(q.1,q.2,i)) M.length (λi q=>q=((M.take i).filter λx=>decide<|x.Vol<s.Vol,(M.take i).filter λx=>decide<|x.Vol>s.Vol)) (λb=>b=(M.filter λx=>decide<|x.Vol<s.Vol,M.filter λx=>decide<|x.Vol>s.Vol))
  (λq i hi hq=>by
   have hx:=Ab hi;have hn:=a _<|Aq hi;have f1:=B7 (λx:Shelf=>decide<|x.Vol<s.Vol)<|M.take i;have f2:=B7 (λx:Shelf=>decide<|x.Vol>s.Vol)<|M.take i;rw[Eu]at f1 f2;subst hq;simp only[Ho,Da hi,Ap,hx,Aa];rw[Ag hi];simp only[BC]
   grind [AN,ad1])
  (λq hq=>⟨_,by simp only[Ho,CM];rfl,by grind⟩) (s:=([],[])) (by simp)
 rw[h3];simp only[Aa];rw[AN (by grind),Aa,AN<|by grind];rfl
theorem pI {c:List BV} {e:ByteArray} (hp:Cn d q=some (c,e,0)):(c=[]/\q.Kind≠1/\q.Kind≠2/\q.Kind≠3/\q.Kind≠4/\q.Kind≠5)\/
  ∃x,c=[x]/\((q.Kind=1/\x=BV.mk 4 q.Vol q.Sector x.Chunk)\/(q.Kind=2/\x=BV.mk 5 q.Vol q.Sector 0)\/((q.Kind=3\/q.Kind=4)/\x=BV.mk 2 q.Vol q.Of 0)\/(q.Kind=5/\x=BV.mk 3 q.Vol 0 0)):=by
 have no:∀{a:List BV} {b:ByteArray} {n:Int} {P:Prop},some (a,b,n)=some (c,e,0)->n≠0->P:=λh hn=>by grind
 have yes:∀{x:BV} {b:ByteArray},some ([x],b,(0:Int))=some (c,e,0)->c=[x]:=λh=>by grind
 obtain⟨v1,_,hp⟩:=Af.1 hp
 cases v1 with
 |false=>grind
 |true=>
  obtain⟨v2,_,hp⟩:=Af.1 hp;obtain⟨j1,e1,hp⟩:=Af.1 hp
  cases j1 with
  |true=>
   have h34:q.Kind=3\/q.Kind=4:=by grind
   cases h2:decide (v2>=0)<;>rw[h2]at hp
   ·obtain⟨j2,_,hp⟩:=Af.1 hp
    grind
   grind
  |false=>
   have h34:q.Kind≠3/\q.Kind≠4:=by grind
   cases h2:decide (v2>=0)<;>rw[h2]at hp
   ·grind
   cases h3:(q.Kind==1)<;>rw[h3]at hp
   ·grind
   obtain⟨v4,_,hp⟩:=Af.1 hp
   grind [Af]
theorem uA {l:Vs} {nx:Int} {p:Vs×Int} (h:Cd l nx x=some p):(x.Kind=1\/(x.Kind=2/\¬(0<x.Arg/\Dw l x.Arg=none)/\Dw l x.Vol=none/\p=(WL l x.Vol (if 0<x.Arg then(Dw l x.Arg).getD IG else IG),nx))\/
  (Dw l x.Vol≠none/\((x.Kind=3/\p=(kV l x.Vol,nx))\/(x.Kind≠3/\x.Kind≠2/\p=(WJ l x.Vol x.Arg.toNat x.Chunk,max nx (x.Chunk+1)))))):=by
 unfold Cd at h;split at h
 ·cases h
 split at h
 ·exact .inl ‹_›
 split at h
 ·grind
 grind
theorem uE {p':Int×List Int} (h:BU s) (hi:(A5 s)[i]?=some p) (hk:(A5 s)[k]?=some p') (e:p.1=p'.1):i=k:=by
 have ha:=h.asc
 grind [Cy,A5]
theorem vX (hp:p∈A5 s):p.2.length=16:=by
 obtain⟨v,_,rfl⟩:=A0.1 hp;simp[DF]
theorem AAx {j:Nat} {c:Int} {T:ByteArray} (h:EE d r) {a:List Int} (hk:(A5 d.Store)[k]?=some (vol,a)) (hj:j<16) (hT:MW r' c=T) (hs:∀p∈A5 d.Store,∀i:Nat,MW r' (p.2[i]?.getD 0)=MW r (p.2[i]?.getD 0)):
  (Jf r (A5 d.Store)).set k (Shelf.mk vol ((EI r (vol,a)).Texts.set j T))=Jf r' (WJ (A5 d.Store) vol j c):=by
 apply Bo;intro i;unfold Jf WJ;rw[Nb,Dh,Dh,Dh,Bm];by_cases e:k=i
 ·subst e;have b:=(Ae.1 hk).1;have f:=vX<|An hk;rw[Bv rfl,Bv b,hk];simp only[ID,Co,EI];congr 2;apply Bo
  grind
 rw[AT e]
 cases hV:(A5 d.Store)[i]? with
 |none=>rfl
 |some p=>
  have g:p.1≠vol:=λe2=>e<|uE h.st hk hV<|by simpa using e2.symm
  grind [EI]
theorem rD (r:List Ak) (V:Vs) (vol:Int) (a:List Int):Jf r (WL V vol a)=ZT (Jf r V) (EI r (vol,a)):=by
 unfold Jf WL ZT;simp only[GJ,List.filter_map,C8,List.map_nil];rfl
theorem rE (r:List Ak) (V:Vs) (vol:Int):Jf r (kV V vol)=(Jf r V).filter λx=>x.Vol !=vol:=by
 unfold Jf kV;rw[List.filter_map];rfl
theorem zD (h:EE d r) {a:List Int} (hk:(A5 d.Store)[k]?=some (vol,a)):(Jf r (A5 d.Store)).take k++(Jf r (A5 d.Store)).drop (k+1)=Jf r (kV (A5 d.Store) vol):=by
 have ha:((Jf r<|A5 d.Store).map Shelf.Vol).Pairwise (·<·):=by
  have:=h.st.asc;unfold Jf A5;simp only[GN];exact this
 have hx:(Jf r<|A5 d.Store)[k]?=some (EI r (vol,a)):=by unfold Jf;grind
 rw[rE,NH ha hx];rfl
theorem rY (l:List α) (hk:k<=l.length):dr l 0 (k:Int)=some (l.take k):=by
 unfold dr
 grind
theorem ADB (l:List α) (hk:k<=l.length):dr l (k:Int) (ln l)=some (l.drop k):=by grind [AY,AF,dr]
theorem uI {d':Device} {steps:List A8} (h:G5 d r) (hs:Sf d r q d' steps t 0 r') (m:EA q=some true):Kn (Jf r (A5 d.Store)) q=some (Jf r' (A5 d'.Store))/\IW (Jf r (A5 d.Store)) q=some (Jf r' (A5 d'.Store)):=by
 have a:ABI q:=by
  obtain⟨v,a1,a2⟩:=NX q
  grind
 have f:=tL h.dev;have a6:=h.dev.st.len;have hM:(Jf r<|A5 d.Store).length=d.Store.Vols.length:=by unfold Jf A5;simp
 obtain⟨c1,c2⟩:=zI f;obtain⟨h9,l,n,e1,e2,_,e4⟩:=hs.done
 obtain rfl:n=0:=Classical.byContradiction λhn=>hn (e2 hn).symm
 have keep:∀V',(∀c,Cv V' c->Cv (A5 d.Store) c)->Jf r' V'=Jf r V':=λV' hv=>cQ λc hc=>hs.tk c<|hv c hc
 have same:∀p∈A5 d.Store,∀i:Nat,MW r' (p.2[i]?.getD 0)=MW r (p.2[i]?.getD 0):=λp hp i=>by
  unfold MW;split
  ·rename_i hc;rw[hs.tk _ ⟨hc,p,hp,?_⟩]
   grind
  rfl
 have hx:∀{k:Nat} {p:Int×List Int},(A5 d.Store)[k]?=some p->(Jf r<|A5 d.Store)[k]?=some (EI r p)/\k<(Jf r<|A5 d.Store).length:=λhk=>by grind [Jf]
 unfold Kn IW;rw[c1,c2,Rt,m];obtain⟨a1,a2⟩:=o5 (r:=r) h.dev q.Vol;rw[a1];by_cases y:q.Kind=6
 ·rw[hs.kept<|.inr y,keep _ λ_ hc=>hc,y]
  grind
 rcases pI e1 with⟨_,n1,n2,n3,n4,n5⟩|⟨x,rfl,h5⟩
 ·have:=a.kind;omega
 obtain⟨p1,p4,ev,tx⟩:x.Kind≠1/\Yf d r q x l/\Cd (A5 d.Store) d.Store.Next x=some (A5 d'.Store,d'.Store.Next)/\(L l≠ []->Bj r' x.Chunk=some q.Text):=by grind
 obtain⟨v1,_⟩:=Ww ev p1;have e:=uA ev
 have set:∀c T,Dw (A5 d.Store) q.Vol≠none->A5 d'.Store=WJ (A5 d.Store) q.Vol q.Sector.toNat c->MW r' c=T->q.Text=T->(q.Kind=1\/q.Kind=2)->Kn (Jf r<|A5 d.Store) q=some (Jf r'<|A5 d'.Store)/\IW (Jf r<|A5 d.Store) q=some (Jf r'<|A5 d'.Store):=λc T hg hV hT h6 hk=>by
  rcases a2 with⟨_,a2⟩|⟨k,b,a2,a3,_⟩
  ·exact absurd a2 hg
  obtain⟨g,z⟩:=hx a3;obtain⟨j,hj⟩:∃j:Nat,q.Sector=(j:Int):=⟨_,(AA a.sec.1).symm⟩;have h2:j<16:=by have:=a.sec;omega
  have a0:(EI r (q.Vol,b)).Texts.length=16:=by simp[EI]
  have a7:gi (EI r (q.Vol,b)).Texts (j:Int)=some ((EI r (q.Vol,b)).Texts[j]'(by omega)):=by grind [Ap]
  have a5:si (Jf r<|A5 d.Store) (k:Int) (Shelf.mk (EI r (q.Vol,b)).Vol<|si (EI r (q.Vol,b)).Texts (j:Int) q.Text)=Jf r' (A5 d'.Store):=by
   rw[Dk,Dk,h6,hV,hj,B8];exact AAx h.dev a3 h2 hT same
  have b3:(q.Kind==3)=false:=by grind
  have b4:(q.Kind==4)=false:=by grind
  have b5:(q.Kind==5)=false:=by grind
  have b12:(cond (q.Kind==1) (some<|q.Kind==1) (some<|q.Kind==2):Option Bool)=some true:=by grind
  unfold Kn IW;rw[c1,c2,Rt,m,a1,a2,b3,b4,b5,b12,hj];simp only[Aa,Aj,Ad,Al];rw[cT,Ap,g]
  grind [AY]
 unfold Kn IW at set;rw[c1,c2,Rt,m]at set;rw[a1]at set
 rcases h5 with⟨hk,o⟩|⟨hk,rfl⟩|⟨hk,rfl⟩|⟨hk,rfl⟩
 ·
  have k4:x.Kind=4:=by rw[o]
  have kv:x.Vol=q.Vol:=by rw[o]
  have ka:x.Arg=q.Sector:=by rw[o]
  rcases e with hh|⟨hh,_⟩|⟨hg,⟨hh,_⟩|⟨_,_,hh⟩⟩
  ·omega
  ·omega
  ·omega
  rw[kv]at hg hh;rw[ka]at hh;have hT:MW r' x.Chunk=q.Text:=by
   rcases p4.2.2.2 with⟨q1,q2⟩|⟨_,q2,q3,_⟩
   ·obtain⟨q2,q3⟩:=q2 k4;unfold MW;rw[Bv q2.1,hs.tk _ q2,q3];rfl
   have:=h.dev.st.nx
   grind [MW]
  grind
 ·rcases e with hh|⟨hh,_⟩|⟨hg,⟨hh,_⟩|⟨_,_,hh⟩⟩
  ·simp at hh
  ·simp at hh
  ·simp at hh
  exact set 0 (bs []) hg (BM Prod.fst hh) (by simp[MW]) (Jb<|by rw[a.tx (by omega),CB])<|.inr hk
 ·
  rcases e with hh|⟨_,hf,hg,hh⟩|⟨_,⟨hh,_⟩|⟨_,hh,_⟩⟩
  ·simp at hh
  ·have hV:A5 d'.Store=WL (A5 d.Store) q.Vol (if 0<q.Of then(Dw (A5 d.Store) q.Of).getD IG else IG):=BM Prod.fst hh
   rcases a2 with⟨a2,_⟩|⟨k,b,a2,a3,a4⟩
   ·have h3:∀x∈Jf r (A5 d.Store),x.Vol≠q.Vol:=λx u=>by
     obtain⟨p,hp,rfl⟩:=A0.1 u;obtain⟨v,hv,rfl⟩:=A0.1 hp;exact GG.2 hg v hv
    rw[a2]
    rcases hk with hk|hk
    ·have h0:=a.no (by omega);rw[h0,AT<|by omega]at hV;have h7:mk 16 (bs []) 16=some (List.replicate 16<|bs []):=by rfl
     have h8:Shelf.mk q.Vol (List.replicate 16<|bs [])=EI r (q.Vol,IG):=by rfl
     obtain⟨s1,s2⟩:=ADF f (by omega) (s:=Shelf.mk q.Vol<|List.replicate 16<|bs []) (by simp) h3;rw[show(q.Kind==3)=true by simpa using hk,h7];simp only[Al,Aa]
     rw[cT,s1,s2,keep _ (λc hc=>by
      rcases v1 c hc with hh2|hh2
      ·exact hh2
      have:=hc.1
      grind),hV,rD,h8]
     exact⟨rfl,rfl⟩
    have h1:=a.cl hk;rw[Bv<|by omega]at hV;obtain⟨_,b2⟩:=o5 (r:=r) h.dev q.Of;obtain⟨b1,_⟩:=o5 (r:=r) h.dev q.Of
    rcases b2 with⟨_,b2⟩|⟨k,b,b2,b3,b4⟩
    ·grind
    obtain⟨g,z⟩:=hx b3;obtain⟨s1,s2⟩:=ADF f (by omega) (s:=Shelf.mk q.Vol (EI r (q.Of,b)).Texts) (by simp[EI]) h3;rw[show(q.Kind==3)=false by grind,show(q.Kind==4)=true by simpa using hk,b1,b2];simp only[Al,Ad,Aa];rw[cT,Ac (by omega:((k:Nat):Int)>=0)];rw[Ap,g];simp only[Aa];rw[AN (by simp[EI]),Av];simp only[Aa]
    rw[s1,s2,keep _ (λc hc=>by
     rcases v1 c hc with hh2|hh2
     ·exact hh2
     have:=hc.1
     grind),hV,b4,rD]
    exact⟨rfl,rfl⟩
   grind
  ·simp at hh
  simp at hh
 
 rcases e with hh|⟨hh,_⟩|⟨hg,⟨_,hh⟩|⟨hh,_⟩⟩
 ·simp at hh
 ·simp at hh
 ·have hV:A5 d'.Store=kV (A5 d.Store) q.Vol:=BM Prod.fst hh
  rcases a2 with⟨_,a2⟩|⟨k,b,a2,a3,_⟩
  ·exact absurd a2 hg
  obtain⟨g,z⟩:=hx a3;have w:=zD (r:=r) h.dev a3;have a8:((Jf r<|A5 d.Store).take k).length+((Jf r<|A5 d.Store).drop<|k+1).length<=3:=by grind
  have h4:SE (Jf r<|kV (A5 d.Store) q.Vol):=by
   rw[rE];exact⟨by grind,λx u=>f.2 x (AI.1 u).1⟩
  rw[a2,show(q.Kind==3)=false by grind,show(q.Kind==4)=false by grind,show(q.Kind==5)=true by simpa using hk];simp only[Al,Ad,Aa];rw[cT,rY _ (by omega),ad1,ADB _<|by omega];simp only[Aa]
  rw[AN (by grind),Av,Aa,AN (by omega),w,Aa,(zI h4).1,keep _ (λc hc=>by
   rcases v1 c hc with hh2|hh2
   ·exact hh2
   have:=hc.1
   grind),hV]
  refine⟨rfl,?_⟩
  grind [AN]
 simp at hh
theorem ACG {code:List Int} (h:code.length<=1048576):aY code=some false:=by grind [AY,aY]
theorem g6 {s:A8} (h:AM f) (hs:O9 f s):RI f s=NV f s:=by
 obtain⟨x,x1⟩:∃x,gi f.Blocks s.Block=some x:=by rcases hs with⟨_,x,x1,_⟩|⟨_,x,x1,_⟩<;>exact⟨x,x1⟩
 obtain⟨g,v,d1,d2,_⟩:=Si f s h.cap;unfold RI NV;rw[Fp,BZ f h.cap,d1,d2];simp only[Aa]
 cases v with
 |false=>rfl
 |true=>
  rw[x1];simp only[Aa]
  cases hk:(s.Kind==1)with
  |true=>rfl
  |false=>
   obtain⟨b0,b1⟩:=BK x1;obtain⟨c,hc⟩:∃c:Nat,s.Block=(c:Int):=⟨_,(AA b0).symm⟩;have h4:=(h.blk x<|An b1).four;rw[hc,B8]at b1;obtain⟨b,l1,l2,_⟩:=Gw (body:=λq:Int×List Block=>Fd s q.1 q.2) (body':=λq:Int×List Block=>JE s x q.1 q.2) (λ(bl:List Block) i=>(i,bl)) x.Leaves.length (λ_ bl=>∃z,bl[c]?=some z/\z.Leaves.length=x.Leaves.length) (λ_=>True)
    (λbl i hi hz=>by
     obtain⟨z,z1,z2⟩:=hz;have a:i<z.Leaves.length:=by omega
     have d:=Ab a;have e:=(Ae.1 z1).1;simp only[Fd,JE,hc,Ap,z1,Aa,Da hi,Da a,d]
     grind [ad1,si])
    (λbl hz=>by
     obtain⟨z,z1,z2⟩:=hz;simp only[Fd,JE,hc,Ap,z1,Aa];rw[<-z2];simp only[CM];rw[z2]
     simp[CM]) (s:=f.Blocks) ⟨x,b1,rfl⟩
   rw[l1,l2]
theorem aU (hf:AM f) (hk:k<=ss.length) (hl:ss.length<=1000000) (h:∃m,Steps f ss m) (torn:Bool):P5 f ss (k:Int) torn=I6 f ss (k:Int) torn:=by
 obtain⟨z,hz⟩:=h;rw[<-Bs k ss]at hz;obtain⟨m,h1,h2⟩:=(HO _ _ _ _).1 hz;have hm:=Sd hf h1;have a:(ss.take k).length=k:=by grind
 obtain⟨g,n,e1,e2,_⟩:=Z8 f (ss.take k) hf.cap (by omega);rw[Lc hf h1<|by omega]at e1
 injection e1 with e1
 obtain⟨rfl,rfl⟩:m=g/\((ss.take k).length:Int)=n:=by grind
 unfold P5 I6;rw[AY,CU,V3,Fp,BZ f hf.cap,Ac (by omega:0<=(k:Int)/\(k:Int)<=(ss.length:Int)),rY _ hk];simp only[Aa,Aj,Ad];rw[e2,Lc hf h1 (by omega),a];simp only[Aa];rw[Ah (by omega:¬(k:Int)<(k:Int))]
 cases torn with
 |false=>rfl
 |true=>
  by_cases e:k=ss.length
  ·grind
  have hx:=Ab (show k<ss.length by omega);rw[A6<|show k<ss.length by omega]at h2;rw[show((k:Int)==(ss.length:Int))=false by simp;omega,Ap,hx];simp only[Ad,Aa];rw[show Flash.mk m.Blocks=m from rfl,g6 hm h2.1]
theorem pO {m:Flash} (hf:AM f) (hk:k<=ss.length) (hl:ss.length<=1000000) (h:Steps f (ss.take k) m):I6 f ss (k:Int) false=some (m,true):=by
 have a:(ss.take k).length=k:=by grind
 unfold I6;rw[AY,CU,Ac (by omega:0<=(k:Int)/\(k:Int)<=(ss.length:Int)),rY _ hk];simp only[Aa,Aj,Ad];rw[Lc hf h (by omega),a];simp
theorem uJ {e:Ek} (h:G9 e=some true):EA e.Ask=some true/\0<=e.Whole:=by
 obtain⟨v,v1,h⟩:=Af.1 h
 grind
theorem pL (e:Ek):RO e=G9 e:=by
 unfold RO G9;rw[Rt]
structure gZ (w:World) (r:List Ak) (n:Nat):Prop where
 good:G5 w.Device r
 wear:DI w.Device.Flash (21*n)
 nx:w.Device.Store.Next<=1+n
 ids:∀p∈A5 w.Device.Store,1<=p.1/\p.1<=9
 model:w.Model=Jf r (A5 w.Device.Store)
 codes:w.Codes.length=n
 told:w.Told.length=n
 steps:w.Steps.length<=4010*n
theorem ADP {w:World} {e:Ek} (h:gZ w r n) (hn:n<=40) (he:G9 e=some true):∃w' r',qG w e=some w'/\Df w e=some w'/\gZ w' r' (n+1)/\AAf w.Device w'.Device e.Ask.Vol/\(e.Torn=false->∃ss,w'.Steps=w.Steps++ss/\Steps w.Device.Flash ss w'.Device.Flash):=by
 obtain⟨o,h4⟩:=uJ he;have hg:=h.good
 have hw:DI w.Device.Flash 999999000:=λx hx=>by have:=h.wear x hx;omega
 have h5:=h.nx;have h2:1<=e.Ask.Vol/\e.Ask.Vol<=9:=by
  obtain⟨v,a1,a2⟩:=NX e.Ask;rw[o]at a1
  injection a1 with a1
  exact(a2 a1.symm).vol
 have idk:∀d':Device,AAf w.Device d' e.Ask.Vol->∀p∈A5 d'.Store,1<=p.1/\p.1<=9:=λd' hi p hp=>by
  rcases hi p hp with⟨p',q1,q2⟩|q1
  ·rw[<-q2];exact h.ids p' q1
  omega
 obtain⟨d',steps,t,no,r',s1,s2⟩:=sC hg hw (by omega) e.Ask;have h3:=s2.len;have i:=h.codes;have j:=h.told;have h6:=h.steps;unfold qG Df;rw[Tk hg hw,s1];simp only[Aa];have q:Device.mk (Flash.mk d'.Flash.Blocks) (Store.mk d'.Store.Vols (Arena.mk d'.Store.Arena.Knots) d'.Store.Next) d'.Seq d'.Tx d'.Base=d':=rfl;by_cases hc:e.Cut=true/\0<steps.length
 ·obtain⟨s,h7⟩:=hc;rw[s,AY];rw[show((steps.length:Int)==0)=false by grind,Ac (by omega:(steps.length:Int)>0)];obtain⟨k,hk,a,u⟩:∃k:Nat,(if(steps.length:Int)<e.Whole then(steps.length:Int)else e.Whole)=(k:Int)/\k<=steps.length/\Vi e.Whole (steps.length:Int)=some (k:Int):=by
   unfold Vi;by_cases h8:(steps.length:Int)<e.Whole
   ·grind
   exact⟨e.Whole.toNat,by omega,by omega,by grind⟩
  obtain⟨g,c1,c2,c3⟩:=pN hg.dev.fl a (by omega) ⟨_,s2.walk⟩ e.Torn;obtain⟨x,rx,x1,x2,x3,x4,x5,x6⟩:=s2.cut k g a c3;have c:AAf w.Device x e.Ask.Vol:=by
   rcases x6 with⟨x6,_⟩|⟨x6,_⟩
   ·exact j6 x6 _
   intro p hp;rw[x6]at hp;exact s2.ids p hp
  have f:e.Torn=false->Steps w.Device.Flash (steps.take k) x.Flash:=λht=>by
   have hz:=s2.walk;rw[<-Bs k steps]at hz;obtain⟨m,h1,_⟩:=(HO _ _ _ _).1 hz;have:=pO hg.dev.fl a (by omega) h1
   grind
  rw[hk,u];simp only[Aa];rw[aU hg.dev.fl a (by omega) ⟨_,s2.walk⟩ e.Torn,c1];simp only[Aa];rw[show Flash.mk g.Blocks=g from rfl,KP c2,x1,rY _ a];simp only[Aa];rw[(rB x3).1,(rB x3).2];have h9:(steps.take k).length<=4010:=by grind
  rw[AN (l:=[]) (m:=w.Codes) (by simp;omega),AN (l:=[]) (m:=w.Told) (by simp;omega),AN (l:=[]) (m:=w.Steps) (by simp;omega)];simp only[Aa,Av];rw[AN (l:=w.Codes) (by simp;omega),Aa,AN (l:=w.Told) (by simp;omega),Aa,AN (l:=w.Steps)<|by omega];exact⟨_,rx,rfl,rfl,⟨x3,λb hb=>by have:=x5 _ h.wear b hb;omega,by grind,idk x c,rfl,by simp[i],by simp[j],by grind⟩,c,λht=>⟨_,rfl,f ht⟩⟩
 have y:(cond e.Cut (some<|decide<|(ln steps)>0) (some false):Option Bool)=some false:=by grind [AY,Ah]
 have z:(cond (!e.Cut) (some true) (some<|(ln steps)==0):Option Bool)=some true:=by grind [AY]
 rw[y,z];simp only[Aa,Ad,Al];have d:(cond (no==0) ((Kn w.Model e.Ask).bind λv10=>some v10) (some w.Model):Option (List Shelf))=some (Jf r'<|A5 d'.Store)/\(cond (no==0) ((IW w.Model e.Ask).bind λv10=>some v10) (some w.Model):Option (List Shelf))=some (Jf r'<|A5 d'.Store):=by
  rw[h.model];by_cases h0:no=0
  ·grind [uI]
  rw[show(no==0)=false by simpa using h0,s2.kept<|.inl h0,cQ s2.tk];exact⟨rfl,rfl⟩
 rw[d.1,d.2];rw[AN (l:=[]) (m:=w.Codes) (by simp;omega),AN (l:=[]) (m:=w.Told) (by simp;omega),AN (l:=[]) (m:=w.Steps) (by simp;omega)];simp only[Aa,Av];rw[AN (l:=w.Codes) (by simp;omega),Aa,AN (l:=w.Told) (by simp;omega),Aa,AN (l:=w.Steps)<|by omega];rw[q];exact⟨_,r',rfl,rfl,⟨s2.good,λb hb=>by have:=s2.wear _ h.wear b hb;omega,by have:=s2.nx;grind,idk d' s2.ids,rfl,by simp[i],by simp[j],by grind⟩,s2.ids,λ_=>⟨_,rfl,s2.walk⟩⟩
theorem mH (h:3<=n/\n<=10):N2 (n:Int)=Nr (n:Int):=by grind [kR,TR,KP,lG,N2,Nr]
theorem ACI (h:G5 d []) (hv:A5 d.Store=[]) (hn:d.Store.Next=1) (hf:d.Flash=Flash.mk (List.replicate n (Block.mk false 0 Ky))):gZ (World.mk d [] [] [] []) [] 0:=by
 refine⟨h,λb hb=>?_,by grind,λp hp=>?_,?_,rfl,rfl,by simp⟩
 ·grind
 ·grind
 rw[hv];rfl
def Ka (b:Block):Nat:=if b.Bad=true then 0 else 4-Gv b.Leaves
def E0 (f:Flash):Nat:=(f.Blocks.map Ka).sum
def UG (l:List Leaf):Nat:=(l.filter λx=>x.Is==0).length
theorem dM:∀{l:List Leaf},bC l->UG l=l.length-Gv l
 |[],_=>rfl
 |x::l,h=>by
  have ht:bC l:=λk a b ha hb=>h (k+1) a b (by simpa using ha)<|by simpa using hb
  have ih:=dM ht;have d:=fD l;by_cases e:x.Is=0
  ·have c:∀(k:Nat) y,(x::l)[k]?=some y->y.Is=0:=by
    intro k
    induction k with
    |zero=>intro y hy;simp at hy;rw[<-hy];exact e
    |succ k ihk=>
     intro y hy;have hk:k<(x::l).length:=by have:=(Ae.1 hy).1;omega
     exact h k _ y (Ab hk) hy<|ihk _<|Ab hk
   have h1:Gv (x::l)=0:=by unfold Gv;rw[List.takeWhile_cons_of_neg<|by simp[e]];rfl
   have h2:UG (x::l)=(x::l).length:=by
    unfold UG;rw[F8.2 λy hy=>?_];obtain⟨k,hk⟩:=List.getElem?_of_mem hy;simpa using c k y hk
   rw[h1,h2];omega
  have h1:Gv (x::l)=Gv l+1:=by unfold Gv;rw[List.takeWhile_cons_of_pos<|by simp[e]];rfl
  have h2:UG (x::l)=UG l:=by unfold UG;rw[HQ<|by simp[e]]
  rw[h1,h2,ih,AD];omega
theorem sZ {b:Block} (h:IF b):Ka b=if b.Bad=true then 0 else UG b.Leaves:=by unfold Ka;rw[dM h.turn,h.four]
theorem wA (b:Block):Ka b<=4:=by unfold Ka;split<;>omega
theorem AAz (l:List Block):(l.map Ka).sum<=4*l.length:=by
 induction l with
 |nil=>simp
 |cons b l ih=>have:=wA b;rw[C8,GT,AD];omega
theorem lQ (h:AM f):Jy f=some ((E0 f:Nat):Int):=by
 have hn:=h.n;unfold Jy;obtain⟨b,h1,h2⟩:=A4 (body:=λs:Int×Int=>Hi f s.1 s.2) (λ(o:Int) i=>(o,i)) f.Blocks.length (λi o=>o=(((f.Blocks.take i).map Ka).sum:Nat)) (λb=>b=((E0 f:Nat):Int))
  (λo i hi ho=>by
   have hx:=Ab hi;have hP:=h.blk _<|Aq hi;have h4:=hP.four;have et:f.Blocks.take (i+1)=f.Blocks.take i++ [f.Blocks[i]]:=Ag hi;have a:=AAz<|f.Blocks.take i;rw[Eu]at a;simp only[Hi,Da hi];obtain⟨c,q1,q2⟩:=A4 (body:=λs:Int×Int=>Hh f (i:Int) s.1 s.2) (λ(o:Int) k=>(o,k)) f.Blocks[i].Leaves.length (λk z=>z=o+((if f.Blocks[i].Bad=true then 0 else UG (f.Blocks[i].Leaves.take k):Nat):Int)) (λz=>z=o+((Ka f.Blocks[i]:Nat):Int))
    (λz k hk hz=>by
     have hy:=Ab hk;have ek:f.Blocks[i].Leaves.take (k+1)=f.Blocks[i].Leaves.take k++ [f.Blocks[i].Leaves[k]]:=Ag hk;have g:UG (f.Blocks[i].Leaves.take k)<=k:=by unfold UG;have:=B7 (λx:Leaf=>x.Is==0)<|f.Blocks[i].Leaves.take k;rw[Eu]at this;omega
     have d:UG (f.Blocks[i].Leaves.take<|k+1)=UG (f.Blocks[i].Leaves.take k)+(if f.Blocks[i].Leaves[k].Is=0 then 1 else 0):=by
      rw[ek];unfold UG;rw[BC,A3];congr 1;by_cases e:f.Blocks[i].Leaves[k].Is=0
      ·rw[Bv e,HP<|by simp[e]];rfl
      rw[AT e,HQ<|by simp[e]];rfl
     simp only[Hh,Ap,hx,Aa,Da hk,hy];rw[ad1];refine .inl ?_
     cases hb:f.Blocks[i].Bad with
     |true=>
      rw[hb,Bv rfl]at hz;exact⟨z,rfl,by rw[Bv rfl];exact hz⟩
     |false=>
      rw[hb,AT<|by simp]at hz;simp only[BQ,Al];rw[AT (by simp),d];by_cases e:f.Blocks[i].Leaves[k].Is=0
      ·rw[show(f.Blocks[i].Leaves[k].Is==0)=true by simp[e],Al,BW,Bv e];exact⟨_,rfl,by omega⟩
      rw[show(f.Blocks[i].Leaves[k].Is==0)=false by simp[e],Ad,AT e]
      exact⟨_,rfl,by omega⟩)
    (λz hz=>⟨z,by simp only[Hh,Ap,hx,Aa,CM],by rw[hz,Et,sZ hP]⟩) (s:=o) (by
     simp[UG])
   rw[q1,q2,Aa,ad1];refine .inl ⟨_,rfl,?_⟩;rw[et,GJ,List.sum_append,ho]
   simp)
  (λo ho=>⟨o,by simp only[Hi,CM],by rw[ho,Et];rfl⟩) (s:=0) rfl
 rw[h1,h2];rfl
theorem qA:∀(l:List Block) (c:Nat) (x y:Block),l[c]?=some x->((l.set c y).map Ka).sum+Ka x=(l.map Ka).sum+Ka y
 |[],c,x,y,h=>by simp at h
 |b::l,0,x,y,h=>by
  simp only[Mr,Ar]at h;rw[Sn,C8,GT,C8,GT,h];omega
 |b::l,c+1,x,y,h=>by
  have:=qA l c x y (by simpa using h);rw[List.set_cons_succ,C8,GT,C8,GT];omega
theorem bZ {b l:Int} (h:AM f) (hm:ZS f b l t):E0 (Qg f b l (Leaf.mk 1 t))+1=E0 f:=by
 obtain⟨x,x1,x2,rfl,x4,_⟩:=hm;obtain⟨k1,k2⟩:=BK x1;obtain⟨c,rfl⟩:∃c:Nat,b=(c:Int):=⟨_,(AA k1).symm⟩;rw[B8]at k2;have hP:=h.blk x<|An k2;unfold Qg E0;rw[x1];simp only[Dk];have hs:=qA f.Blocks c x (Block.mk x.Bad x.Wear<|x.Leaves.set (Gv x.Leaves)<|Leaf.mk 1 t) k2;have j:Ka x=4-Gv x.Leaves:=by unfold Ka;rw[x2];rfl
 have n:Ka (Block.mk x.Bad x.Wear<|x.Leaves.set (Gv x.Leaves)<|Leaf.mk 1 t)=4-(Gv x.Leaves+1):=by
  unfold Ka;simp only[x2];rw[AT<|by simp];congr 1;have d:Gv x.Leaves<x.Leaves.length:=by rw[hP.four];exact x4
  have g:∀(l:List Leaf) (y:Leaf),y.Is≠0->Gv l<l.length->bC l->Gv (l.set (Gv l) y)=Gv l+1:=by
   intro l
   induction l with
   |nil=>intro y _ h;simp at h
   |cons a l ih=>
    intro y hy i ht;by_cases e:a.Is=0
    ·have h0:Gv (a::l)=0:=by unfold Gv;rw[List.takeWhile_cons_of_neg<|by simp[e]];rfl
     rw[h0,Sn];unfold Gv;rw[List.takeWhile_cons_of_pos<|by simpa using hy]
     cases l with
     |nil=>rfl
     |cons z m=>
      have hz:=ht 0 a z rfl rfl e;rw[List.takeWhile_cons_of_neg<|by simp[hz]];rfl
    have h0:Gv (a::l)=Gv l+1:=by unfold Gv;rw[List.takeWhile_cons_of_pos<|by simp[e]];rfl
    rw[h0,List.set_cons_succ];have h1:Gv (a::l.set (Gv l) y)=Gv (l.set (Gv l) y)+1:=by unfold Gv;rw[List.takeWhile_cons_of_pos<|by simp[e]];rfl
    rw[h1,ih y hy (by rw[h0,AD]at i;omega) λk u v hu hv=>ht (k+1) u v (by simpa using hu)<|by simpa using hv]
  exact g x.Leaves (Leaf.mk 1 t) (by simp) d hP.turn
 omega
theorem u9 {l:List Block} (h:∀b∈l,b.Bad=false->Gv b.Leaves=4):(l.map Ka).sum=0:=by
 induction l with
 |nil=>rfl
 |cons b l ih=>
  rw[C8,GT,ih λx hx=>h x<|by simp[hx]];unfold Ka;split
  ·rfl
  rename_i e;rw[h b (by simp)<|by simpa using e]
theorem jG {g:Flash} {ps:List Page} {p:Page} (hg:AM g) (h:Fu f ss ps g) (hs:ss.length<=1000) (hp:FX p) (hr:0<E0 g):∃s g',CA g ss p=some (g',ss++ [s],true)/\Fu f (ss++ [s]) (ps++ [p]) g'/\AM g'/\E0 g'+1=E0 g:=by
 obtain⟨t,t1,t2,t3,t4⟩:=cG hp;obtain⟨b,l,room,p1,p2,p3⟩:=Wa hg
 cases room with
 |false=>
  have:=u9<|p3 rfl;unfold E0 at hr;omega
 |true=>
  obtain⟨x,a1,a2,a3,a4⟩:=p2 rfl;have hm:ZS g b l t:=⟨x,a1,a2,a3,a4,t2,t3⟩
  rcases SF hg ss (by omega) p t1 (λ_=>⟨t2,t3⟩)with⟨_,b',l',q1,q3,q2⟩|q
  ·rw[p1]at q3
   injection q3 with q3
   obtain⟨rfl,rfl⟩:b=b'/\l=l':=by injection q3 with e1 e2;injection e2 with e2 _;exact⟨e1,e2⟩
   exact⟨_,_,q2,Tn h hm t4,(Kp hg hm).1,bZ hg hm⟩
  exfalso;unfold CA at q;rw[t1,p1]at q;simp only[Aa,Aj,Ad]at q;have hd:=M4 hg<|A8.mk 1 b l t
  rcases hd with⟨_,e⟩|⟨e,_⟩
  ·rw[e]at q;simp only[Aa]at q;rw[AN (by simp;omega)]at q;simp at q
  exact e<|.inl ⟨rfl,hm⟩
theorem tK {ss0:List A8} (ps:List Page) (e:ps.length<=9) (c:∀p∈ps,FX p) {a:List Page} {g0:Flash} (h:Fu f ss0 a g0) (hg:AM g0) (h1:ss0.length<=1) (hr:ps.length<=E0 g0):∃ss,Ai (λs:List A8×Bool×Int×List Block=>Bg (ps,true) s.1 s.2.1 s.2.2.1 s.2.2.2) (ss0,true,0,g0.Blocks)=some (ss,true):=by
 obtain⟨b,q1,ss,q2⟩:=A4 (body:=λs:List A8×Bool×Int×List Block=>Bg (ps,true) s.1 s.2.1 s.2.2.1 s.2.2.2) (λ(o:List A8×Flash) i=>(o.1,true,i,o.2.Blocks)) ps.length
  (λi o=>Fu f o.1 (a++ps.take i) o.2/\AM o.2/\o.1.length<=i+1/\E0 o.2+i=E0 g0) (λb=>∃ss,b=(ss,true))
  (λo i hi hs=>by
   obtain⟨ss,g⟩:=o;obtain⟨k1,k2,k3,k4⟩:=hs;simp only at k1 k2 k3 k4;have hx:=Ab hi;have d:Flash.mk g.Blocks=g:=rfl;obtain⟨s,g',p1,p2,p3,p4⟩:=jG k2 k1 (by omega) (c _<|Aq hi) (by omega);simp only[Bg,GR,Ac hi,Al,Ap,hx,Aa];rw[d,p1,Aa,ad1]
   exact .inl ⟨(ss++ [s],g'),rfl,by rw[Ag hi,<-Bx];exact p2,p3,by simp;omega,by show E0 g'+(i+1)=_;omega⟩)
  (λo _=>⟨_,by simp only[Bg,GR,Nat.lt_irrefl,decide_false,Ad,Aa],o.1,rfl⟩) (s:=(ss0,g0)) ⟨by rw[aP,AJ];exact h,hg,by simpa using h1,by simp⟩
 exact⟨ss,by rw[<-q2];exact q1⟩
theorem nS {T:List ByteArray} {seq tx:Int} (h1:1<=seq) (h2:seq+T.length-1<=1000000000) (h3:1<=tx) (h4:tx<=1000000000) (h9:T.length<=9) (ht:∀t∈T,(L t).length<=90):∀p∈Bz seq tx T,FX p:=by
 intro p hp;unfold Bz at hp;obtain⟨i,hi,rfl⟩:=Aw hp;rw[List.length_mapIdx]at hi;rw[List.getElem_mapIdx];have:=ht _<|Aq hi;unfold FX;simp;omega
theorem mQ (hf:AM d.Flash) (b:List BV) (i:b≠ []) (hr:b.length<=8) (j:∀r∈b,EC r=true) (a:ByteArray) (n:1<=d.Seq/\d.Seq<=999999900) (h:1<=d.Tx/\d.Tx<=1000000000) (k:L a≠ []->(L a).length<=90/\∀c,b[b.length-1]?=some c->1<=c.Chunk/\c.Chunk<=1000000000) (l:b.length+2<=E0 d.Flash):∃steps,Ck d b a=some (steps,true):=by
 have o:0<b.length:=H9.2 i;obtain⟨c,g⟩:∃c,b[b.length-1]?=some c:=⟨_,Ab<|by omega⟩;unfold Ck;rw[show(ln b==0)=false by rw[beq_eq_false_iff_ne,AY];omega];simp only[Ad];have first:∃ss0 g0,(cond (!(seq a<|bs [])) (((gi b<|sb (ln b) 1).bind λx1=>(CA d.Flash []<|Page.mk 1 d.Seq x1.Chunk 0 1 a).bind λv1=>some (v1.2.1,v1.2.2,v1.1.Blocks):Option (List A8×Bool×List Block)).bind λj2=>some (j2.1,ad d.Seq 1,j2.2.1,j2.2.2)) (some ([],d.Seq,true,d.Flash.Blocks)):Option (List A8×Int×Bool×List Block))=some (ss0,EY d a,true,Flash.Blocks g0)/\Fu d.Flash ss0 (BY d c.Chunk a) g0/\AM g0/\ss0.length<=1/\E0 d.Flash<=E0 g0+1:=by
  by_cases ht:L a=[]
  ·have:seq a (bs [])=true:=by rw[Jo,Bc];exact Jb (by rw[ht,CB])
   rw[this];refine⟨[],d.Flash,?_,?_,hf,by simp,by omega⟩
   ·unfold EY;rw[Bv ht];rfl
   unfold BY;rw[Bv ht];rfl
  have:seq a (bs [])=false:=by
   rw[Jo,decide_eq_false_iff_not];intro e;exact ht<|by rw[e,CB]
  obtain⟨hl,hc⟩:=k ht;have hc:=hc c g;rw[this];simp only[BQ,Al];rw[AY,BD,show(b.length:Int)-1=((b.length-1:Nat):Int) by omega,Ap,g,Aa,BW];have e1:EY d a=d.Seq+1:=by unfold EY;rw[AT ht]
  have e2:BY d c.Chunk a=[Page.mk 1 d.Seq c.Chunk 0 1 a]:=by unfold BY;rw[AT ht]
  rw[e1,e2];obtain⟨s,g',q1,q2,q3,q4⟩:=jG (f:=d.Flash) (ss:=[]) (ps:=[]) hf rfl (by simp) (p:=Page.mk 1 d.Seq c.Chunk 0 1 a) (by unfold FX;simp;omega) (by omega);rw[q1];exact⟨_,g',rfl,q2,q3,by simp,by omega⟩
 obtain⟨ss0,g0,e0,h0,h1,h2,h3⟩:=first
 rw[e0];simp only[Aa];have m:1<=EY d a/\EY d a<=999999901:=by unfold EY;split<;>omega
 obtain⟨T,t1,t2,t3,tl,t4⟩:=dT (EY d a) d.Tx b (by omega) j
 rcases t4 with⟨t4,t5,t6,t7,t8,t9⟩|⟨t4,t5⟩
 ·rw[t4];simp only[Aa];have q:(Bz (EY d a) d.Tx T).length=T.length:=by unfold Bz;rw[List.length_mapIdx]
  obtain⟨ss,q1⟩:=tK (Bz (EY d a) d.Tx T) (by omega) (nS t6 t7 t8 t9 t5 t3) h0 h1 h2 (by omega);rw[q1];exact⟨ss,rfl⟩
 exact absurd ⟨by omega,m.1,by omega,h.1,h.2⟩ t5
theorem AAc {s z:ByteArray} (hs:(L s).length<=64) (h:Dz s=some (z,true)):(L z).length<=(L s).length+1:=by
 unfold Dz at h;rw[Ba,cF]at h;obtain⟨v1,_,h⟩:=Af.1 h;obtain⟨v2,_,h⟩:=Af.1 h;rw[BW,Ba]at h;by_cases e:((L s).length:Int)+1<=((L v2).length:Int)
 ·rw[Ac e,Al,E8 _ _ (by rw[CB];simp;omega)]at h;simp only[Aa,Ar,UP,and_true]at h;rw[<-h,EG,CB];simp
 rw[Ah e,Ad]at h;simp only[Ar,UP,and_true]at h;rw[<-h];omega
theorem Zz:∀{f:Flash} {ss:List A8} {ps:List Page} {g:Flash},AM f->Fu f ss ps g->E0 g+ss.length=E0 f
 |f,[],[],g,_,h=>by rw[show g=f from h];rfl
 |f,s::ss,p::ps,g,hf,h=>by
  have e:JZ f s=Qg f s.Block s.Leaf (Leaf.mk 1 s.Text):=by unfold JZ;rw[Bv h.1]
  have h1:=bZ hf h.2.1;have h2:=Zz (by rw[e];exact(Kp hf h.2.1).1) h.2.2.2;rw[e]at h2;rw[AD];omega
 |f,[],q::ps,g,_,h=>h.elim
 |f,s::ss,[],g,_,h=>h.elim
theorem AAk (h:G5 d r) (hs:d.Seq<=999999900) (ht:d.Tx<=1000000000) {a:ByteArray} (hx:Yf d r q x a) (hl:(L a).length<=90) (c:3<=E0 d.Flash):
  ∃steps g,Ck d [x] a=some (steps,true)/\Steps d.Flash steps g/\E0 g+steps.length=E0 d.Flash/\steps.length=(if L a=[]then 1 else 2):=by
 obtain⟨x1,x2,xv,x3⟩:=hx
 have i:∀z∈ [x],EC z=true:=λz hz=>by rw[Bn]at hz;rw[hz];exact x1
 have j:=h.dev.st.nx;have k:1<=d.Seq:=by rw[h.dev.seq];exact(Lx r).2.1
 have l:1<=d.Tx:=by rw[h.dev.tx];exact(X7 r).2.1
 obtain⟨steps',w1⟩:=mQ h.dev.fl [x] (by simp) (by simp) i a ⟨k,hs⟩ ⟨l,ht⟩ (λe=>⟨hl,λb f=>by
  have:b=x:=by simpa using f.symm
  subst this
  rcases x3 with⟨x3,_⟩|⟨_,x4,_⟩
  ·exact absurd x3 e
  rw[x4];exact j⟩)<|by simpa using c
 rcases UN h.dev.fl h.dev.seqs [x] (by simp) (by simp) i a with w|⟨steps,T,g,b,k1,k2,k3,k4,k5,k6,k7,k8,k9,k0⟩
 ·rw[w]at w1;cases w1
 have m:(Bz (EY d a) d.Tx T).length=T.length:=by unfold Bz;rw[List.length_mapIdx]
 obtain⟨s1,s2⟩:=DD k7;have hT:T.length=1:=by
  rw[Cl]at k0;omega
 refine⟨steps,g,k2,s1,Zz h.dev.fl k7,?_⟩;rw[s2,A3,m,hT];unfold BY;split<;>rfl
theorem ABy (h:G5 d r) (hw:DI d.Flash 999999000) (c:d.Store.Next<1000000000) (hs:d.Seq<=999999900) (ht:d.Tx<=1000000000) {a:ByteArray} (hp:Cn d q=some ([x],a,0)) (hk:q.Kind≠6) (hl:(L a).length<=90) (e:12<=E0 d.Flash):
  ∃d' steps r',KE d q=some (d',steps,bs [],0)/\Sf d r q d' steps (bs []) 0 r'/\E0 d'.Flash+steps.length=E0 d.Flash/\steps.length=(if L a=[]then 1 else 2)/\d'.Seq<=d.Seq+10/\d'.Tx<=d.Tx+1:=by
 obtain⟨d',steps,t,no,r',e1,e2⟩:=sC h hw c q;have pl:Yf d r q x a:=by
  obtain⟨j,text',no',p1,p2,_⟩:=Z4 h.dev q;rw[hp]at p1
  grind
 obtain⟨ss,g,w1,w2,w3,w4⟩:=AAk h hs ht pl hl<|by omega
 rcases pS h pl with w|⟨ss',d2,r2,a1,a2,a3,a4,a5,a6,a7,a8,a9,aw,_⟩
 ·rw[w]at w1;cases w1
 rw[w1]at a1;obtain rfl:ss=ss':=by grind
 obtain rfl:g=d2.Flash:=Mq w2 aw;have b:KE d q=some (d2,ss,bs [],0):=by
  unfold KE;rw[IJ h.dev,LR h.dev,hp];simp only[Aa];rw[show(q.Kind==6)=false by simpa using hk,lQ h.dev.fl];simp only[Aa,Ji,Aj,Ad];rw[Ah (by omega:¬((E0 d.Flash:Nat):Int)<12)];simp only[Aa,Ad];have f:Device.mk (Flash.mk d.Flash.Blocks) (Store.mk d.Store.Vols (Arena.mk d.Store.Arena.Knots) d.Store.Next) d.Seq d.Tx d.Base=d:=rfl;have i:Flash.mk d.Flash.Blocks=d.Flash:=rfl;rw[f,i,hp];simp only[Aa];rw[w1,lQ h.dev.fl];simp only[Aa,Aj,Ad];rw[Ah (by omega:¬((E0 d.Flash:Nat):Int)<8)];simp only[Aa,Ad];rw[a3,Aa,AN (by simp;omega)];rfl
 rw[e1]at b
 injection b with b
 obtain⟨rfl,rfl,rfl,rfl⟩:d'=d2/\steps=ss/\t=bs []/\no=0:=by grind
 refine⟨d',steps,r',e1,e2,w3,w4,?_,?_⟩
 ·rw[a4.dev.seq,h.dev.seq];exact a8.2.2
 rw[a4.dev.tx,h.dev.tx];exact a8.2.1
theorem Ox {k s:Int} (hk:3<=k/\k<=6) (hv:1<=v/\v<=9) (hs:0<=s/\s<=15) (h0:k≠6->s=0) (ho:if k=4 then 1<=o/\o<=9 else o=0):EA (Ask.mk k v s o (bs []))=some true:=by
 unfold EA;simp only[CU,Ba,CB];rw[Ac (by omega:(1:Int)<=k/\k<=6),Ac hv,Ac hs,show seq (bs []) (bs [])=true by rw[Jo];simp,show(k !=1)=true by simp;omega];by_cases h4:k=4
 ·subst h4;rw[Bv rfl]at ho;rw[Ac ho,h0<|by omega];rfl
 rw[AT h4]at ho;subst ho;rw[show(k==4)=false by simpa using h4];by_cases h6:k=6
 ·subst h6;rfl
 rw[h0 h6]
 rcases(by omega:k=3\/k=5)with rfl|rfl<;>rfl
theorem r8 {s:Int} (hv:1<=v/\v<=9) (hs:0<=s/\s<=15) (ht:(L t).length<=64):EA (Ask.mk 1 v s 0 t)=some true:=by
 unfold EA;simp only[CU,Ba];rw[Ac hv,Ac hs,Ah (by omega:¬((L t).length:Int)>64)];rfl
theorem jJ {k:Int} (h:EE d r) (hk:k=3\/k=4) (hv:1<=v/\v<=9) (ho:if k=4 then 1<=o/\o<=9 else o=0) (hn:Dw (A5 d.Store) v=none) (hl:(A5 d.Store).length<3) (hg:k=4->Dw (A5 d.Store) o≠none):Cn d (Ask.mk k v 0 o (bs []))=some ([BV.mk 2 v o 0],bs [],0):=by
 have a:=h.st.len;rw[Iq]at hl;obtain⟨w,w1,w2⟩:=VL d.Store (by omega) v;obtain⟨u,u1,u2⟩:=VL d.Store (by omega) o;have:=w2.2 hn;unfold Cn;rw[Ox (by omega) hv (by omega) (λ_=>rfl) ho];simp only[Aa,Aj,Ad];rw[w1];simp only[Aa];rw[Ah (by omega:¬w>=0),AY,Ah (by omega:¬(d.Store.Vols.length:Int)>=3)]
 rcases hk with rfl|rfl
 ·rfl
 have h2:¬u<0:=λhh=>hg rfl<|u2.1 hh
 rw[u1];simp only[Aa];rw[Ah h2];rfl
theorem jI {k s:Int} (h:EE d r) (hk:k=5\/k=6) (hv:1<=v/\v<=9) (hs:0<=s/\s<=15) (h0:k≠6->s=0):Cn d (Ask.mk k v s 0 (bs []))=some (if Dw (A5 d.Store) v=none then([],bs [],1)else if k=5 then([BV.mk 3 v 0 0],bs [],0)else([],bs [],0)):=by
 have a:=h.st.len;obtain⟨w,w1,w2⟩:=VL d.Store (by omega) v;unfold Cn;rw[Ox (by omega) hv hs h0<|by rw[AT<|by omega]];simp only[Aa,Aj,Ad];rw[w1];simp only[Aa];by_cases e:Dw (A5 d.Store) v=none
 ·rw[Bv e,Ah (by have:=w2.2 e;omega:¬w>=0)]
  rcases hk with rfl|rfl<;>rfl
 rw[AT e,Ac (Int.not_lt.1 λhh=>e (w2.1 hh):w>=0)]
 rcases hk with rfl|rfl<;>rfl
theorem nF {s:Int} (h:EE d r) (hv:1<=v/\v<=9) (hs:0<=s/\s<=15) (ht:(L t).length<=64) (hg:Dw (A5 d.Store) v≠none):∃c a,Cn d (Ask.mk 1 v s 0 t)=some ([BV.mk 4 v s c],a,0)/\(L a).length<=90/\
  ((Cv (A5 d.Store) c/\Bj r c=some t/\L a=[])\/(c=d.Store.Next/\L a≠ []/\∀c',Cv (A5 d.Store) c'->Bj r c'≠some t)):=by
 have f:=h.st.len;obtain⟨w,w1,w2⟩:=VL d.Store (by omega) v;obtain⟨live,l1,l2,l3,l4⟩:=Fx h.st;obtain⟨c,f1,f2⟩:=MU h l4 t;unfold Cn;rw[r8 hv hs ht];simp only[Aa,Aj,Ad];rw[w1];simp only[Aa];rw[Ac (Int.not_lt.1 λhh=>hg (w2.1 hh):w>=0),l1,Aa,f1]
 rcases f2 with⟨rfl,f2⟩|⟨f2,f3⟩
 ·obtain⟨z,z1,z2,z3⟩:=Zs t ht;rw[z1];exact⟨d.Store.Next,z,rfl,by have:=AAc ht z1;omega,.inr ⟨rfl,λe=>by rw[e]at z3;simp at z3,λc' hc=>f2 c'<|(l3 c').2 hc⟩⟩
 have b:=(l3 c).1 f2;have hc:(c==0)=false:=by have:=(Uq h.st b).1;simp;omega
 simp only[Aa];rw[hc];exact⟨c,bs [],rfl,by rw[CB];simp,.inl ⟨b,f3,CB _⟩⟩
theorem ABz (h:G5 d r) (hw:DI d.Flash 999999000) (e:d.Store.Next<1000000000) (hs:d.Seq<=999999900) (ht:d.Tx<=1000000000) {a:ByteArray} (hp:Cn d q=some ([x],a,0)) (hk:q.Kind≠6) (hl:(L a).length<=90) (b:12<=E0 d.Flash):
  ∃d' steps r',KE d q=some (d',steps,bs [],0)/\Pr d q=some (d',steps,bs [],0)/\Sf d r q d' steps (bs []) 0 r'/\Cd (A5 d.Store) d.Store.Next x=some (A5 d'.Store,d'.Store.Next)/\(L a≠ []->Bj r' x.Chunk=some q.Text)/\
   E0 d'.Flash+steps.length=E0 d.Flash/\steps.length=(if L a=[]then 1 else 2)/\d'.Seq<=d.Seq+10/\d'.Tx<=d.Tx+1:=by
 obtain⟨d',steps,r',e1,e2,e3,e4,e5,e6⟩:=ABy h hw e hs ht hp hk hl b;obtain⟨c,text',n,p1,p2,p3,p4⟩:=e2.done;rw[hp]at p1
 injection p1 with p1
 obtain⟨rfl,rfl,rfl⟩:c=[x]/\text'=a/\n=0:=by grind
 rcases p4 rfl hk with⟨p4,_⟩|⟨y,y1,y2,y3,y4⟩
 ·cases p4
 injection y1 with y1 _
 subst y1;exact⟨d',steps,r',e1,by rw[Tk h hw];exact e1,e2,y3,y4,e3,e4,e5,e6⟩
theorem sS {body:Int->Option (Int⊕Unit⊕Bool)} (h1:∀i:Nat,i<n->body (i:Int)=some (.inl ((i+1:Nat):Int))) (h2:body (n:Int)=some (.inr (.inl ()))):Ai body 0=some (.inl ()):=by
 obtain⟨b,l1,rfl⟩:=A4 (body:=body) (λ(_:Unit) i=>i) n (λ_ _=>True) (λb=>b= .inl ()) (λ_ i hi _=> .inl ⟨(),h1 i hi,trivial⟩) (λ_ _=>⟨_,h2,rfl⟩) (s:=()) trivial;exact l1
theorem ZF (l:List Int) (h:l.length<=1048576):O4 l l=some true:=by
 unfold O4
 rw[Ji,Ad,sS (n:=l.length) (λi hi=>by
  simp only[K5,Da hi,Ap,Ab hi,Aa,Ji,Ad]
  rw[ad1])<|by simp only[K5,CM]]
 rfl
end Go.TI
