/- Drawn devices that are cleaned. No condition; no program is in sight. -/
import Derived.Test.YtdhemppeejlbeabGreatCNP2
set_option linter.unusedVariables false
set_option linter.unusedSimpArgs false
namespace Go.TI
open Go
variable {r m r':List A4} {y:A4} {t c b:Int} {d d':AK} {f g:Flash} {n j:Nat} {P:Int->Prop} {α β:Type} {s:Store} {texts T:List ByteArray} {l:List Br} {p:Page} {x:Tx} {a ss:List Bl} {ps:List Page}
theorem UJ {P:List α->Prop} (nil:P []) (app:∀l x,P l->P (l++ [x])) (l:List α):P l:=by
 rw[<-List.reverse_reverse l]
 induction l.reverse with
 |nil=>exact nil
 |cons x l ih=>rw[List.reverse_cons];exact app _ _ ih
def Dw (r:List A4):List Int:=r.foldl (λns y=>if y.Page.Kind=2 then yW ns y.Page.Tx else ns) []
theorem UT (r:List A4) (y:A4):Dw (r++ [y])=if y.Page.Kind=2 then yW (Dw r) y.Page.Tx else Dw r:=by unfold Dw;rw[Ir];rfl
theorem Hi (r:List A4) (h:∀y∈r,1<=y.Page.Tx):asc (Dw r)/\(∀x,x∈Dw r↔∃y∈r,y.Page.Kind=2/\y.Page.Tx=x)/\(Dw r).length<=r.length:=by
 have main:∀n,n<=r.length->asc (Dw (r.take n))/\(∀x,x∈Dw (r.take n)↔∃y∈r.take n,y.Page.Kind=2/\y.Page.Tx=x)/\(Dw (r.take n)).length<=n:=by
  intro n
  induction n with
  |zero=>intro _;simp[Dw,asc]
  |succ n ih=>
   intro hn;obtain⟨h1,h2,h3⟩:=ih (by omega);have et:r.take (n+1)=r.take n++ [r[n]'(by omega)]:=Aq (by omega);have hy:=h _ (AD (show n<r.length by omega));generalize r[n]'(by omega)=y at et hy;rw[et,UT]
   have a:∀z∈Dw (r.take n),0<z:=λz hz=>by
    obtain⟨w,hw,_,h5⟩:=(h2 z).1 hz;have:=h w (List.mem_of_mem_take hw);omega
   by_cases e:y.Page.Kind=2
   ·rw[Ax e];refine⟨sN h1,λx=>?_,by have:=Zd (Dw (r.take n)) y.Page.Tx h1;omega⟩;rw[sM a,h2 x];simp only[Ai,Aw];constructor
    ·rintro(⟨w,hw,hk,ht⟩|⟨rfl,h0⟩)
     ·exact⟨w,.inl hw,hk,ht⟩
     exact⟨y,.inr rfl,e,rfl⟩
    rintro⟨w,hw|rfl,hk,ht⟩
    ·exact .inl ⟨w,hw,hk,ht⟩
    exact .inr ⟨ht.symm,by omega⟩
   rw[Az e];refine⟨h1,λx=>?_,by omega⟩;rw[h2 x];simp only[Ai,Aw];constructor
   ·rintro⟨w,hw,hk,ht⟩;exact⟨w,.inl hw,hk,ht⟩
   rintro⟨w,hw|rfl,hk,ht⟩
   ·exact⟨w,hw,hk,ht⟩
   exact absurd hk e
 have:=main r.length (A3 _);rw[AN]at this;exact this
theorem aX (r:List A4) (hr:GI r):Ar (λs:List Int×Int=>Kr r s.1 s.2) ([],0)=some (Dw r):=by
 have d:=hr.len;obtain⟨b,h1,h2⟩:=Bb (body:=λs:List Int×Int=>Kr r s.1 s.2) (λ(o:List Int) i=>(o,i)) r.length (λi o=>o=Dw (r.take i)) (λb=>b=Dw r)
  (λo i hi ho=>by
   have hx:=Ab hi;have hm:r[i]∈r:=AD hi;have f:=(hr.tx _ hm).1;have a:=Hi (r.take i) (λy hy=>(hr.tx y (List.mem_of_mem_take hy)).1);have g:o.length<=1048576:=by rw[ho];have:=a.2.2;rw[AH]at this;omega
   have et:r.take (i+1)=r.take i++ [r[i]]:=Aq hi;simp only[Kr,A7,Ad hi,Ae,A9,hx,Aa];rw[ad1 (by omega)];refine .inl ?_;by_cases e:r[i].Page.Kind=2
   ·rw[show(r[i].Page.Kind !=2)=false by simp[e]];simp only[Ac]
    rw[Py (body:=λs:List Int×Int=>Mr o r[i] s.1 s.2) o (λy=>decide (y<r[i].Page.Tx)) [] (by simp;omega)
     (λu k x hk hu=>by
      have c:=(Ah.1 hk).1
      simp only[Mr,A7,Ad c,Ae,A9,hk,Aa])
     (λu=>by simp only[Mr,A7,Al,Ap,Ac])]
    simp only[Aa,AA];have h:=BO (λy=>decide (y<r[i].Page.Tx)) o;rw[Cg (by simp only[Ak];omega)];simp only[Aa]
    rw[Py (body:=λs:List Int×Int=>Mq o r[i] s.1 s.2) o (λy=>decide (y>r[i].Page.Tx)) _ (by simp only[Ag,Ak];omega)
     (λu k x hk hu=>by
      have c:=(Ah.1 hk).1
      simp only[Mq,A7,Ad c,Ae,A9,hk,Aa])
     (λu=>by simp only[Mq,A7,Al,Ap,Ac])]
    simp only[Aa];refine⟨_,rfl,?_⟩;rw[et,UT,Ax e,<-ho];unfold yW;rw[Ax (by omega)]
   rw[show(r[i].Page.Kind !=2)=true by simpa using e]
   exact⟨o,rfl,by rw[et,UT,Az e,ho]⟩)
  (λo ho=>⟨o,by simp only[Kr,A7,Al,Ap,Ac],by rw[ho,AN]⟩) (s:=[]) rfl
 rw[h2]at h1;exact h1
noncomputable def Bw (r:List A4):List Tx:=(Dw r).filterMap (Ih r)
theorem Sd (hr:GI r) (h:Ih r t=some x):x.Num=t/\x.Recs.length<=20000:=by
 obtain⟨z,ok,h1,h2,h3⟩:=cY r hr t;rw[h]at h2
 cases ok with
 |false=>cases h2
 |true=>
  rw[Ax rfl]at h2
  injection h2 with h2
  subst h2;refine⟨?_,h3⟩;unfold Ih at h;split at h
  ·cases h
  obtain⟨l,_,rfl⟩:=Be.1 h;rfl
theorem Ou (r:List A4) (hr:GI r):Ru r=some (Bw r):=by
 have c:=hr.len;have a:=Hi r (λy hy=>(hr.tx y hy).1);have d:=a.2.2;unfold Ru;rw[aX r hr];simp only[Aa];obtain⟨b,h1,h2⟩:=Bb (body:=λs:List Tx×Int=>Kq r (Dw r) s.1 s.2) (λ(o:List Tx) i=>(o,i)) (Dw r).length (λi o=>o=((Dw r).take i).filterMap (Ih r)) (λb=>b=Bw r)
  (λo i hi ho=>by
   have hx:=Ab hi;have et:(Dw r).take (i+1)=(Dw r).take i++ [(Dw r)[i]]:=Aq hi;have e:o.length<=i:=by
    rw[ho];have:=List.length_filterMap_le (Ih r) ((Dw r).take i);rw[AH]at this;omega
   simp only[Kq,A7,Ad hi,Ae,A9,hx,Aa];rw[ad1 (by omega)];obtain⟨z,ok,k1,k2,k3⟩:=cY r hr (Dw r)[i];rw[k1];simp only[Aa];refine .inl ?_
   cases ok with
   |true=>
    simp only[Ae];rw[Cg (by simp only[Ak];omega)];refine⟨_,rfl,?_⟩;rw[et,H7,ho];simp only[Jc,List.filterMap_nil,k2,BR]
   |false=>
    refine⟨o,rfl,?_⟩;rw[et,H7,ho]
    simp[k2])
  (λo ho=>⟨o,by simp only[Kq,A7,Al,Ap,Ac],by rw[ho,AN];rfl⟩) (s:=[]) rfl
 have h1':Ar (λs:List Tx×Int=>Kq r (Dw r) s.1 s.2) ([],0)=some b:=h1;rw[h1',h2];rfl
def bF (x:Tx):Bool:=match x.Recs with
 |[]=>false
 |r::_=>r.Kind==1
def p9 (l:List Tx):Nat:=l.zipIdx.foldl (λa z=>if bF z.1=true then z.2 else a) 0
def Di (l:List Tx):List Tx:=l.drop (p9 l)
theorem QG (l:List Tx) (x:Tx):p9 (l++ [x])=if bF x=true then l.length else p9 l:=by
 unfold p9;rw[List.zipIdx_append,Ir];simp
theorem pZ (l:List Tx):p9 l<=l.length:=by
 induction l using UJ with
 |nil=>simp[p9]
 |app l x ih=>
  rw[QG,Ag];split<;>simp<;>omega
theorem Sh (l:List Tx) (x:Tx):Di (l++ [x])=if bF x=true then [x]else Di l++ [x]:=by
 unfold Di;rw[QG];by_cases e:bF x=true
 ·rw[Ax e,Ax e,Fo rfl]
 rw[Az e,Az e,List.drop_append_of_le_length (pZ l)]
theorem jV (l:List Tx):∃A,l=A++Di l/\(A≠ []->∃x B,Di l=x::B/\bF x=true)/\∀x B,Di l=x::B->∀y∈B,bF y=false:=by
 induction l using UJ with
 |nil=>exact⟨[],rfl,λh=>absurd rfl h,λx B h=>by cases h⟩
 |app l x ih=>
  obtain⟨A,h1,h2,h3⟩:=ih;rw[Sh];by_cases e:bF x=true
  ·rw[Ax e];exact⟨l,rfl,λ_=>⟨x,[],rfl,e⟩,λy B h=>by injection h with _ h;subst h;intro z hz;cases hz⟩
  rw[Az e];refine⟨A,by rw[<-Au,<-h1],λhA=>?_,λy B h=>?_⟩
  ·obtain⟨y,B,h4,h5⟩:=h2 hA;exact⟨y,B++ [x],by rw[h4];rfl,h5⟩
  cases hs:Di l with
  |nil=>
   rw[hs]at h
   injection h with _ h
   subst h;intro z hz;cases hz
  |cons w B'=>
   rw[hs]at h
   injection h with h4 h5
   subst h4 h5;intro z hz;have hz:z∈B'++ [x]:=hz;rw[Ai,Aw]at hz
   rcases hz with hz|rfl
   ·exact h3 w B' hs z hz
   simpa using e
theorem wC (A:List Tx):∀(B:List Tx),(A≠ []->∃x B',B=x::B'/\bF x=true)->(∀x B',B=x::B'->∀y∈B',bF y=false)->Di (A++B)=B:=by
 intro B
 induction B using UJ with
 |nil=>
  intro h1 _
  cases A with
  |nil=>rfl
  |cons a A=>obtain⟨x,B',h,_⟩:=h1 (by simp);cases h
 |app B y ih=>
  intro h1 h2;rw[<-Au,Sh]
  cases B with
  |nil=>
   by_cases e:bF y=true
   ·rw[Ax e];rfl
   rw[Az e]
   cases A with
   |nil=>rfl
   |cons a A=>
    obtain⟨x,B',h,h3⟩:=h1 (by simp)
    injection h with h4 h5
    rw[h4]at e;exact absurd h3 e
  |cons b B=>
   have hy:bF y=false:=h2 b (B++ [y]) rfl y (by simp);rw[Az (by rw[hy];simp),ih]
   ·intro hA;obtain⟨x,B',h,h3⟩:=h1 hA
    injection h with h4 h5
    exact⟨b,B,rfl,by rw[h4];exact h3⟩
   intro x B' h z hz
   injection h with h4 h5
   subst h4 h5;exact h2 b (B++ [y]) rfl z (by simp[hz])
theorem Rt (l:List Tx) (hl:l.length<=1048576) (hr:∀x∈l,x.Recs.length<=20000):Or l=some (Di l):=by
 unfold Or;obtain⟨b,h1,h2⟩:=Bb (body:=λs:Int×Int=>Hc l s.1 s.2) (λ(o:Int) i=>(o,i)) l.length (λi o=>o=(p9 (l.take i):Int)) (λb=>b=(p9 l:Int))
  (λo i hi ho=>by
   have hx:=Ab hi;have et:l.take (i+1)=l.take i++ [l[i]]:=Aq hi;simp only[Hc,A7,Ad hi,Ae,A9,hx,Aa];rw[ad1 (by omega)];refine .inl ?_;have d:(l.take i).length=i:=by rw[AH];omega
   cases a:l[i].Recs with
   |nil=>
    refine⟨o,rfl,?_⟩;rw[et,QG,Az (by unfold bF;rw[a];simp),ho]
   |cons q m=>
    have hg:gi (q::m) 0=some q:=A9 (i:=0);rw[Ad (by rw[BM,Ay];omega:ln (q::m)>0)];simp only[Ae,hg,Aa]
    cases hk:(q.Kind==1)with
    |true=>
     refine⟨(i:Int),rfl,?_⟩;rw[et,QG,Ax (by unfold bF;rw[a];exact hk),d]
    |false=>
     refine⟨o,rfl,?_⟩
     rw[et,QG,Az (by unfold bF;rw[a];simp only[];rw[hk];simp),ho])
  (λo ho=>⟨o,by simp only[Hc,A7,Al,Ap,Ac],by rw[ho,AN]⟩) (s:=0) rfl
 have h1':Ar (λs:Int×Int=>Hc l s.1 s.2) (0,0)=some b:=h1;rw[h1',h2];simp only[Aa];have e:=pZ l;obtain⟨c,q1,q2⟩:=UZ (body:=λs:List Tx×Int=>IA l s.1 s.2) (λ(o:List Tx) i=>(o,i)) l.length (λi o=>o=(l.take i).drop (p9 l)/\p9 l<=i) (λb=>b=Di l)
  (λo i hi hs=>by
   obtain⟨ho,f⟩:=hs;have hx:=Ab hi;have hm:l[i]∈l:=AD hi;have g:=hr _ hm;have et:l.take (i+1)=l.take i++ [l[i]]:=Aq hi;have h:o.length<=1048576:=by rw[ho,BC,AH];omega
   simp only[IA,A7,Ad hi,Ae,A9,hx,Aa];rw[LO (by omega)];simp only[Aa];rw[Cg (by simp only[Ak];omega)];simp only[Aa];rw[ad1 (by omega)];refine .inl ⟨_,rfl,?_,by omega⟩
   rw[et,List.drop_append_of_le_length (by rw[AH];omega),<-ho])
  (λo hs=>⟨o,by simp only[IA,A7,Al,Ap,Ac],by rw[hs.1,AN];rfl⟩) (l.length-p9 l) (p9 l) [] (by omega) ⟨by rw[De];rw[AH];omega,A3 _⟩
 rw[q1,q2];rfl
def Dh (l:Vs) (nx:Int) (a:List CK):Option (Vs×Int):=a.foldl (λo r=>o.bind λp=>E6 p.1 p.2 r) (some (l,nx))
theorem RU (a:List CK):a.foldl (λ(o:Option (Vs×Int)) r=>o.bind λp=>E6 p.1 p.2 r) none=none:=by
 induction a with
 |nil=>rfl
 |cons r l ih=>rw[MK];exact ih
theorem FO (l:Vs) (nx:Int) (r:CK) (a:List CK):Dh l nx (r::a)=(E6 l nx r).bind λp=>Dh p.1 p.2 a:=by
 unfold Dh;rw[MK];simp only[Aa]
 cases E6 l nx r with
 |none=>exact RU a
 |some p=>rfl
theorem Mc (l:Vs) (nx:Int) (a b:List CK):Dh l nx (a++b)=(Dh l nx a).bind λp=>Dh p.1 p.2 b:=by
 unfold Dh;rw[Ir]
 cases a.foldl (λ(o:Option (Vs×Int)) r=>o.bind λp=>E6 p.1 p.2 r) (some (l,nx))with
 |none=>exact RU b
 |some p=>rfl
def Qe (s:Store) (a:List CK) (o:Option (Store×Bool)):Prop:=match Dh (BT s) s.Next a with
 |none=>o=some (s,false)
 |some (l,nx)=>∃t,o=some (t,true)/\Dr t/\BT t=l/\t.Next=nx
theorem WS (h:Dr s) (a:List CK) (hr:a.length<=1048576):Qe s a (L8 s a):=by
 have hl:=h.len;have e:=KX h.ar (by have:=h.few;omega);have c:=Gy s e (by omega);unfold L8;rw[c];simp only[Aa];obtain⟨b,h1,h2⟩:=Bb (body:=λq:Int×List Vol×List BJ×Int=>DS s a q.1 q.2.1 q.2.2.1 q.2.2.2) (λ(t:Store) i=>(i,t.Vols,t.Arena.Knots,t.Next)) a.length
  (λi t=>Dr t/\Dh (BT s) s.Next (a.take i)=some (BT t,t.Next))
  (λb=>(b= .inr (s,false)/\Dh (BT s) s.Next a=none)\/∃t,b= .inl (t.Vols,t.Arena.Knots,t.Next)/\Dr t/\Dh (BT s) s.Next a=some (BT t,t.Next))
  (λt i hi hs=>by
   obtain⟨hP,he⟩:=hs;have hx:=Ab hi;obtain⟨e1,e2⟩:=JY hx;have et:a.take (i+1)=a.take i++ [a[i]]:=Aq hi;simp only[DS,A7,Ad hi,Ae,A9,hx,Aa];have d:=Z7 hP a[i];unfold LV at d;have f:Store.mk t.Vols (Arena.mk t.Arena.Knots) t.Next=t:=rfl;rw[f]
   cases hv:E6 (BT t) t.Next a[i]with
   |none=>
    rw[hv]at d;rw[d];simp only[Aa,AC,Ae];rw[c];refine .inr ⟨_,rfl,.inl ⟨rfl,?_⟩⟩;rw[e1,Mc,he];simp only[Aa];rw[FO,hv];rfl
   |some p=>
    obtain⟨l,nx⟩:=p;rw[hv]at d;obtain⟨u,u1,u2,u3,u4⟩:=d;rw[u1];simp only[Aa,Aj,Ac];rw[ad1 (by omega)];refine .inl ⟨u,rfl,u2,?_⟩;rw[et,Mc,he];simp only[Aa];rw[FO,hv];simp only[Aa];rw[u3,u4]
    rfl)
  (λt hs=>⟨_,by simp only[DS,A7,Al,Ap,Ac],.inr ⟨t,rfl,hs.1,by rw[<-hs.2,AN]⟩⟩) (s:=s) ⟨h,rfl⟩
 have h1':Ar (λq:Int×List Vol×List BJ×Int=>DS s a q.1 q.2.1 q.2.2.1 q.2.2.2) (0,s.Vols,s.Arena.Knots,s.Next)=some b:=h1;rw[h1'];unfold Qe
 rcases h2 with⟨rfl,h2⟩|⟨t,rfl,h2,h3⟩
 ·rw[h2];rfl
 rw[h3];exact⟨t,rfl,h2,rfl,rfl⟩
def Dm (r:List A4):Int:=r.foldl (λm y=>if y.Page.Seq>=m then y.Page.Seq+1 else m) 1
def DE (r:List A4):Int:=r.foldl (λm y=>if y.Page.Kind=2/\y.Page.Tx>=m then y.Page.Tx+1 else m) 1
def LN (l:List Tx):Int:=match l with
 |[]=>0
 |x::_=>x.Num
def LE (l:List Tx):Vs×Int:=l.foldl (λp x=>(Dh p.1 p.2 x.Recs).getD p) ([],1)
theorem X9 (r:List A4) (y:A4):Dm (r++ [y])=if y.Page.Seq>=Dm r then y.Page.Seq+1 else Dm r:=by unfold Dm;rw[Ir];rfl
theorem Ue (r:List A4) (y:A4):DE (r++ [y])=if y.Page.Kind=2/\y.Page.Tx>=DE r then y.Page.Tx+1 else DE r:=by unfold DE;rw[Ir];rfl
theorem N4 (r:List A4):(∀y∈r,y.Page.Seq<Dm r)/\1<=Dm r/\(∀b,1<=b->(∀y∈r,y.Page.Seq<b)->Dm r<=b):=by
 induction r using UJ with
 |nil=>exact⟨λy hy=>(by cases hy),by simp[Dm],λb hb _=>by simpa[Dm]using hb⟩
 |app r x ih=>
  obtain⟨h1,h2,h3⟩:=ih;rw[X9];refine⟨λy hy=>?_,?_,λb hb a=>?_⟩
  ·rw[Ai,Aw]at hy
   rcases hy with hy|rfl
   ·have:=h1 y hy;split<;>omega
   split<;>omega
  ·split<;>omega
  have:=h3 b hb (λy hy=>a y (by simp[hy]));have:=a x (by simp);split<;>omega
theorem Ye (r:List A4):(∀y∈r,y.Page.Kind=2->y.Page.Tx<DE r)/\1<=DE r/\(∀b,1<=b->(∀y∈r,y.Page.Kind=2->y.Page.Tx<b)->DE r<=b):=by
 induction r using UJ with
 |nil=>exact⟨λy hy=>(by cases hy),by simp[DE],λb hb _=>by simpa[DE]using hb⟩
 |app r x ih=>
  obtain⟨h1,h2,h3⟩:=ih;rw[Ue];refine⟨λy hy hk=>?_,?_,λb hb a=>?_⟩
  ·rw[Ai,Aw]at hy
   rcases hy with hy|rfl
   ·have:=h1 y hy hk;split<;>omega
   split
   ·omega
   rename_i h;have:¬y.Page.Tx>=DE r:=λhh=>h ⟨hk,hh⟩;omega
  ·split<;>omega
  have:=h3 b hb (λy hy=>a y (by simp[hy]));split
  ·rename_i h;have:=a x (by simp) h.1;omega
  omega
theorem VR (h:qI f r) (hf:BU f):GI r:=by
 have a:∀y∈r,(1<=y.Page.Seq/\y.Page.Seq<=1000000000)/\(1<=y.Page.Tx/\y.Page.Tx<=1000000000)/\(1<=y.Page.Count/\y.Page.Count<=9)/\(0<=y.Page.Part/\y.Page.Part<y.Page.Count):=by
  intro y hy;obtain⟨b,x,g1,g2,_,g3⟩:=h.page y hy;obtain⟨_,k1⟩:=Dk g1;obtain⟨_,k2⟩:=Dk g2;have hx:=hf.text b (A5 k1) x (A5 k2);obtain⟨p,ok,m1,_,_,m2⟩:=IU x.Text (by omega);rw[g3]at m1
  injection m1 with m1
  injection m1 with m1 m3
  have hp:=m2 m3.symm;obtain⟨v,q1,_,q2⟩:=SL p;rw[hp]at q1
  injection q1 with q1
  obtain⟨_,a1,a2,a3,a4,_⟩:=q2 q1.symm;rw[m1];exact⟨a1,a2,a3,a4⟩
 exact⟨h.len,h.text,λy hy=>(a y hy).1,λy hy=>(a y hy).2.1,λy hy=>(a y hy).2.2.1,λy hy=>(a y hy).2.2.2⟩
theorem UC (r:List A4) (hr:GI r):Ar (λs:Int×Int×Int=>HY r s.1 s.2.1 s.2.2) (0,1,1)=some (Dm r,DE r):=by
 have c:=hr.len;obtain⟨b,h1,h2⟩:=Bb (body:=λs:Int×Int×Int=>HY r s.1 s.2.1 s.2.2) (λ(o:Int×Int) i=>(i,o.1,o.2)) r.length (λi o=>o=(Dm (r.take i),DE (r.take i))) (λb=>b=(Dm r,DE r))
  (λo i hi ho=>by
   subst ho;have hx:=Ab hi;have hm:r[i]∈r:=AD hi;have hs:=hr.seq _ hm;have ht:=hr.tx _ hm;have et:r.take (i+1)=r.take i++ [r[i]]:=Aq hi;simp only[HY,A7,Ad hi,Ae,A9,hx,Aa];rw[et,X9,Ue,ad1 (by omega)];have a:(cond (decide (r[i].Page.Seq>=Dm (r.take i))) (some (ad r[i].Page.Seq 1)) (some (Dm (r.take i))):Option Int)=some (if r[i].Page.Seq>=Dm (r.take i)then r[i].Page.Seq+1 else Dm (r.take i)):=by
    by_cases e:r[i].Page.Seq>=Dm (r.take i)
    ·rw[Ad e,Ax e,CD (by omega) (by omega)];rfl
    rw[Af e,Az e];rfl
   rw[a];simp only[Aa];refine .inl ?_;by_cases e:r[i].Page.Kind=2
   ·rw[show(r[i].Page.Kind==2)=true by simpa using e];simp only[Ae,Aa];by_cases e2:r[i].Page.Tx>=DE (r.take i)
    ·rw[Ad e2,Ax (show r[i].Page.Kind=2/\r[i].Page.Tx>=DE (r.take i)from⟨e,e2⟩),CD (by omega) (by omega)];exact⟨(_,_),rfl,rfl⟩
    rw[Af e2,Az (show¬(r[i].Page.Kind=2/\r[i].Page.Tx>=DE (r.take i))from λhh=>e2 hh.2)];exact⟨(_,_),rfl,rfl⟩
   rw[show(r[i].Page.Kind==2)=false by simpa using e,Az (show¬(r[i].Page.Kind=2/\r[i].Page.Tx>=DE (r.take i))from λhh=>e hh.1)]
   exact⟨(_,_),rfl,rfl⟩)
  (λo ho=>⟨o,by simp only[HY,A7,Al,Ap,Ac],by rw[ho,AN]⟩) (s:=(1,1)) rfl
 rw[h2]at h1;exact h1
theorem cQ:Dr (Store.mk [] (Arena.mk []) 1):=by
 refine⟨⟨by simp,rfl,by simp,by simp,by simp,by simp[BG],by simp[BG],by simp⟩,by simp⟩
theorem YU (l:List Tx) (x:Tx):LE (l++ [x])=(Dh (LE l).1 (LE l).2 x.Recs).getD (LE l):=by unfold LE;rw[Ir];rfl
theorem Y4 (l:List Tx) (hl:l.length<=1048576) (hr:∀x∈l,x.Recs.length<=20000):∃t,Ar (λs:Int×List Vol×List BJ×Int×Int=>D4 l s.1 s.2.1 s.2.2.1 s.2.2.2.1 s.2.2.2.2) (0,[],[],1,0)=some (t.Vols,t.Arena.Knots,t.Next,LN l)/\Dr t/\(BT t,t.Next)=LE l:=by
 obtain⟨b,h1,t,h2,h3,h4⟩:=Bb (body:=λs:Int×List Vol×List BJ×Int×Int=>D4 l s.1 s.2.1 s.2.2.1 s.2.2.2.1 s.2.2.2.2) (λ(o:Store×Int) i=>(i,o.1.Vols,o.1.Arena.Knots,o.1.Next,o.2)) l.length
  (λi o=>Dr o.1/\(BT o.1,o.1.Next)=LE (l.take i)/\o.2=LN (l.take i)) (λb=>∃t,b=(t.Vols,t.Arena.Knots,t.Next,LN l)/\Dr t/\(BT t,t.Next)=LE l)
  (λo i hi hs=>by
   obtain⟨t,bs0⟩:=o;obtain⟨hP,hv,hb⟩:=hs;simp only at hP hv hb;have hx:=Ab hi;have hm:l[i]∈l:=AD hi;have j:=hr _ hm;have et:l.take (i+1)=l.take i++ [l[i]]:=Aq hi;simp only[D4,A7,Ad hi,Ae,A9,hx,Aa];have g:(cond ((i:Int)==0) (some l[i].Num) (some bs0):Option Int)=some (LN (l.take (i+1))):=by
    by_cases e:i=0
    ·subst e;rw[et];simp[LN]
    rw[show((i:Int)==0)=false by simp;omega,hb,et];simp only[Ac]
    cases h5:l.take i with
    |nil=>
     have:=Cb List.length h5;rw[AH,Bp]at this;omega
    |cons a m=>rfl
   rw[g];simp only[Aa];have d:=WS hP l[i].Recs (by omega);unfold Qe at d;have h:Store.mk t.Vols (Arena.mk t.Arena.Knots) t.Next=t:=rfl;have e1:BT t=(LE (l.take i)).1:=Cb Prod.fst hv;have e2:t.Next=(LE (l.take i)).2:=Cb Prod.snd hv;rw[h,ad1 (by omega)];refine .inl ?_;have f:=YU (l.take i) l[i];rw[<-et]at f
   cases c:Dh (BT t) t.Next l[i].Recs with
   |none=>
    rw[c]at d;rw[d];refine⟨(t,LN (l.take (i+1))),rfl,hP,?_,rfl⟩;rw[f,<-e1,<-e2,c,Option.getD_none];exact hv
   |some p=>
    obtain⟨lv,nx⟩:=p;rw[c]at d;obtain⟨u,u1,u2,u3,u4⟩:=d;rw[u1];refine⟨(u,LN (l.take (i+1))),rfl,u2,?_,rfl⟩;rw[f,<-e1,<-e2,c,Bk];show(BT u,u.Next)=(lv,nx)
    rw[u3,u4])
  (λo hs=>⟨(o.1.Vols,o.1.Arena.Knots,o.1.Next,o.2),by simp only[D4,A7,Al,Ap,Ac],o.1,by rw[hs.2.2,AN],hs.1,by rw[hs.2.1,AN]⟩) (s:=(Store.mk [] (Arena.mk []) 1,0)) ⟨cQ,rfl,rfl⟩
 exact⟨t,by rw[<-h2];exact h1,h3,h4⟩
structure IZ (d:AK) (r:List A4):Prop where
 fl:BU d.Flash
 scan:qI d.Flash r
 sr:SR (KL 0 d.Flash.Blocks) r
 st:Dr d.Store
 ab:(BT d.Store,d.Store.Next)=LE (Di (Bw r))
 seq:d.Seq=Dm r
 tx:d.Tx=DE r
 base:d.Base=LN (Di (Bw r))
theorem IZ.pages (h:IZ d r):GI r:=VR h.scan h.fl
theorem Q5 (hr:GI r):(Bw r).length<=1048576/\∀x∈Bw r,x.Recs.length<=20000:=by
 have b:=hr.len;have a:=Hi r (λy hy=>(hr.tx y hy).1);have:=List.length_filterMap_le (Ih r) (Dw r);refine⟨by unfold Bw;omega,λx hx=>?_⟩;obtain⟨t,_,ht⟩:=List.mem_filterMap.1 hx;exact(Sd hr ht).2
theorem Sg (l:List Tx):(Di l).length<=l.length/\∀x∈Di l,x∈l:=⟨by unfold Di;rw[BC];omega,λx hx=>List.mem_of_mem_drop hx⟩
theorem UD (hf:BU f):∃d r,Dc f=some (d,true)/\IZ d r/\d.Flash=f:=by
 obtain⟨r,hs,a⟩:=zZ hf;have hr:=VR hs hf;obtain⟨g1,g2⟩:=Q5 hr;obtain⟨b1,b2⟩:=Sg (Bw r);obtain⟨t,t1,t2,t3⟩:=Y4 (Di (Bw r)) (by omega) (λx hx=>g2 x (b2 x hx));refine⟨AK.mk f t (Dm r) (DE r) (LN (Di (Bw r))),r,?_,⟨hf,hs,a,t2,t3,rfl,rfl,rfl⟩,rfl⟩;unfold Dc;rw[P8 hf,hs.s,Dx f hf.cap];unfold NA;simp only[Aa,Aj,Ac];rw[UC r hr,Ou r hr];simp only[Aa];rw[Rt _ g1 g2];simp only[Aa];rw[t1];rfl
theorem j7 (a b:List Int) (ha:a.length<=1048576):LT a b=some (decide (a=b)):=by
 unfold LT;by_cases hl:a.length=b.length
 ·rw[show(ln a !=ln b)=false by simp[ln,hl]];simp only[Ac]
  rw[sS (body:=λs:Int=>GZ a b s) a b (λx y=>x==y) hl (by omega)
   (λi x y hx hy=>by
    have hi:=(Ah.1 hx).1;simp only[GZ,A7,Ad hi,Ae,A9,hx,hy,Aa];rw[ad1 (by omega)]
    cases c:x==y<;>simp[bne,c])
   (by simp only[GZ,A7,Al,Ap,Ac])]
  have:=qV (p:=λx y:Int=>x==y) (a:=a) (b:=b) (λx _ y _=>by simp) hl
  cases hz:(a.zip b).all (λz=>z.1==z.2)with
  |true=>rw[Ad (this.1 hz)];rfl
  |false=>rw[Af (λhh=>by rw[this.2 hh]at hz;cases hz)];rfl
 rw[show(ln a !=ln b)=true by simp[ln];omega,Af (λhh=>hl (by rw[hh]))];rfl
theorem Xc {a b:Store} (ha:Dr a) (hb:Dr b):Mk a b=some (decide (BT a=BT b/\a.Next=b.Next)):=by
 have e:=ha.len;have f:=hb.len;have g:=ha.few;have h:=hb.few;unfold Mk;by_cases hl:a.Vols.length=b.Vols.length
 ·rw[show(ln a.Vols !=ln b.Vols)=false by simp[ln,hl]];simp only[Ac,Aa];by_cases hn:a.Next=b.Next
  ·rw[show(a.Next !=b.Next)=false by simp[hn]];simp only[Ac]
   rw[sS (body:=λs:Int=>IC a b s) a.Vols b.Vols (λv w=>v.Id==w.Id&&decide (Fy a.Arena.Knots v.Root=Fy b.Arena.Knots w.Root)) hl (by omega)
    (λi x y hx hy=>by
     have hi:=(Ah.1 hx).1;simp only[IC,A7,Ad hi,Ae,A9,hx,hy,Aa];rw[PR _ (by omega) ha.ar (ha.root _ (AL.2 ⟨x,A5 hx,rfl⟩)),PR _ (by omega) hb.ar (hb.root _ (AL.2 ⟨y,A5 hy,rfl⟩))];simp only[Aa];rw[j7 _ _ (by unfold Fy;simp)];simp only[Aa];rw[ad1 (by omega)]
     cases c:x.Id==y.Id with
     |false=>simp[bne,c]
     |true=>
      simp only[bne,c,Aj,Ac,Cz]
      cases decide (Fy a.Arena.Knots x.Root=Fy b.Arena.Knots y.Root)<;>rfl)
    (by simp only[IC,A7,Al,Ap,Ac])]
   have d:(a.Vols.zip b.Vols).all (λz=>z.1.Id==z.2.Id&&decide (Fy a.Arena.Knots z.1.Root=Fy b.Arena.Knots z.2.Root))=decide (BT a=BT b):=by
    unfold BT;generalize a.Vols=l at hl;generalize b.Vols=m at hl
    induction l generalizing m with
    |nil=>cases m with
     |nil=>simp
     |cons y m=>simp at hl
    |cons x l ih=>
     cases m with
     |nil=>simp at hl
     |cons y m=>
      rw[List.zip_cons_cons,Fc,ih m (by simpa using hl),Ea];simp only[An,Ck,A6,BE,QY,Bz]
   rw[d]
   cases hd:decide (BT a=BT b)with
   |true=>rw[Ad ⟨Ik hd,hn⟩];rfl
   |false=>rw[Af (λhh=>of_decide_eq_false hd hh.1)];rfl
  rw[show(a.Next !=b.Next)=true by simpa using hn,Af (λhh=>hn hh.2)];rfl
 rw[show(ln a.Vols !=ln b.Vols)=true by simp[ln];omega,Af (λhh=>hl (by have:=Cb List.length hh.1;rwa [P5,P5]at this))];rfl
theorem Om (h:IZ d r):Pb d=some d:=by
 have:=h.st.len;unfold Pb;rw[Dx _ h.fl.cap,Gy _ (KX h.st.ar (by have:=h.st.few;omega)) (by omega)];rfl
theorem IZ.uniq (h:IZ d r) (h':IZ d' r') (e:d.Flash=d'.Flash):r=r':=by
 have h1:=h.sr;have h2:=h'.sr;rw[<-e]at h2;exact h1.uniq h2
theorem UF (h:IZ d r):ND d=some true:=by
 obtain⟨m,r',h1,h2,h3⟩:=UD h.fl;obtain rfl:=h.uniq h2 h3.symm;unfold ND;rw[h1];simp only[Aa,Ae];have e:=h2.ab.trans h.ab.symm
 injection e with e1 e2
 rw[Xc h2.st h.st,Ad ⟨e1,e2⟩];simp only[Aa,Ae];rw[h2.seq,h.seq,h2.tx,h.tx,h2.base,h.base];simp only[BEq.rfl,Ae];rw[Rs h.st];rfl
theorem Z0 {l:List α} {f g:α->Option β} (h:∀x∈l,f x=g x):l.filterMap f=l.filterMap g:=by
 induction l with
 |nil=>rfl
 |cons a l ih=>rw[Jc,Jc,h a (by simp),ih (λx hx=>h x (by simp[hx]))]
theorem pO {l:List α} {p q:α->Bool} (h:∀x∈l,p x=q x):l.find? p=l.find? q:=by
 induction l with
 |nil=>rfl
 |cons a l ih=>rw[List.find?_cons,List.find?_cons,h a (by simp),ih (λx hx=>h x (by simp[hx]))]
theorem WL (h:∀a b,Rc r' t a b=Rc r t a b):∀(n:Nat) (a b:Int) (x:List UInt8) (q:Int),parts r' t n a b x q=parts r t n a b x q
 |0,_,_,_,_=>rfl
 |n+1,a,b,x,q=>by
  simp only[parts,h];split
  ·split
   ·rfl
   exact WL h n _ _ _ _
  rfl
theorem Tm (h:∀a b,Rc r' t a b=Rc r t a b):Ih r' t=Ih r t:=by
 unfold Ih;rw[WL h]
theorem Wb {t a b:Int} (h:nU t a b y=true):y.Page.Kind=2/\y.Page.Tx=t/\y.Page.Part=a:=by
 unfold nU at h;simp only[An,Ck]at h;exact⟨h.1,h.2.1,h.2.2.1⟩
theorem iS (r m:List A4) (t a b:Int):Rc (r++m) t a b=(Rc r t a b).or (Rc m t a b):=by unfold Rc;rw[List.find?_append]
theorem Vk {t a b:Int} (h:∀y∈r,y.Page.Kind=2->y.Page.Tx≠t):Rc r t a b=none:=by
 unfold Rc;rw[FJ];intro y hy hm;obtain⟨h1,h2,_⟩:=Wb hm;exact h y hy h1 h2
theorem tC (h:∀y∈r,y.Page.Kind=2->y.Page.Tx≠t):Ih r t=none:=by
 unfold Ih;have:parts r t 11 0 0 [] 0=none:=by
  simp only[parts];rw[Ax (.inl trivial),Vk h]
 rw[this]
theorem uA (r:List A4) (hy:y.Page.Kind≠2):Dw (r++ [y])=Dw r:=by rw[UT,Az hy]
theorem WO (r:List A4) (hy:y.Page.Kind≠2):Bw (r++ [y])=Bw r:=by
 unfold Bw;rw[uA r hy];congr 1;funext t
 refine Tm λa b=>?_
 rw[iS,Vk (r:=[y]) (λz hz hk=>by
  rw[Aw]at hz;rw[hz]at hk
  exact absurd hk hy),Option.or_none]
structure e9 (m:List A4) (t:Int) (n:Nat) (texts:List ByteArray):Prop where
 len:m.length<=n
 pos:1<=n/\n<=9
 tl:texts.length=n
 at_:∀(i:Nat) y,m[i]?=some y->y.Page.Kind=2/\y.Page.Tx=t/\y.Page.Part=i/\y.Page.Count=n/\texts[i]?=some y.Page.Text
theorem e9.all (h:e9 m t n texts) (hy:y∈m):y.Page.Kind=2/\y.Page.Tx=t:=by
 obtain⟨i,hi,rfl⟩:=AG hy;obtain⟨h1,h2,_⟩:=h.at_ i _ (Ab hi);exact⟨h1,h2⟩
theorem xZ (r:List A4) (hr:∀y∈r,1<=y.Page.Tx) (ht:∀y∈r,y.Page.Kind=2->y.Page.Tx<t) (h0:1<=t):∀(m:List A4),m≠ []->(∀y∈m,y.Page.Kind=2/\y.Page.Tx=t)->Dw (r++m)=Dw r++ [t]:=by
 intro m hm a
 have h1:=Hi (r++m) (λy hy=>by
  rcases Ai.1 hy with hy|hy
  ·exact hr y hy
  rw[(a y hy).2];exact h0)
 have h2:=Hi r hr
 refine Vu h1.1 ?_ λx=>?_
 ·unfold asc;rw[Ba];refine⟨h2.1,J5 _ _,λx hx z hz=>?_⟩;rw[Aw]at hz;obtain⟨y,hy,hk,rfl⟩:=(h2.2.1 x).1 hx;rw[hz];exact ht y hy hk
 rw[h1.2.1,Ai,Aw,h2.2.1];constructor
 ·rintro⟨y,hy,hk,rfl⟩
  rcases Ai.1 hy with hy|hy
  ·exact .inl ⟨y,hy,hk,rfl⟩
  exact .inr (a y hy).2
 rintro(⟨y,hy,hk,rfl⟩|rfl)
 ·exact⟨y,Ai.2 (.inl hy),hk,rfl⟩
 cases m with
 |nil=>exact absurd rfl hm
 |cons y m=>exact⟨y,by simp,(a y (by simp)).1,(a y (by simp)).2⟩
theorem ABh (h:e9 m t n texts) {a:Nat} {b:Int} (hc:a=0\/b=n):Rc m t a b=m[a]? :=by
 cases hy:m[a]? with
 |none=>
  unfold Rc;rw[FJ];intro y c hm;obtain⟨i,hi,rfl⟩:=AG c;obtain⟨_,_,h3,_⟩:=h.at_ i _ (Ab hi);have:=(Wb hm).2.2;rw[List.getElem?_eq_none_iff]at hy;omega
 |some y=>
  obtain⟨h1,h2,h3,h4,_⟩:=h.at_ a y hy;refine iU m _ (λj x hj hx=>?_) hy ?_
  ·obtain⟨_,_,k3,_⟩:=h.at_ j x hx;rw[Bool.eq_false_iff];intro hm;have:=(Wb hm).2.2;omega
  unfold nU;rw[h1,h2,h3,h4];simp only[BEq.rfl,Cz,Co,CP,Bc,Ck]
  rcases hc with hc|hc
  ·left;omega
  right;omega
def OQ (l:List ByteArray):List UInt8:=l.flatMap L
theorem dQ (hr:∀y∈r,y.Page.Kind=2->y.Page.Tx≠t) (h:e9 m t n texts):∀(k a:Nat) (c:Int) (x:List UInt8) (q:Int) (b:Nat),a+k=n->(a=0\/c=n)->k<b->
  (m.length=n->∃q',parts (r++m) t b a c x q=some (x++OQ (texts.drop a),q'))/\(m.length<n->a<=m.length->parts (r++m) t b a c x q=none)
 |k,a,c,x,q,0,hk,hc,hf=>by omega
 |0,a,c,x,q,b+1,hk,hc,hf=>by
  have hp:=h.pos;simp only[parts];rw[Az (by omega)];refine⟨λ_=>⟨q,?_⟩,λh1 h2=>by omega⟩;rw[De (by have:=h.tl;omega)];simp[OQ]
 |k+1,a,c,x,q,b+1,hk,hc,hf=>by
  have hp:=h.pos;simp only[parts];rw[Ax (by omega),iS,Vk hr,Option.none_or,ABh h hc]
  cases hy:m[a]? with
  |none=>
   rw[List.getElem?_eq_none_iff]at hy;exact⟨λh1=>by omega,λ_ _=>rfl⟩
  |some y=>
   obtain⟨h1,h2,h3,h4,h5⟩:=h.at_ a y hy;have d:=(Ah.1 hy).1;simp only[];obtain⟨k1,k2⟩:=dQ hr h k (a+1) y.Page.Count (x++L y.Page.Text) (NJ a q y) b (by omega) (.inr h4) (by omega);rw[show((a+1:Nat):Int)=(a:Int)+1 from rfl]at k1 k2;refine⟨λh6=>?_,λh6 h7=>k2 h6 (by omega)⟩;obtain⟨q',k3⟩:=k1 h6;refine⟨q',?_⟩;rw[k3]
   rw[show texts.drop a=y.Page.Text::texts.drop (a+1) by
    have h8:=(Ah.1 h5)
    rw[Bf h8.1,h8.2]]
   simp only[OQ,It,Au]
theorem pJ (r:List A4) (hr:∀y∈r,1<=y.Page.Tx) (ht:∀y∈r,y.Page.Kind=2->y.Page.Tx<t) (h0:1<=t) (h:e9 m t n texts):
  (m.length<n->Bw (r++m)=Bw r)/\(m.length=n->∀a,dL (bs (OQ texts))=some a->∃q,Bw (r++m)=Bw r++ [Tx.mk t q a]):=by
 have d:∀y∈r,y.Page.Kind=2->y.Page.Tx≠t:=λy hy hk=>by have:=ht y hy hk;omega
 have old:∀x∈Dw r,Ih (r++m) x=Ih r x:=by
  intro x hx;have:=Hi r hr;obtain⟨y,hy,hk,rfl⟩:=(this.2.1 x).1 hx;have:=ht y hy hk
  refine Tm λe f=>?_
  rw[iS,Vk (r:=m) (λz hz g=>by rw[(h.all hz).2];omega),Option.or_none]
 have oldG:(Dw r).filterMap (Ih (r++m))=Bw r:=by
  unfold Bw;exact Z0 old
 by_cases hm:m=[]
 ·subst hm;have:=h.pos;refine⟨λ_=>by rw[A0],λh1=>by simp at h1;omega⟩
 have b:=xZ r hr ht h0 m hm (λy hy=>h.all hy);have hg:Bw (r++m)=Bw r++(match Ih (r++m) t with|some x=>[x]|none=>[]):=by
  have:Bw (r++m)=(Dw (r++m)).filterMap (Ih (r++m)):=rfl;rw[this,b,H7,oldG];congr 1
  cases hx:Ih (r++m) t with
  |none=>simp[hx]
  |some x=>simp[hx]
 have hp:=h.pos;obtain⟨p1,p2⟩:=dQ d h n 0 0 [] 0 11 (by omega) (.inl rfl) (by omega);refine⟨λh1=>?_,λh1 a c=>?_⟩
 ·have:Ih (r++m) t=none:=by
   unfold Ih;have:=p2 h1 (by omega);rw[show((0:Nat):Int)=0 from rfl]at this;rw[this]
  rw[hg,this,A0]
 obtain⟨q,p3⟩:=p1 h1;rw[show((0:Nat):Int)=0 from rfl]at p3;have:Ih (r++m) t=some (Tx.mk t q a):=by
  unfold Ih;rw[p3];simp only[AA,List.drop_zero];rw[c];rfl
 exact⟨q,by rw[hg,this]⟩
structure nH (r:List A4):Prop where
 uniq:∀y∈r,∀z∈r,y.Page.Kind=2->z.Page.Kind=2->y.Page.Tx=z.Page.Tx->y.Page.Part=z.Page.Part->y=z
theorem pN (h:nH r) (p:A4->Bool) {t a b:Int} (hf:Rc (r.filter p) t a b=some y):Rc r t a b=some y:=by
 obtain⟨h1,h2⟩:=RQ hf;have h3:=(AQ.1 h1).1
 cases hz:Rc r t a b with
 |none=>
  unfold Rc at hz;rw[FJ]at hz;exact absurd h2 (hz y h3)
 |some z=>
  obtain⟨k1,k2⟩:=RQ hz;obtain⟨a1,a2,a3⟩:=Wb h2;obtain⟨b1,b2,b3⟩:=Wb k2;rw[h.uniq z k1 y h3 b1 a1 (by rw[a2,b2]) (by rw[a3,b3])]
theorem UP (h:nH r) (p:A4->Bool):∀(n:Nat) (a b:Int) (x:List UInt8) (q:Int) (w:List UInt8×Int),parts (r.filter p) t n a b x q=some w->parts r t n a b x q=some w
 |0,_,_,_,_,_,hw=>by cases hw
 |n+1,a,b,x,q,w,hw=>by
  simp only[parts]at hw⊢;split
  ·rename_i hc;rw[Ax hc]at hw
   cases hf:Rc (r.filter p) t a b with
   |none=>rw[hf]at hw;cases hw
   |some y=>
    rw[hf]at hw;rw[pN h p hf];exact UP h p n _ _ _ _ w hw
  rename_i hc;rw[Az hc]at hw;exact hw
theorem jO (h:nH r) (p:A4->Bool) (hx:Ih (r.filter p) t=some x):Ih r t=some x:=by
 unfold Ih at hx⊢
 cases hp:parts (r.filter p) t 11 0 0 [] 0 with
 |none=>rw[hp]at hx;cases hx
 |some w=>
  rw[hp]at hx;rw[UP h p _ _ _ _ _ w hp];exact hx
theorem pK (r:List A4) (hr:GI r):(Bw r).Pairwise λx y=>x.Num<y.Num:=by
 have h1:=(Hi r (λy hy=>(hr.tx y hy).1)).1;unfold Bw;rw[List.pairwise_filterMap];refine List.Pairwise.imp ?_ h1;intro a b c x hx y hy;rw[(Sd hr hx).1,(Sd hr hy).1];exact c
theorem Vm (l:List α) (f:α->Option β) (q:β->Bool):(l.filterMap f).filter q=l.filterMap (λa=>(f a).filter q):=by
 induction l with
 |nil=>rfl
 |cons a l ih=>
  cases h:f a with
  |none=>simp[h,ih]
  |some b=>
   cases hq:q b with
   |true=>simp[h,hq,ih,Option.filter]
   |false=>simp[h,hq,ih,Option.filter]
theorem fL (r:List A4) (hr:GI r) (h:nH r) (p:A4->Bool) (hp:∀y∈r,y.Page.Kind=2->LN (Di (Bw r))<=y.Page.Tx->p y=true):Di (Bw (r.filter p))=Di (Bw r):=by
 have hr':GI (r.filter p):=⟨by have:=BO p r;have:=hr.len;omega,λy hy=>hr.text y (AQ.1 hy).1,λy hy=>hr.seq y (AQ.1 hy).1,λy hy=>hr.tx y (AQ.1 hy).1,λy hy=>hr.cnt y (AQ.1 hy).1,λy hy=>hr.part y (AQ.1 hy).1⟩;have s1:=Hi r (λy hy=>(hr.tx y hy).1);have s2:=Hi (r.filter p) (λy hy=>(hr'.tx y hy).1);have e1:Bw (r.filter p)=(Dw r).filterMap (Ih (r.filter p)):=by
  have hn:Dw (r.filter p)=(Dw r).filter (λt=>decide (t∈Dw (r.filter p))):=by
   refine Vu s2.1 (List.Pairwise.filter _ s1.1) λx=>?_
   rw[AQ,A6];refine⟨λhx=>⟨?_,hx⟩,λhx=>hx.2⟩;obtain⟨y,hy,hk,rfl⟩:=(s2.2.1 x).1 hx;exact(s1.2.1 _).2 ⟨y,(AQ.1 hy).1,hk,rfl⟩
  unfold Bw
  conv=>lhs;rw[hn]
  rw[List.filterMap_filter]
  refine Z0 λt ht=>?_
  by_cases e:t∈Dw (r.filter p)
  ·rw[Ax (by simpa using e)]
  rw[Az (by simpa using e)];symm
  refine tC λy hy hk f=>e ((s2.2.1 t).2 ⟨y,hy,hk,f⟩)
 have keep:∀t,LN (Di (Bw r))<=t->Ih (r.filter p) t=Ih r t:=by
  intro t ht
  refine Tm λpart cnt=>?_
  unfold Rc;rw[List.find?_filter]
  refine pO λy hy=>?_
  cases hm:nU t part cnt y with
  |false=>simp
  |true=>
   obtain⟨a1,a2,_⟩:=Wb hm;rw[hp y hy a1 (by omega)];rfl
 have e2:Bw (r.filter p)=(Bw r).filter λx=>(Ih (r.filter p) x.Num).isSome:=by
  rw[e1];unfold Bw;rw[Vm]
  refine Z0 λt ht=>?_
  cases hx:Ih (r.filter p) t with
  |some x=>
   have h1:=jO h p hx;rw[h1];have h2:=(Sd hr h1).1;simp only[Option.filter,h2,hx,ST,BR]
  |none=>
   cases hy:Ih r t with
   |none=>rfl
   |some x=>
    have h2:=(Sd hr hy).1;simp only[Option.filter,h2,hx,EH,BB,EM]
 obtain⟨A,h1,h2,h3⟩:=jV (Bw r);have a:=pK r hr;have hB:(Di (Bw r)).filter (λx=>(Ih (r.filter p) x.Num).isSome)=Di (Bw r):=by
  rw[GK];intro x hx;have g:=(Sg (Bw r)).2 x hx;obtain⟨t,_,ht⟩:=List.mem_filterMap.1 g;have hn:=(Sd hr ht).1;have i:LN (Di (Bw r))<=x.Num:=by
   rw[h1,Ba]at a
   cases hb:Di (Bw r)with
   |nil=>rw[hb]at hx;cases hx
   |cons b B=>
    have c:=a.2.1;rw[hb,Cw]at c;rw[hb,B7]at hx;simp only[LN]
    rcases hx with rfl|hx
    ·exact EN _
    have:=c.1 x hx;omega
  rw[keep _ i,hn,ht];rfl
 rw[e2]
 conv=>lhs;rw[h1]
 rw[AO,hB];refine wC _ _ (λd=>h2 λhA=>?_) h3;rw[hA]at d;exact d rfl
theorem Wl:∀n:Nat,∃ds x,C6 n=ds++ [x]/\(∀d∈ds,128<=d.toNat)/\x.toNat<128/\FC (C6 n)=n
 |n=>by
  by_cases h:n<=127
  ·rw[Ka h];have:(UInt8.ofNat n).toNat=n:=by rw[Hs];omega
   exact⟨[],_,rfl,by simp,by omega,by simp only[FC];omega⟩
  obtain⟨ds,x,h1,h2,h3,h4⟩:=Wl (n/128);rw[RV h];have e:(UInt8.ofNat (n %128+128)).toNat=n %128+128:=by rw[Hs];omega
  refine⟨UInt8.ofNat (n %128+128)::ds,x,by rw[h1];rfl,?_,h3,?_⟩
  ·intro d hd
   rcases B7.1 hd with rfl|hd
   ·omega
   exact h2 d hd
  simp only[FC];rw[h4,e];omega
termination_by n=>n
decreasing_by omega
theorem IS (h:n<=1000000000):1<=(C6 n).length/\(C6 n).length<=5:=by
 have a:∀(k n:Nat),n<128^(k+1)->(C6 n).length<=k+1:=by
  intro k
  induction k with
  |zero=>intro n hn;rw[Ka (by omega)];simp
  |succ k ih=>
   intro n hn;by_cases h:n<=127
   ·rw[Ka h];simp
   rw[RV h,Ay];have:=ih (n/128) (by rw[Xy]at hn;omega);omega
 refine⟨?_,a 4 n (by omega)⟩;obtain⟨ds,x,h1,_⟩:=Wl n;rw[h1];simp
theorem nB (t:ByteArray) (ht:(L t).length<=20000) (a n:Nat) (hn:n<=1000000000) (rest:List UInt8) (h:(L t).drop a=C6 n++rest):Ko t (a:Int)=some ((n:Int),((a+(C6 n).length:Nat):Int),true):=by
 obtain⟨ds,x,hD,u,hx,hv⟩:=Wl n;obtain⟨h1,h2⟩:=IS hn;have h0:(L t).length-a=(C6 n).length+rest.length:=by
  have:=Cb List.length h;rw[BC,Ag]at this;exact this
 have h3:(C6 n).length=ds.length+1:=by rw[hD];simp
 have f:∀k,k<=(C6 n).length->((L t).drop a).take k=(C6 n).take k:=λk hk=>by rw[h,FX hk]
 have v:∀(m k:Nat),k+m=ds.length->Ar (λs:Int×Int×Int=>DW t (a:Int) s.1 s.2.1 s.2.2) (((FC ((C6 n).take k):Nat):Int),((128^k:Nat):Int),((a+k:Nat):Int))=some (.inr ((n:Int),((a+(C6 n).length:Nat):Int),true)):=by
  intro m
  induction m with
  |zero=>
   intro k hk;have g:k=ds.length:=by omega
   suffices d:DW t (a:Int) ((FC ((C6 n).take k):Nat):Int) ((128^k:Nat):Int) ((a+k:Nat):Int)=some (.inr (.inr ((n:Int),((a+(C6 n).length:Nat):Int),true))) by
    rw[A8];simp only[d]
   simp only[DW];have e:a+k<(L t).length:=by omega
   rw[CD (b:=5) (by omega) (by omega),BN,Ad (by omega:((a+k:Nat):Int)<(a:Int)+5),Ad (by omega:((a+k:Nat):Int)<((L t).length:Int))];simp only[Ae,Aa,Fu t e];have hb:(L t)[a+k]=x:=by
    have:((L t).drop a)[k]?=some x:=by
     rw[h,hD,AR (by simp;omega),g,AY (A3 _),Sc];rfl
    rw[BS,Ab e]at this;injection this
   rw[hb];have c:=Oh ds [x];rw[<-hD,hv]at c;have w:(C6 n).take k=ds:=by rw[hD,g,QX rfl]
   rw[w];simp only[FC,Nat.mul_zero,GO]at c;have hp:=gM k (by omega);have hw:IntKind.i64.wrap (x.toNat:Int)=x.toNat:=OV (by omega) (by omega);have l:x.toNat %128*128^k<=127*268435456:=bZ (by omega) hp;have emul:ml ((x.toNat %128:Nat):Int) ((128^k:Nat):Int)=((x.toNat %128*128^k:Nat):Int):=by
    have ec:((x.toNat %128:Nat):Int)*((128^k:Nat):Int)=((x.toNat %128*128^k:Nat):Int):=by norm_cast
    rw[Pn (by rw[ec];omega) (by rw[ec];omega),ec]
   have i:=X5 ds;rw[<-g]at i c;have enew:ad ((FC ds:Nat):Int) ((x.toNat %128*128^k:Nat):Int)=(n:Int):=by
    rw[CD (by omega) (by omega),c,qM (128^k)];omega
   rw[hw,fI,emul,enew,Ad (by omega:(x.toNat:Int)<128),Af (by omega:¬(n:Int)>1000000000),ad1 (by omega)];simp only[Ae,Ac];obtain⟨s,y,z⟩:=Jn n (by omega);rw[FV t (by omega) (by omega),y];simp only[Aa];have o:seq s (t.extract a (a+k+1))=true:=by
    rw[Ro,z,IX,show a+k+1-a=k+1 by omega,f _ (by omega),AS (by omega)];simp
   rw[o];simp only[Aj,Ac];rw[show a+k+1=a+(C6 n).length by omega]
  |succ m ih=>
   intro k hk;suffices d:DW t (a:Int) ((FC ((C6 n).take k):Nat):Int) ((128^k:Nat):Int) ((a+k:Nat):Int)=some (.inl (((FC ((C6 n).take (k+1)):Nat):Int),((128^(k+1):Nat):Int),((a+(k+1):Nat):Int))) by
    rw[A8];simp only[d];exact ih (k+1) (by omega)
   simp only[DW];have e:a+k<(L t).length:=by omega
   rw[CD (b:=5) (by omega) (by omega),BN,Ad (by omega:((a+k:Nat):Int)<(a:Int)+5),Ad (by omega:((a+k:Nat):Int)<((L t).length:Int))];simp only[Ae,Aa,Fu t e];have j:k<ds.length:=by omega
   have p:(C6 n)[k]?=some ds[k]:=by rw[hD,AR j,Ab j]
   have hb:(L t)[a+k]=ds[k]:=by
    have:((L t).drop a)[k]?=some ds[k]:=by
     rw[h,AR (by omega),p]
    rw[BS,Ab e]at this;injection this
   rw[hb];have h128:=u _ (AD j);have hx:=jN ds[k];have q:(C6 n).take (k+1)=(C6 n).take k++ [ds[k]]:=by rw[Em,p];rfl
   have r:((C6 n).take k).length=k:=by rw[AH];omega
   have c:=Oh ((C6 n).take k) [ds[k]];rw[<-q,r]at c;have i:=X5 ((C6 n).take k);rw[r]at i;have hp:=gM k (by omega);generalize ds[k]=x at hx q c h128;simp only[FC,Nat.mul_zero,GO]at c;have hw:IntKind.i64.wrap (x.toNat:Int)=x.toNat:=OV (by omega) (by omega);have l:x.toNat %128*128^k<=127*268435456:=bZ (by omega) hp;have emul:ml ((x.toNat %128:Nat):Int) ((128^k:Nat):Int)=((x.toNat %128*128^k:Nat):Int):=by
    have ec:((x.toNat %128:Nat):Int)*((128^k:Nat):Int)=((x.toNat %128*128^k:Nat):Int):=by norm_cast
    rw[Pn (by rw[ec];omega) (by rw[ec];omega),ec]
   have enew:ad (((FC ((C6 n).take k):Nat)):Int) ((x.toNat %128*128^k:Nat):Int)=((FC ((C6 n).take (k+1)):Nat):Int):=by
    rw[CD (by omega) (by omega),c,qM (128^k)];omega
   have e1:ml ((128^k:Nat):Int) 128=((128^(k+1):Nat):Int):=by
    rw[Pn (by omega) (by omega),Xy];norm_cast
   rw[hw,fI,emul,enew,Af (by omega:¬(x.toNat:Int)<128),e1,ad1 (by omega)];rfl
 unfold Ko;rw[BN,EY,Ad (by omega)];simp only[Aa,Aj,Ac];have k0:=v ds.length 0 (by omega);simp only[J4,FC,Nat.pow_zero,GO]at k0;rw[show((0:Nat):Int)=0 from rfl,show((1:Nat):Int)=1 from rfl]at k0;rw[k0];rfl
theorem LF (t:ByteArray) (ht:(L t).length<=20000) (a n:Nat) (hn:n<=1000000000) (rest:List UInt8) (h:(L t).drop a=C6 n++rest):D0 (EL.mk t (a:Int) false)=some ((n:Int),EL.mk t ((a+(C6 n).length:Nat):Int) false):=by
 rw[Ku t _ ht (nB t ht a n hn rest h)];rfl
def oR (r:CK):List UInt8:=UInt8.ofNat (16*r.Kind+r.Vol).toNat::(C6 r.Arg.toNat++C6 r.Chunk.toNat)
theorem gI {r:CK} (h:HE r=true):1<=r.Kind/\r.Kind<=5/\0<=r.Vol/\r.Vol<=9/\0<=r.Arg/\r.Arg<=1000000000/\0<=r.Chunk/\r.Chunk<=1000000000:=by
 unfold HE at h
 cases k1:(r.Kind==1)with
 |true=>
  have e1:r.Kind=1:=by simpa using k1
  rw[k1]at h;simp at h;omega
 |false=>
  rw[k1]at h;cases k2:(r.Kind==2)<;>cases k3:(r.Kind==3)<;>cases k4:(r.Kind==4)<;>rw[k2,k3,k4]at h<;>simp at h k2 k3 k4<;>omega
theorem f0 {r:CK} (h:HE r=true):∃t,Nm r=some (t,true)/\L t=oR r:=by
 obtain⟨h1,h2,h3,h4,h5,h6,h7,h8⟩:=gI h;obtain⟨sa,a1,a2⟩:=Jn r.Arg.toNat (by omega);obtain⟨sc,c1,c2⟩:=Jn r.Chunk.toNat (by omega);rw[By h5]at a1;rw[By h7]at c1;unfold Nm Ki;rw[Nn,h];simp only[Aa,Aj,Ac];rw[Pn (by omega) (by omega),CD (by omega) (by omega),a1];simp only[Aa];have l1:=(IS (show r.Arg.toNat<=1000000000 by omega)).2;have l2:=(IS (show r.Chunk.toNat<=1000000000 by omega)).2;have hb:∀x,(L (EX [x])).length=1:=Ri;rw[Gc _ _ (by rw[hb,a2];omega),c1];simp only[Aa];rw[Gc _ _ (by rw[DG,Ag,hb,a2,c2];omega)];simp only[Aa];refine⟨_,rfl,?_⟩;rw[DG,DG,Kd,a2,c2];unfold oR;have hw:IntKind.u8.wrap (16*r.Kind+r.Vol)=16*r.Kind+r.Vol:=by
  rw[IntKind.wrap_u8];omega
 simp only[BE,qN,hw,Ct,BF,AA]
def H0 (l:List CK):List UInt8:=l.flatMap oR
theorem wS {r:CK} (h:HE r=true):3<=(oR r).length/\(oR r).length<=11:=by
 obtain⟨h1,h2,h3,h4,h5,h6,h7,h8⟩:=gI h;have l1:=IS (show r.Arg.toNat<=1000000000 by omega);have l2:=IS (show r.Chunk.toNat<=1000000000 by omega);unfold oR;rw[Ay,Ag];omega
theorem dK (t:ByteArray) (ht:(L t).length<=20000):∀(l:List CK) (a:Nat) (b:List CK),(∀r∈l,HE r=true)->(L t).drop a=H0 l->a<=(L t).length->b.length<=a->Ar (λs:List CK×ByteArray×Int×Bool=>DQ t s.1 s.2.1 s.2.2.1 s.2.2.2) (b,t,(a:Int),false)=some (.inl (b++l))
 |[],a,b,hl,h,ha,ho=>by
  have:(L t).length=a:=by
   have:=Cb List.length h;rw[BC]at this;simp[H0]at this;omega
  rw[A8];simp only[DQ];rw[BN,Af (by omega),A0];rfl
 |r::l,a,b,hl,h,ha,ho=>by
  have hr:=hl r (by simp);obtain⟨h1,h2,h3,h4,h5,h6,h7,h8⟩:=gI hr;have h':(L t).drop a=UInt8.ofNat (16*r.Kind+r.Vol).toNat::(C6 r.Arg.toNat++(C6 r.Chunk.toNat++H0 l)):=by
   rw[h];simp only[H0,It,oR,BF,Au]
  have c:a<(L t).length:=by
   have:=Cb List.length h';rw[BC,Ay]at this;omega
  have d:=Bf c;rw[h']at d
  injection d with hx hd
  rw[A8];simp only[DQ];rw[BN,Ad (by omega)];simp only[Ae,Aa,AC];rw[Fu t c,ad1 (by omega)];simp only[Aa];rw[LF t ht (a+1) r.Arg.toNat (by omega) _ hd.symm];simp only[Aa];have e:(L t).drop (a+1+(C6 r.Arg.toNat).length)=C6 r.Chunk.toNat++H0 l:=by
   rw[<-CT,<-hd,Fo rfl]
  rw[LF t ht _ r.Chunk.toNat (by omega) _ e];simp only[Aa,Ac];have hw:IntKind.i64.wrap (((L t)[a]).toNat:Int)=16*r.Kind+r.Vol:=by
   rw[<-hx,Hs];rw[OV (by omega) (by omega)];omega
  have e1:qu (IntKind.i64.wrap (((L t)[a]).toNat:Int)) 16=r.Kind:=by
   rw[hw];unfold qu;rw[Int.tdiv_eq_ediv_of_nonneg (by omega),OV (by omega) (by omega)];omega
  have e2:Int.tmod (IntKind.i64.wrap (((L t)[a]).toNat:Int)) 16=r.Vol:=by
   rw[hw,Lj (by omega)];omega
  rw[e1,e2,By h5,By h7];have f:CK.mk r.Kind r.Vol r.Arg r.Chunk=r:=rfl;rw[f,Nn,hr];simp only[Aa,Aj,Ac];rw[Cg (by simp only[Ak];omega)];simp only[Aa];have l1:=IS (show r.Arg.toNat<=1000000000 by omega);have l2:=IS (show r.Chunk.toNat<=1000000000 by omega);have g:(L t).drop (a+1+(C6 r.Arg.toNat).length+(C6 r.Chunk.toNat).length)=H0 l:=by
   rw[<-CT,e,Fo rfl]
  have i:a+1+(C6 r.Arg.toNat).length+(C6 r.Chunk.toNat).length<=(L t).length:=by
   have h9:=Cb List.length h';rw[BC,Ay,Ag,Ag]at h9;omega
  have:=dK t ht l _ (b++ [r]) (λx hx=>hl x (by simp[hx])) g i (by simp;omega);rw[Au,Ct]at this;exact this
theorem oQ {l:List CK} (hl:∀r∈l,HE r=true) (a:(H0 l).length<=20000):dL (bs (H0 l))=some l:=by
 have h:=dK (bs (H0 l)) (by rw[E7];exact a) l 0 [] hl (by rw[E7];rfl) (by omega) (by simp);unfold dL ID;have h':Ar (λs:List CK×ByteArray×Int×Bool=>DQ (bs (H0 l)) s.1 s.2.1 s.2.2.1 s.2.2.2) ([],bs (H0 l),0,false)=some (.inl ([]++l)):=h;rw[h',AA];rfl
theorem qD {v:Int} (u:ByteArray) (hu:(L u).length<=20000) (hv:Oq u=some v):L3 (u++four v)=some (u,true):=by
 have a:(L (u++four v)).length=(L u).length+4:=by rw[DG,Ag,Vj]
 have e4:sb (FY (u++four v)) 4=((L u).length:Int):=by rw[BN,a,Cx (by omega) (by omega)];omega
 unfold L3;rw[e4,Af (by omega),Af (by omega)];simp only[Ac];have c:sub (u++four v) 0 ((L u).length:Int)=some u:=by
  rw[show(0:Int)=((0:Nat):Int)from rfl,FV _ (by omega) (by omega)];congr 1;apply IW;rw[IX,DG];simp
 have b:sub (u++four v) ((L u).length:Int) (FY (u++four v))=some (four v):=by
  rw[BN,FV _ (by omega) (by omega)];congr 1;apply IW;rw[IX,a,DG,Fo rfl,AS (by rw[Vj];omega)]
 rw[c,b];simp only[Aa];rw[hv];have h3:Lz v=some (four v):=rfl;simp only[Aa,h3];have:seq (four v) (four v)=true:=by rw[JA];simp
 rw[this];rfl
def JJ (p:Page):Prop:=(p.Kind=1\/p.Kind=2)/\(1<=p.Seq/\p.Seq<=1000000000)/\(1<=p.Tx/\p.Tx<=1000000000)/\(1<=p.Count/\p.Count<=9)/\(0<=p.Part/\p.Part<p.Count)/\(L p.Text).length<=90/\(p.Kind=2\/p.Count=1)
theorem Tu (p:Page):∃v,KG p=some v/\(v=true↔JJ p):=by
 unfold KG JJ;rw[EY,EY,EY,EY,BN];simp only[Aa];by_cases h1:1<=p.Kind/\p.Kind<=2
 ·rw[Ad h1];by_cases h2:1<=p.Seq/\p.Seq<=1000000000
  ·rw[Ad h2];by_cases h3:1<=p.Tx/\p.Tx<=1000000000
   ·rw[Ad h3];by_cases h4:1<=p.Count/\p.Count<=9
    ·rw[Ad h4];simp only[Aj,Ac];rw[Cx (by omega) (by omega),EY];simp only[Aa];by_cases h5:0<=p.Part/\p.Part<=p.Count-1
     ·rw[Ad h5];simp only[Aj,Ac,Aa];by_cases h6:((L p.Text).length:Int)>90
      ·rw[Ad h6];exact⟨_,rfl,by simp only[BB,SC];omega⟩
      rw[Af h6];simp only[Ac];by_cases h7:p.Kind=2
      ·rw[show(p.Kind==2)=true by simpa using h7];exact⟨_,rfl,by simp only[true_iff];omega⟩
      rw[show(p.Kind==2)=false by simpa using h7];refine⟨_,rfl,?_⟩;rw[Ck];omega
     rw[Af h5];exact⟨_,rfl,by simp only[BB,SC];omega⟩
    rw[Af h4];exact⟨_,rfl,by simp only[BB,SC];omega⟩
   rw[Af h3];exact⟨_,rfl,by simp only[BB,SC];omega⟩
  rw[Af h2];exact⟨_,rfl,by simp only[BB,SC];omega⟩
 rw[Af h1];exact⟨_,rfl,by simp only[BB,SC];omega⟩
theorem xE (h:JJ p):KG p=some true:=by
 obtain⟨v,h1,h2⟩:=Tu p;rw[h1,h2.2 h]
theorem tU (h:JJ p):∃t,EK p=some (t,true)/\1<=(L t).length/\(L t).length<=120/\FL t=some (p,true):=by
 obtain⟨h1,h2,h3,h4,h5,h6,h7⟩:=h
 let k:UInt8:=UInt8.ofNat p.Kind.toNat
 have hk:(k.toNat:Int)=p.Kind:=by
  show((UInt8.ofNat p.Kind.toNat).toNat:Int)=p.Kind;rw[Hs];omega
 let u:=bs ([k]++C6 p.Seq.toNat++C6 p.Tx.toNat++C6 p.Part.toNat++C6 p.Count.toNat++L p.Text)
 have hu:L u=[k]++C6 p.Seq.toNat++C6 p.Tx.toNat++C6 p.Part.toNat++C6 p.Count.toNat++L p.Text:=E7 _;have l1:=IS (show p.Seq.toNat<=1000000000 by omega);have l2:=IS (show p.Tx.toNat<=1000000000 by omega);have l3:=IS (show p.Part.toNat<=1000000000 by omega);have l4:=IS (show p.Count.toNat<=1000000000 by omega);have e:(L u).length=1+(C6 p.Seq.toNat).length+(C6 p.Tx.toNat).length+(C6 p.Part.toNat).length+(C6 p.Count.toNat).length+(L p.Text).length:=by
  rw[hu];simp only[Ag,Ak]
 have l5:(L u).length<=116:=by omega
 obtain⟨v,hv,hs⟩:=(SK u).2 (by omega);have c:=xE ⟨h1,h2,h3,h4,h5,h6,h7⟩;have a:=Xf p u k p.Seq.toNat p.Tx.toNat p.Part.toNat p.Count.toNat c hk.symm (by omega) (by omega) (by omega) (by omega) (by omega) (by omega) (by omega) (by omega) (by omega) hu;rw[hs]at a;refine⟨u++four v,a,by rw[DG,Ag];omega,by rw[DG,Ag,Vj];omega,?_⟩;unfold FL;rw[qD u (by omega) hv];simp only[Aa,Aj,Ac];rw[BN,Af (by omega)];have d0:(L u).drop 1=C6 p.Seq.toNat++(C6 p.Tx.toNat++(C6 p.Part.toNat++(C6 p.Count.toNat++L p.Text))):=by
  rw[hu];simp only[Au,Ct,BF,List.drop_succ_cons,List.drop_zero,AA]
 rw[show(1:Int)=((1:Nat):Int)from rfl,LF u (by omega) 1 p.Seq.toNat (by omega) _ d0];simp only[Aa];have d1:(L u).drop (1+(C6 p.Seq.toNat).length)=C6 p.Tx.toNat++(C6 p.Part.toNat++(C6 p.Count.toNat++L p.Text)):=by rw[<-CT,d0,Fo rfl]
 rw[LF u (by omega) _ p.Tx.toNat (by omega) _ d1];simp only[Aa];have d2:(L u).drop (1+(C6 p.Seq.toNat).length+(C6 p.Tx.toNat).length)=C6 p.Part.toNat++(C6 p.Count.toNat++L p.Text):=by rw[<-CT,d1,Fo rfl]
 rw[LF u (by omega) _ p.Part.toNat (by omega) _ d2];simp only[Aa];have d3:(L u).drop (1+(C6 p.Seq.toNat).length+(C6 p.Tx.toNat).length+(C6 p.Part.toNat).length)=C6 p.Count.toNat++L p.Text:=by rw[<-CT,d2,Fo rfl]
 rw[LF u (by omega) _ p.Count.toNat (by omega) _ d3];simp only[Aa,Ac];have d4:(L u).drop (1+(C6 p.Seq.toNat).length+(C6 p.Tx.toNat).length+(C6 p.Part.toNat).length+(C6 p.Count.toNat).length)=L p.Text:=by rw[<-CT,d3,Fo rfl]
 have d:sx u 0=some ((k.toNat:Nat):Int):=by
  rw[show(0:Int)=((0:Nat):Int)from rfl,Fu u (by omega)];have:(L u)[0]?=some k:=by rw[hu];simp
  rw[Ab (by omega)]at this
  injection this with this
  rw[this]
 rw[d];simp only[Aa];have b:sub u ((1+(C6 p.Seq.toNat).length+(C6 p.Tx.toNat).length+(C6 p.Part.toNat).length+(C6 p.Count.toNat).length:Nat):Int) ((L u).length:Int)=some p.Text:=by
  rw[FV u (by omega) (by omega)];congr 1;apply IW;rw[IX,d4,AS (by omega)]
 rw[b];simp only[Aa];rw[OV (by omega) (by omega),hk,By (by omega),By (by omega),By (by omega),By (by omega)];have hp:Page.mk p.Kind p.Seq p.Tx p.Part p.Count p.Text=p:=rfl;rw[hp,a];simp only[Aa,Aj,Ac];have:seq (u++four v) (u++four v)=true:=by rw[JA];simp
 rw[this];rfl
theorem wZ (h:¬JJ p):EK p=some (bs [],false):=by
 obtain⟨v,h1,h2⟩:=Tu p;unfold EK;rw[h1]
 cases v with
 |true=>exact absurd (h2.1 rfl) h
 |false=>rfl
theorem tJ (s:ByteArray) (f a:Nat) (hf:f<a) (ha:a<=(L s).length) (hs:(L s).length<=64):∃k:Nat,N9 s (f:Int) (a:Int)=some (k:Int)/\k<=31/\a+k<=(L s).length/\∀j,j<k->(L s)[f+j]?=(L s)[a+j]? :=by
 obtain⟨b,h1,k,rfl,h2,h3,h4⟩:=Bb (body:=λn:Int=>HX s (f:Int) (a:Int) n) (λ(_:Unit) i=>i) 31 (λi _=>a+i<=(L s).length/\∀j,j<i->(L s)[f+j]?=(L s)[a+j]?) (λb=>∃k:Nat,b=(k:Int)/\k<=31/\a+k<=(L s).length/\∀j,j<k->(L s)[f+j]?=(L s)[a+j]?)
  (λ_ i hi hs=>by
   simp only[HX];rw[Ad (by omega:(i:Int)<31),Ae,CD (by omega) (by omega),CD (by omega) (by omega),BN];by_cases c:a+i<(L s).length
   ·rw[Ad (by omega:((a:Int)+(i:Int))<((L s).length:Int)),Ae];have e1:((f:Int)+(i:Int))=((f+i:Nat):Int):=by omega
    have e2:((a:Int)+(i:Int))=((a+i:Nat):Int):=by omega
    rw[e1,e2,Fu s (by omega),Fu s c];simp only[Aa]
    cases hq:((((L s)[f+i]).toNat:Int)==(((L s)[a+i]).toNat:Int))with
    |true=>
     simp only[Ae];rw[ad1 (by omega)];refine .inl ⟨(),rfl,by omega,λj hj=>?_⟩;by_cases e:j=i
     ·subst e;rw[Ab (by omega),Ab c];congr 1;apply UInt8.toNat_inj.1;have:(((L s)[f+j]).toNat:Int)=(((L s)[a+j]).toNat:Int):=by simpa using hq
      omega
     exact hs.2 j (by omega)
    |false=>exact .inr ⟨_,rfl,i,rfl,by omega,hs.1,hs.2⟩
   rw[Af (by omega:¬((a:Int)+(i:Int))<((L s).length:Int)),Ac]
   exact .inr ⟨_,rfl,i,rfl,by omega,hs.1,hs.2⟩)
  (λ_ hs=>by
   simp only[HX];rw[Af (by omega:¬((31:Nat):Int)<31),Ac]
   exact⟨_,rfl,31,rfl,by omega,hs.1,hs.2⟩) (s:=()) ⟨by omega,λj hj=>by omega⟩
 refine⟨k,?_,h2,h3,h4⟩;unfold N9;have h1':Ar (λn:Int=>HX s (f:Int) (a:Int) n) 0=some (k:Int):=h1;rw[h1'];rfl
def zS (s:ByteArray) (a z b:Nat):Prop:=z<=31/\a+z<=(L s).length/\(z=0\/(4<=z/\1<=b/\b<=a/\∀j,j<z->(L s)[a-b+j]?=(L s)[a+j]?))
theorem wI (s:ByteArray) (a:Nat) (ha:a<=(L s).length) (hs:(L s).length<=64):∃z b:Nat,Ar (λq:Int×Int×Int=>ER s (a:Int) q.1 q.2.1 q.2.2) (0,0,sb (a:Int) 1)=some ((z:Int),(b:Int))/\zS s a z b:=by
 rw[Cx (by omega) (by omega)];obtain⟨r,h1,z,b,rfl,h2⟩:=Bb (body:=λq:Int×Int×Int=>ER s (a:Int) q.1 q.2.1 q.2.2) (λ(q:Nat×Nat) i=>((q.1:Int),(q.2:Int),(a:Int)-1-i)) a (λi q=>zS s a q.1 q.2) (λr=>∃z b:Nat,r=((z:Int),(b:Int))/\zS s a z b)
  (λq i hi hq=>by
   obtain⟨k,m1,m2,m3,m4⟩:=tJ s (a-1-i) a (by omega) ha hs;have e1:((a:Int)-1-(i:Int))=((a-1-i:Nat):Int):=by omega
   simp only[ER,e1];rw[Ad (by omega:(((a-1-i:Nat)):Int)>=0),Ae,m1];simp only[Aa];rw[Cx (by omega) (by omega),Cx (by omega) (by omega)];refine .inl ?_;have e2:(((a-1-i:Nat):Int)-1)=(a:Int)-1-((i+1:Nat):Int):=by omega
   have e3:((a:Int)-((a-1-i:Nat):Int))=((1+i:Nat):Int):=by omega
   rw[e2,e3];by_cases h4:4<=k
   ·rw[Ad (by omega:(k:Int)>=4),Ae];by_cases h5:q.1<k
    ·rw[Ad (by omega:(k:Int)>(q.1:Int))];exact⟨(k,1+i),rfl,m2,m3,.inr ⟨h4,by omega,by omega,λj hj=>by rw[show a-(1+i)=a-1-i by omega];exact m4 j hj⟩⟩
    rw[Af (by omega:¬(k:Int)>(q.1:Int))];exact⟨q,rfl,hq⟩
   rw[Af (by omega:¬(k:Int)>=4),Ac]
   exact⟨q,rfl,hq⟩)
  (λq hq=>by
   simp only[ER];rw[Af (by omega:¬((a:Int)-1-(a:Int))>=0),Ac]
   exact⟨_,rfl,q.1,q.2,rfl,hq⟩) (s:=(0,0)) ⟨by omega,by omega,.inl rfl⟩
 have e0:(((0:Nat):Int),((0:Nat):Int),(a:Int)-1-0)=((0:Int),(0:Int),(a:Int)-1):=by simp
 simp only[e0]at h1;exact⟨z,b,h1,h2⟩
def Vp:Nat->Nat->List UInt8->List UInt8
 |0,_,out=>out
 |n+1,b,out=>Vp n b (out++ [(out[out.length-b]?).getD 0])
def Wi (a:List UInt8) (t:Br):List UInt8:=if t.Back=0 then a++L t.Text else Vp t.Size.toNat t.Back.toNat a
def FM (l:List Br):List UInt8:=l.foldl Wi []
def okT (a:List UInt8) (t:Br):Prop:=(t.Back=0/\t.Size=0/\1<=(L t.Text).length/\(L t.Text).length<=31)\/(1<=t.Back/\t.Back<=(a.length:Int)/\1<=t.Size/\t.Size<=31/\L t.Text=[])
def xY (l:List Br):Prop:=∀(i:Nat) t,l[i]?=some t->okT (FM (l.take i)) t
theorem Pi (l:List Br) (t:Br):FM (l++ [t])=Wi (FM l) t:=by unfold FM;rw[Ir];rfl
theorem gR {t:Br} (h:xY l) (ht:okT (FM l) t):xY (l++ [t]):=by
 intro i x hx;by_cases e:i<l.length
 ·rw[AR e]at hx;rw[FX (by omega)];exact h i x hx
 have hi:=(Ah.1 hx).1;rw[Ag,Ak]at hi;obtain rfl:i=l.length:=by omega
 rw[AY (A3 _),Sc]at hx;simp only[CW,Ao]at hx;rw[QX rfl,<-hx];exact ht
theorem xV {t:Br} (h:xY (l++ [t])):xY l/\okT (FM l) t:=by
 refine⟨λi x hx=>?_,?_⟩
 ·have hi:=(Ah.1 hx).1;have:=h i x (by rw[AR hi];exact hx);rw[FX (by omega)]at this;exact this
 have:=h l.length t (by rw[AY (A3 _),Sc];rfl);rw[QX rfl]at this;exact this
theorem eN (S:List UInt8):∀(n a b:Nat),a+n<=S.length->1<=b->b<=a->(∀j,j<n->S[a-b+j]?=S[a+j]?)->Vp n b (S.take a)=S.take (a+n)
 |0,a,b,_,_,_,_=>rfl
 |n+1,a,b,h1,h2,h3,h4=>by
  rw[Vp];have hl:(S.take a).length=a:=by rw[AH];omega
  have e:((S.take a)[(S.take a).length-b]?).getD 0=S[a]'(by omega):=by
   rw[hl,List.getElem?_take_of_lt (by omega)];have:=h4 0 (by omega);rw[GO,GO]at this;rw[this,Ab (by omega)];rfl
  rw[e,<-Aq (by omega),eN S n (a+1) b (by omega) h2 (by omega) (λj hj=>by
   have:=h4 (j+1) (by omega);rw[show a+1-b+j=a-b+(j+1) by omega,this];congr 1
   omega)]
  congr 1;omega
theorem mP:∀(n b:Nat) (a:List UInt8),(Vp n b a).length=a.length+n
 |0,_,_=>rfl
 |n+1,b,a=>by rw[Vp,mP];simp;omega
theorem Ui (s:ByteArray) (hs:(L s).length<=64):∀(n a:Nat) (c:List Br),(L s).length-a<=n->a<=(L s).length->c.length<=a->xY c->FM c=(L s).take a->∃l,Ar (λq:List Br×Int=>C5 s q.1 q.2) (c,(a:Int))=some l/\xY l/\FM l=L s/\l.length<=64
 |n,a,c,hn,ha,h,g,d=>by
  by_cases i:a<(L s).length
  ·obtain⟨z,b,h1,h2,h3,h4⟩:=wI s a ha hs
   match n,hn with
   |0,hn=>omega
   |n+1,hn=>
   have j:((L s).take a).length=a:=by rw[AH];omega
   rcases h4 with rfl|⟨h4,h5,h6,h7⟩
   ·
    have f:sub s (a:Int) ((a+1:Nat):Int)=some (s.extract a (a+1)):=FV s (by omega) (by omega);have hx:L (s.extract a (a+1))=[(L s)[a]]:=by
     rw[IX,show a+1-a=1 by omega,Bf i];rfl
    have fresh:∃l,Ar (λq:List Br×Int=>C5 s q.1 q.2) (c++ [Br.mk 0 0 (s.extract a (a+1))],((a+1:Nat):Int))=some l/\xY l/\FM l=L s/\l.length<=64:=
     Ui s hs n (a+1) _ (by omega) (by omega) (by simp;omega) (gR g (.inl ⟨rfl,rfl,by rw[hx];simp,by rw[hx];simp⟩)) (by
      rw[Pi];unfold Wi
      rw[Ax rfl,d,hx,Aq i])
    rcases H8 c with e|⟨out0,t0,e⟩
    ·subst e;obtain⟨l,f1,f2⟩:=fresh;refine⟨l,?_,f2⟩;rw[A8];have hb:C5 s [] (a:Int)=some (.inl ([Br.mk 0 0 (s.extract a (a+1))],((a+1:Nat):Int))):=by
      simp only[C5];rw[BN,Ad (by omega),Ae,h1];simp only[Aa];rw[show decide ((((0:Nat):Int))>0)=false from rfl,Ac,ad1 (by omega),f,show decide ((sb (ln ([]:List Br)) 1)>=0)=false from rfl];simp only[Ac,Aa];rw[Cg (by simp)];rfl
     simp only[hb];exact f1
    rw[H9]at e;subst e;obtain⟨ok0,okt0⟩:=xV g;have hol':out0.length+1<=a:=by simpa using h
    have p:ln (out0++ [t0])=((out0.length+1:Nat):Int):=by rw[BM];simp
    have k:sb (ln (out0++ [t0])) 1=(out0.length:Int):=by rw[p,Cx (by omega) (by omega)];omega
    have m:gi (out0++ [t0]) (out0.length:Int)=some t0:=F8 _ _;by_cases hm:t0.Back=0/\(L t0.Text).length<31
    ·have o:Iz t0.Text (s.extract a (a+1))=some (t0.Text++s.extract a (a+1)):=Gc _ _ (by rw[hx];simp;omega);have hb:C5 s (out0++ [t0]) (a:Int)=some (.inl (out0++ [Br.mk t0.Back t0.Size (t0.Text++s.extract a (a+1))],((a+1:Nat):Int))):=by
      simp only[C5];rw[BN,Ad (by omega),Ae,h1];simp only[Aa];rw[show decide ((((0:Nat):Int))>0)=false from rfl,Ac,ad1 (by omega),f,k,Ad (by omega),Ae,m];simp only[Aa];rw[show(t0.Back==0)=true by simpa using hm.1,Ae,BN,Ad (by omega)];simp only[Aa,Ae];rw[o];simp only[Aa];rw[Kg]
     have hX:L (t0.Text++s.extract a (a+1))=L t0.Text++ [(L s)[a]]:=by rw[DG,hx]
     obtain⟨l,f1,f2⟩:=Ui s hs n (a+1) (out0++ [Br.mk t0.Back t0.Size (t0.Text++s.extract a (a+1))]) (by omega) (by omega) (by simp at h⊢;omega) (gR ok0 (by
      rcases okt0 with⟨k1,k2,k3,k4⟩|⟨k1,_⟩
      ·exact .inl ⟨k1,k2,by rw[hX];simp,by rw[hX];simp;omega⟩
      ·omega)) (by
      rw[Pi]at d⊢;unfold Wi at d⊢;rw[Ax hm.1]at d⊢
      rw[hX,<-Au,d,Aq i])
     refine⟨l,?_,f2⟩;rw[A8];simp only[hb];exact f1
    have hb:C5 s (out0++ [t0]) (a:Int)=some (.inl (out0++ [t0]++ [Br.mk 0 0 (s.extract a (a+1))],((a+1:Nat):Int))):=by
     simp only[C5];rw[BN,Ad (by omega),Ae,h1];simp only[Aa];rw[show decide ((((0:Nat):Int))>0)=false from rfl,Ac,ad1 (by omega),f,k,Ad (by omega),Ae,m];simp only[Aa];have hj:(bif t0.Back==0 then some (decide (FY t0.Text<31))else some false:Option Bool)=some false:=by
      by_cases e0:t0.Back=0
      ·rw[show(t0.Back==0)=true by simpa using e0,Ae,BN,Af (by
       intro hh;exact hm ⟨e0,by omega⟩)]
      rw[show(t0.Back==0)=false by simpa using e0];rfl
     rw[hj];simp only[Aa,Ac];rw[Cg (by simp at h⊢;omega)];rfl
    obtain⟨l,f1,f2⟩:=fresh;refine⟨l,?_,f2⟩;rw[A8];simp only[hb];exact f1
   have hb:C5 s c (a:Int)=some (.inl (c++ [Br.mk (b:Int) (z:Int) (bs [])],((a+z:Nat):Int))):=by
    simp only[C5];rw[BN,Ad (by omega),Ae,h1];simp only[Aa];rw[Ad (by omega),Ae,Cg (by simp;omega),CD (by omega) (by omega)];simp only[Aa];congr 3
   obtain⟨l,f1,f2⟩:=Ui s hs n (a+z) (c++ [Br.mk (b:Int) (z:Int) (bs [])]) (by omega) h3 (by simp;omega) (gR g (.inr ⟨by simp;omega,by rw[d,j];simp;omega,by simp;omega,by simp;omega,E7 _⟩)) (by
    rw[Pi];unfold Wi;rw[Az (by simp;omega),d];simp only[Bh]
    exact eN (L s) z a b h3 h5 h6 h7)
   refine⟨l,?_,f2⟩;rw[A8];simp only[hb];exact f1
  have ea:a=(L s).length:=by omega
  refine⟨c,?_,g,by rw[d,ea,AN],by omega⟩;rw[A8];have hb:C5 s c (a:Int)=some (.inr c):=by
   simp only[C5];rw[BN,Af (by omega),Ac]
  simp only[hb]
theorem zY (s:ByteArray) (hs:(L s).length<=64):∃l,L4 s=some l/\xY l/\FM l=L s/\l.length<=64:=by
 obtain⟨l,h1,h2⟩:=Ui s hs (L s).length 0 [] (by omega) (by omega) (by simp) (λi t h=>by simp at h) (by simp[FM]);refine⟨l,?_,h2⟩;unfold L4;rw[BN,Af (by omega),Ac];have h1':Ar (λq:List Br×Int=>C5 s q.1 q.2) ([],0)=some l:=h1;rw[h1'];rfl
def MF (t:Br):List UInt8:=if t.Back=0 then UInt8.ofNat (L t.Text).length::L t.Text else [UInt8.ofNat (128+t.Size).toNat,UInt8.ofNat t.Back.toNat]
theorem r6 {t:Br} {a:List UInt8} (h:okT a t) (ho:a.length<=64):(MF t).length<=32:=by
 unfold MF
 rcases h with⟨h1,h2,h3,h4⟩|⟨h1,h2,h3,h4,h5⟩
 ·rw[Ax h1,Ay];omega
 rw[Az (by omega)];simp
theorem ABj {t:Br} {a:List UInt8} (h:okT a t):a.length<=(Wi a t).length:=by
 unfold Wi;split
 ·simp
 rw[mP];omega
theorem NG (h:xY l):∀i,i<=l.length->(FM (l.take i)).length<=(FM l).length:=by
 have step:∀i,i<l.length->(FM (l.take i)).length<=(FM (l.take (i+1))).length:=λi hi=>by
  rw[Aq hi,Pi];exact ABj (h i _ (Ab hi))
 intro i hi;have:∀k,i+k<=l.length->(FM (l.take i)).length<=(FM (l.take (i+k))).length:=by
  intro k
  induction k with
  |zero=>intro _;exact A3 _
  |succ k ih=>
   intro hk;exact GN (ih (by omega)) (step (i+k) (by omega))
 have:=this (l.length-i) (by omega);rw[show i+(l.length-i)=l.length by omega,AN]at this;exact this
theorem ACI (s:ByteArray) (hs:(L s).length<=64):∃l,xY l/\FM l=L s/\l.length<=64/\((Fi s=some (bs (122::l.flatMap MF),true))\/Fi s=some (bs (114::L s),true)):=by
 obtain⟨l,h1,h2,h3,h4⟩:=zY s hs;refine⟨l,h2,h3,h4,?_⟩;unfold Fi;rw[BN,Af (by omega),Ac,h1];simp only[Aa];obtain⟨b,q1,q2⟩:=Bb (body:=λq:ByteArray×Int=>ET l q.1 q.2) (λz i=>(z,i)) l.length (λi z=>L z=122::(l.take i).flatMap MF/\(L z).length<=1+32*i) (λz=>L z=122::l.flatMap MF/\(L z).length<=3000)
  (λz i hi hz=>by
   have hx:=Ab hi;have c:=h2 i _ hx;have a:=NG h2 i (by omega);rw[h3]at a;have d:=r6 c (by omega);have et:(l.take (i+1)).flatMap MF=(l.take i).flatMap MF++MF l[i]:=by rw[Aq hi,Re];simp
   simp only[ET,A7,Ad hi,Ae,A9,hx,Aa];rw[ad1 (by omega)];refine .inl ?_
   rcases c with⟨k1,k2,k3,k4⟩|⟨k1,k2,k3,k4,k5⟩
   ·rw[show(l[i].Back==0)=true by simpa using k1,Ae,Gc _ _ (by rw[Ri];omega)];simp only[Aa];rw[Gc _ _ (by rw[DG,Ag,Ri];omega)];have hL:L (z++EX [IntKind.u8.wrap (FY l[i].Text)]++l[i].Text)=L z++MF l[i]:=by
     rw[DG,DG,Kd];unfold MF;rw[Ax k1,BN];have:IntKind.u8.wrap ((L l[i].Text).length:Int)=((L l[i].Text).length:Int):=by rw[IntKind.wrap_u8];omega
     rw[this];simp
    refine⟨_,rfl,?_,?_⟩
    ·rw[hL,hz.1,et];rfl
    rw[hL,Ag];omega
   rw[show(l[i].Back==0)=false by simp;omega,Ac,CD (by omega) (by omega),Gc _ _ (by rw[N0];simp;omega)];have hL:L (z++EX [IntKind.u8.wrap (128+l[i].Size),IntKind.u8.wrap l[i].Back])=L z++MF l[i]:=by
    rw[DG,Kd];unfold MF;rw[Az (by omega)];have e1:IntKind.u8.wrap (128+l[i].Size)=128+l[i].Size:=by rw[IntKind.wrap_u8];omega
    have e2:IntKind.u8.wrap l[i].Back=l[i].Back:=by rw[IntKind.wrap_u8];omega
    rw[e1,e2];rfl
   refine⟨_,rfl,?_,?_⟩
   ·rw[hL,hz.1,et];rfl
   rw[hL,Ag];omega)
  (λz hz=>⟨z,by simp only[ET,A7,Al,Ap,Ac],by rw[hz.1,AN],by omega⟩) (s:=bs [122]) ⟨by rw[E7];rfl,by rw[E7];simp⟩
 have q1':Ar (λq:ByteArray×Int=>ET l q.1 q.2) (bs [122],0)=some b:=q1;rw[q1'];simp only[Aa];have hb:b=bs (122::l.flatMap MF):=IW (by rw[q2.1,E7])
 cases decide (ad ((L s).length:Int) 1<=FY b)with
 |false=>left;rw[hb];rfl
 |true=>
  right;simp only[Ae];rw[Gc _ _ (by rw[E7];simp;omega)];simp only[Aa];have e:bs [114]++s=bs (114::L s):=IW (by rw[DG,E7,E7];rfl);rw[e]
theorem VB (t:ByteArray) (ht:(L t).length<=10000):∀(l:List Br) (a:Nat) (c:List Br),(∀x∈l,∃o:List UInt8,okT o x/\o.length<=64)->(L t).drop a=l.flatMap MF->a<=(L t).length->c.length<=a->Ar (λq:List Br×Int=>Ci t q.1 q.2) (c,(a:Int))=some (.inl (c++l))
 |[],a,c,hl,h,ha,ho=>by
  have:(L t).length=a:=by
   have:=Cb List.length h;rw[BC]at this;simp at this;omega
  rw[A8];have hb:Ci t c (a:Int)=some (.inr (.inl c)):=by
   simp only[Ci];rw[BN,Af (by omega),Ac]
  simp only[hb];rw[A0]
 |x::l,a,c,hl,h,ha,ho=>by
  obtain⟨o,m,p⟩:=hl x (by simp);rw[It]at h;have d:=Cb List.length h;rw[BC,Ag]at d
  rcases m with⟨k1,k2,k3,k4⟩|⟨k1,k2,k3,k4,k5⟩
  ·have he:MF x=UInt8.ofNat (L x.Text).length::L x.Text:=by unfold MF;rw[Ax k1]
   rw[he]at h d;rw[Ay]at d;have f:a<(L t).length:=by omega
   have e:=Bf f;rw[h,BF]at e
   injection e with hx hd
   have i:(((L t)[a]).toNat:Int)=((L x.Text).length:Int):=by rw[<-hx,Hs];omega
   have k:sub t ((a+1:Nat):Int) ((a+1+(L x.Text).length:Nat):Int)=some x.Text:=by
    rw[FV t (by omega) (by omega)];congr 1;apply IW;rw[IX,<-hd,show a+1+(L x.Text).length-(a+1)=(L x.Text).length by omega,QX rfl]
   have hb:Ci t c (a:Int)=some (.inl (c++ [Br.mk 0 0 x.Text],((a+1+(L x.Text).length:Nat):Int))):=by
    simp only[Ci];rw[BN,Ad (by omega),Ae,Fu t f];simp only[Aa];rw[i,OV (by omega) (by omega),Af (by omega),Ac,ad1 (by omega),CD (by omega) (by omega),Af (by omega),Ac];rw[show((a+1:Nat):Int)+((L x.Text).length:Int)=((a+1+(L x.Text).length:Nat):Int) by omega,k];simp only[Aa];rw[Cg (by simp;omega)];rfl
   have j:Br.mk 0 0 x.Text=x:=by
    cases x with
    |mk b z u=>simp only at k1 k2;rw[k1,k2]
   rw[j]at hb;rw[A8];simp only[hb];have:=VB t ht l (a+1+(L x.Text).length) (c++ [x]) (λy hy=>hl y (by simp[hy])) (by rw[<-CT,<-hd,Fo rfl]) (by omega) (by simp;omega);rw[Au,Ct]at this;exact this
  have he:MF x=[UInt8.ofNat (128+x.Size).toNat,UInt8.ofNat x.Back.toNat]:=by unfold MF;rw[Az (by omega)]
  rw[he]at h d;simp only[Ay,Bp]at d;have f:a<(L t).length:=by omega
  have e:=Bf f;rw[h]at e;simp only[BF,AA]at e
  injection e with hx hd
  have g:=Bf (show a+1<(L t).length by omega);rw[<-hd]at g
  injection g with hx2 hd2
  have i:(((L t)[a]).toNat:Int)=128+x.Size:=by rw[<-hx,Hs];omega
  have n:(((L t)[a+1]'(by omega)).toNat:Int)=x.Back:=by rw[<-hx2,Hs];omega
  have hb:Ci t c (a:Int)=some (.inl (c++ [Br.mk x.Back x.Size (bs [])],((a+2:Nat):Int))):=by
   simp only[Ci];rw[BN,Ad (by omega),Ae,Fu t f];simp only[Aa];rw[i,OV (by omega) (by omega),Ad (by omega),Ae,CD (b:=2) (by omega) (by omega),Af (by omega),Ac,ad1 (by omega),Fu t (by omega)];simp only[Aa];rw[n,OV (by omega) (by omega),Cx (by omega) (by omega),Cg (by simp;omega)];simp only[Aa];rw[show 128+x.Size-128=x.Size by omega];rfl
  have j:Br.mk x.Back x.Size (bs [])=x:=by
   cases x with
   |mk b z u=>simp only at k5⊢;rw[show bs []=u from IW (by rw[k5,E7])]
  rw[j]at hb;rw[A8];simp only[hb];have:=VB t ht l (a+2) (c++ [x]) (λy hy=>hl y (by simp[hy])) (by rw[show a+2=a+1+1 by omega];exact hd2.symm) (by omega) (by simp;omega);rw[Au,Ct]at this;exact this
def H1 (l:List UInt8):List Int:=l.map λc=>(c.toNat:Int)
theorem tZ (l:List UInt8):L (EX (H1 l))=l:=by
 rw[Kd,H1,FU];have:((λn:Int=>UInt8.ofNat n.toNat)∘λc:UInt8=>(c.toNat:Int))=id:=by
  funext c;simp
 rw[this,TS]
theorem wG (b:ByteArray):oF b=H1 (L b):=rfl
theorem YH (x:Br) (b:1<=x.Back) (hs:0<=x.Size/\x.Size<=31):∀(n k:Nat) (a:List UInt8),(k:Int)+n=x.Size->x.Back<=(a.length:Int)->a.length+n<=1000->Ar (λq:List Int×Int=>Et x q.1 q.2) (H1 a,(k:Int))=some (H1 (Vp n x.Back.toNat a))
 |0,k,a,hk,c,ho=>by
  rw[A8];have hb:Et x (H1 a) (k:Int)=some (.inr (H1 a)):=by
   simp only[Et];rw[Af (by omega),Ac]
  simp only[hb];rfl
 |n+1,k,a,hk,c,ho=>by
  have d:ln (H1 a)=(a.length:Int):=by rw[BM,H1,AZ]
  have e:gi (H1 a) ((a.length:Int)-x.Back)=some (((a[a.length-x.Back.toNat]?).getD 0).toNat:Int):=by
   rw[show(a.length:Int)-x.Back=((a.length-x.Back.toNat:Nat):Int) by omega,A9,H1,AT,Ab (by omega)];rfl
  have hb:Et x (H1 a) (k:Int)=some (.inl (H1 (a++ [(a[a.length-x.Back.toNat]?).getD 0]),((k+1:Nat):Int))):=by
   simp only[Et];rw[Ad (by omega),Ae,d,Cx (by omega) (by omega),e];simp only[Aa];rw[Cg (by simp[H1];omega),ad1 (by omega)];simp only[Aa,H1,Cy,BE,qN]
  rw[A8];simp only[hb];rw[Vp];exact YH x b hs n (k+1) _ (by omega) (by simp;omega) (by simp;omega)
theorem oT (l:List Br) (hl:l.length<=64) (a:xY l) (h64:(FM l).length<=64):Ar (λq:List Int×Int=>Eu l q.1 q.2) ([],0)=some (.inl (H1 (FM l))):=by
 obtain⟨b,h1,h2⟩:=Bb (body:=λq:List Int×Int=>Eu l q.1 q.2) (λ(o:List UInt8) i=>(H1 o,i)) l.length (λi o=>o=FM (l.take i)) (λb=>b= .inl (H1 (FM l)))
  (λo i hi ho=>by
   have hx:=Ab hi;have hk:=a i _ hx;have hm:=NG a i (by omega);have d:=NG a (i+1) (by omega);have et:FM (l.take (i+1))=Wi o l[i]:=by rw[Aq hi,Pi,ho]
   rw[<-ho]at hk hm;rw[et]at d
   have c:∀q:List UInt8,ln (H1 q)=(q.length:Int):=λq=>by rw[BM,H1,AZ]
   simp only[Eu,A7,Ad hi,Ae,A9,hx,Aa];refine .inl ⟨Wi o l[i],?_,et.symm⟩
   rcases hk with⟨k1,k2,k3,k4⟩|⟨k1,k2,k3,k4,k5⟩
   ·rw[show(l[i].Back==0)=true by simpa using k1,Ae,BN,EY,Ad (by omega)];simp only[Aa,Aj,Ac];rw[show(l[i].Size !=0)=false by simp[k2],wG];simp only[Ac];have e1:ap 1 (H1 o) (H1 (L l[i].Text))=some (H1 (Wi o l[i])):=by
     rw[Cg (by simp[H1];omega)];unfold Wi;rw[Ax k1];simp[H1]
    rw[e1];simp only[Aa,Bn];rw[c,Af (by omega),Ac,ad1 (by omega)]
   rw[show(l[i].Back==0)=false by simp;omega,Ac,c,EY,Ad (by omega)];simp only[Aa,Aj,Ac];rw[EY,Ad (by omega)];simp only[Aa,Aj,Ac];have e:seq l[i].Text (bs [])=true:=by rw[JA,A6];exact IW (by rw[k5,E7])
   rw[e];simp only[Aj,Ac];have e1:=YH l[i] k1 ⟨by omega,k4⟩ l[i].Size.toNat 0 o (by omega) k2 (by omega);rw[show((0:Nat):Int)=0 from rfl]at e1;rw[e1];have e2:Vp l[i].Size.toNat l[i].Back.toNat o=Wi o l[i]:=by unfold Wi;rw[Az (by omega)]
   rw[e2];simp only[Aa,Bn]
   rw[c,Af (by omega),Ac,ad1 (by omega)])
  (λo ho=>⟨.inl (H1 o),by simp only[Eu,A7,Al,Ap,Ac],by rw[ho,AN]⟩) (s:=[]) rfl
 rw[<-h2];exact h1
theorem zX (s:ByteArray) (hs:(L s).length<=64):∃z,Fi s=some (z,true)/\Gz z=some (s,true)/\1<=(L z).length:=by
 obtain⟨l,h1,h2,h3,h4⟩:=ACI s hs;have fin:∀z:ByteArray,Fi s=some (z,true)->((Fi s).bind λv3=>(cond (!v3.2) (some true) (some (!(seq v3.1 z))):Option Bool).bind λj2=>cond j2 (some (bs [],false)) (some (s,true)))=some (s,true):=by
  intro z hz;rw[hz];have:seq z z=true:=by rw[JA];simp
  simp only[Aa,Aj,Ac,this]
 rcases h4 with h4|h4
 ·refine⟨_,h4,?_,by rw[E7];simp⟩;have hf:=fin _ h4;generalize hz:bs (122::l.flatMap MF)=z at h4 hf;have hL:L z=122::l.flatMap MF:=by rw[<-hz,E7]
  have d:(L z).length<=3000:=by
   have:∀m:List Br,(∀x∈m,∃o:List UInt8,okT o x/\o.length<=64)->(m.flatMap MF).length<=32*m.length:=by
    intro m
    induction m with
    |nil=>intro _;simp
    |cons x m ih=>
     intro hm;obtain⟨o,f,g⟩:=hm x (by simp);have:=r6 f g;have:=ih (λy hy=>hm y (by simp[hy]));rw[It,Ag,Ay];omega
   have:=this l (λx hx=>by
    obtain⟨i,hi,rfl⟩:=AG hx;have hm:=NG h1 i (by omega);rw[h2]at hm
    exact⟨_,h1 i _ (Ab hi),by omega⟩)
   rw[hL,Ay];omega
  unfold Gz;have a:1<=(L z).length:=by rw[hL];simp
  rw[BN,show(((L z).length:Int)==0)=false by rw[Ei];omega,Ac];have b:sub z 1 ((L z).length:Int)=some (bs (l.flatMap MF)):=by
   rw[show(1:Int)=((1:Nat):Int)from rfl,FV z a (A3 _)];congr 1;apply IW;rw[IX,E7,AS (by rw[BC];omega),hL];rfl
  have c:sx z 0=some 122:=by
   rw[show(0:Int)=((0:Nat):Int)from rfl,Fu z (i:=0) a];have:(L z)[0]?=some 122:=by rw[hL];rfl
   rw[Ab (by omega)]at this
   injection this with this
   rw[this];rfl
  rw[b,c];simp only[Aa];rw[show((122:Int)==122)=true from rfl];simp only[Ae];have h:(L (bs (l.flatMap MF))).length<=10000:=by rw[E7];rw[hL,Ay]at d;omega
  have e:=VB (bs (l.flatMap MF)) h l 0 [] (λx hx=>by
    obtain⟨i,hi,rfl⟩:=AG hx;have hm:=NG h1 i (by omega);rw[h2]at hm
    exact⟨_,h1 i _ (Ab hi),by omega⟩) (by rw[E7];rfl) (by omega) (by simp)
  rw[show((0:Nat):Int)=0 from rfl,AA]at e;have ht:Kk (bs (l.flatMap MF))=some (l,true):=by
   unfold Kk;rw[e];rfl
  have hp:Gj l=some (s,true):=by
   unfold Gj;rw[oT l h3 h1 (by rw[h2];omega),h2];simp only[Aa,Bn];congr 2;apply IW;rw[tZ]
  rw[ht];simp only[Aa];rw[hp];simp only[Aa,Aj,Ac,Bn];exact hf
 refine⟨_,h4,?_,by rw[E7];simp⟩;have hf:=fin _ h4;generalize hz:bs (114::L s)=z at h4 hf;have hL:L z=114::L s:=by rw[<-hz,E7]
 unfold Gz;have a:1<=(L z).length:=by rw[hL];simp
 rw[BN,show(((L z).length:Int)==0)=false by rw[Ei];omega,Ac];have b:sub z 1 ((L z).length:Int)=some s:=by
  rw[show(1:Int)=((1:Nat):Int)from rfl,FV z a (A3 _)];congr 1;apply IW;rw[IX,AS (by rw[BC];omega),hL];rfl
 have c:sx z 0=some 114:=by
  rw[show(0:Int)=((0:Nat):Int)from rfl,Fu z (i:=0) a];have:(L z)[0]?=some 114:=by rw[hL];rfl
  rw[Ab (by omega)]at this
  injection this with this
  rw[this];rfl
 rw[b,c];simp only[Aa];rw[show((114:Int)==122)=false from rfl];simp only[Ac,Aa,Bn];exact hf
theorem Vq (a b:List ByteArray):OQ (a++b)=OQ a++OQ b:=by unfold OQ;rw[Re]
theorem tP (a b:List CK):H0 (a++b)=H0 a++H0 b:=by unfold H0;rw[Re]
def CH (seq tx:Int) (T:List ByteArray):List Page:=T.mapIdx λi t=>Page.mk 2 (seq+i) tx i T.length t
theorem u7 (a:List CK) (hr:a.length<=1048576) (j:∀r∈a,HE r=true):∃T:List ByteArray,Ar (λs:List ByteArray×Int=>Es a s.1 s.2) ([bs []],0)=some (.inl T)/\1<=T.length/\T.length<=1+a.length/\OQ T=H0 a/\∀t∈T,(L t).length<=90:=by
 obtain⟨b,h1,T,h2,h3⟩:=Bb (body:=λs:List ByteArray×Int=>Es a s.1 s.2) (λ(o:List ByteArray) i=>(o,i)) a.length
  (λi T=>1<=T.length/\T.length<=1+i/\OQ T=H0 (a.take i)/\∀t∈T,(L t).length<=90)
  (λb=>∃T:List ByteArray,b= .inl T/\1<=T.length/\T.length<=1+a.length/\OQ T=H0 a/\∀t∈T,(L t).length<=90)
  (λT i hi hT=>by
   obtain⟨k,l,g,h⟩:=hT;have hx:=Ab hi;obtain⟨t,t1,t2⟩:=f0 (j _ (AD hi));have m:=wS (j _ (AD hi));rw[<-t2]at m;have et:H0 (a.take (i+1))=H0 (a.take i)++L t:=by rw[Aq hi,tP,t2];simp[H0]
   rcases H8 T with e|⟨T0,c,e⟩
   ·subst e;simp at k
   rw[H9]at e;subst e;have n:ln (T0++ [c])=((T0.length+1:Nat):Int):=by rw[BM];simp
   rw[Ag,Ak]at k l;have p:sb (ln (T0++ [c])) 1=(T0.length:Int):=by rw[n,Cx (by omega) (by omega)];omega
   have q:gi (T0++ [c]) (T0.length:Int)=some c:=F8 _ _;have u:=h c (by simp);rw[Vq]at g;simp only[Es,A7,Ad hi,Ae,A9,hx,Aa];rw[t1];simp only[Aa,Aj,Ac];rw[p,q];simp only[Aa];rw[BN,BN,CD (by omega) (by omega),ad1 (by omega)];refine .inl ?_;by_cases f:((L c).length:Int)+((L t).length:Int)>90
   ·rw[Ad f,Ae,Cg (by simp;omega)];refine⟨T0++ [c]++ [t],rfl,by simp,by simp;omega,?_,λx d=>?_⟩
    ·rw[Vq,Vq,et,g];simp[OQ]
    rw[Ai,Aw]at d
    rcases d with d|rfl
    ·exact h x d
    omega
   rw[Af f,Ac,Gc _ _ (by omega)];simp only[Aa];rw[Kg];refine⟨T0++ [c++t],rfl,by simp,by simp;omega,?_,λx d=>?_⟩
   ·rw[Vq,et,<-g];simp[OQ,DG]
   rw[Ai,Aw]at d
   rcases d with d|rfl
   ·exact h x (by simp[d])
   rw[DG,Ag];omega)
  (λT hT=>⟨_,by simp only[Es,A7,Al,Ap,Ac],T,rfl,hT.1,hT.2.1,by rw[hT.2.2.1,AN],hT.2.2.2⟩) (s:=[bs []]) ⟨by simp,by simp,by simp[OQ,H0,E7],λt ht=>by rw[Aw]at ht;rw[ht,E7];simp⟩
 subst h2;exact⟨T,h1,h3⟩
theorem u9 (seq tx:Int) (a:List CK) (hr:a.length<=1000) (c:∀r∈a,HE r=true):∃T:List ByteArray,1<=T.length/\OQ T=H0 a/\(∀t∈T,(L t).length<=90)/\T.length<=1+a.length/\
  ((Jf seq tx a=some (CH seq tx T,true)/\T.length<=9/\1<=seq/\seq+T.length-1<=1000000000/\1<=tx/\tx<=1000000000)\/(Jf seq tx a=some ([],false)/\¬(T.length<=9/\1<=seq/\seq+T.length-1<=1000000000/\1<=tx/\tx<=1000000000))):=by
 obtain⟨T,h1,h2,h2',h3,h4⟩:=u7 a (by omega) c;refine⟨T,h2,h3,h4,h2',?_⟩;unfold Jf;rw[h1];simp only[Aa,Bn];rw[BM];by_cases h9:(T.length:Int)>9
 ·rw[Ad h9];exact .inr ⟨rfl,λhh=>by omega⟩
 rw[Af h9];simp only[Ac];rw[Cx (by omega) (by omega),CD (by omega) (by omega),EY,EY];simp only[Aa];by_cases hs:1<=seq/\seq<=1000000000-(T.length:Int)+1
 ·rw[Ad hs];simp only[Aj,Ac];by_cases ht:1<=tx/\tx<=1000000000
  ·rw[Ad ht];simp only[Aj,Ac,Aa];left;obtain⟨b,q1,q2⟩:=Bb (body:=λs:List Page×Int=>Fv seq tx T s.1 s.2) (λ(o:List Page) i=>(o,i)) T.length (λi o=>o=(CH seq tx T).take i) (λb=>b=CH seq tx T)
    (λo i hi ho=>by
     have hx:=Ab hi;have e:o.length<=i:=by rw[ho,AH];omega
     simp only[Fv,A7,Ad hi,Ae,A9,hx,Aa];rw[CD (by omega) (by omega),BM,Cg (by simp;omega)];simp only[Aa];rw[ad1 (by omega)];refine .inl ⟨_,rfl,?_⟩;have d:(CH seq tx T)[i]?=some (Page.mk 2 (seq+i) tx i T.length T[i]):=by unfold CH;rw[Li,hx];rfl
     rw[Em,d,ho]
     rfl)
    (λo ho=>⟨o,by simp only[Fv,A7,Al,Ap,Ac],by rw[ho,AS];unfold CH;rw[Hv];exact A3 _⟩) (s:=[]) rfl
   have q1':Ar (λs:List Page×Int=>Fv seq tx T s.1 s.2) ([],0)=some b:=q1;rw[q1',q2];exact⟨rfl,by omega,by omega,by omega,ht.1,ht.2⟩
  rw[Af ht];exact .inr ⟨rfl,λhh=>ht ⟨hh.2.2.2.1,hh.2.2.2.2⟩⟩
 rw[Af hs];exact .inr ⟨rfl,λhh=>hs ⟨hh.2.1,by omega⟩⟩
def Steps:Flash->List Bl->Flash->Prop
 |f,[],g=>g=f
 |f,s::ss,g=>Tp f s/\Steps (K6 f s) ss g
theorem P6:∀(f:Flash) (a b:List Bl) (g:Flash),Steps f (a++b) g↔∃m,Steps f a m/\Steps m b g
 |f,[],b,g=>⟨λh=>⟨f,rfl,h⟩,λ⟨m,h1,h2⟩=>by rw[h1]at h2;exact h2⟩
 |f,s::a,b,g=>by
  rw[BF];simp only[Steps,P6];constructor
  ·rintro⟨h1,m,h2,h3⟩;exact⟨m,⟨h1,h2⟩,h3⟩
  rintro⟨m,⟨h1,h2⟩,h3⟩;exact⟨h1,m,h2,h3⟩
theorem XS:∀{f:Flash} {a:List Bl} {g:Flash},BU f->Steps f a g->BU g
 |f,[],g,hf,h=>by rw[h];exact hf
 |f,s::a,g,hf,h=>XS (rD hf h.1) h.2
theorem qH {m:Flash} {s:Bl} (h:Steps f a m) (hs:Tp m s):Steps f (a++ [s]) (K6 m s):=(P6 f a [s] _).2 ⟨m,h,hs,rfl⟩
theorem WG (hf:BU f) (h:Steps f a g) (ha:a.length<=1048576):Jj f a=some (g,(a.length:Int)):=by
 unfold Jj;rw[Dx f hf.cap];simp only[Aa];obtain⟨b,h1,h2⟩:=Bb (body:=λs:Int×List Block=>D8 a s.1 s.2) (λ(o:List Block) i=>(i,o)) a.length (λi o=>Steps f (a.take i) (Flash.mk o)/\Steps (Flash.mk o) (a.drop i) g) (λb=>b= .inl g.Blocks)
  (λo i hi hs=>by
   have hx:=Ab hi;obtain⟨s1,s2⟩:=hs;rw[Bf hi]at s2;simp only[D8,A7,Ad hi,Ae,A9,hx,Aa];have hP:=XS hf s1
   rcases Tw hP a[i]with⟨k1,k2⟩|⟨k1,k2⟩
   ·rw[k2];simp only[Aa,Aj,Ac];rw[ad1 (by omega)];refine .inl ⟨(K6 (Flash.mk o) a[i]).Blocks,rfl,?_,s2.2⟩;rw[Aq hi];exact qH s1 k1
   exact absurd s2.1 k1)
  (λo hs=>⟨.inl o,by simp only[D8,A7,Al,Ap,Ac],by
   have:=hs.2;rw[List.drop_length]at this
   rw[show g=Flash.mk o from this]⟩) (s:=f.Blocks) ⟨rfl,h⟩
 have h1':Ar (λs:Int×List Block=>D8 a s.1 s.2) (0,f.Blocks)=some b:=h1;rw[h1',h2];rfl
def J8:Flash->List Bl->List Page->Flash->Prop
 |f,[],[],g=>g=f
 |f,s::ss,p::ps,g=>s.Kind=1/\lI f s.Block s.Leaf s.Text/\FL s.Text=some (p,true)/\J8 (K6 f s) ss ps g
 |_,_,_,_=>False
theorem FB:∀{f:Flash} {ss:List Bl} {ps:List Page} {g:Flash},J8 f ss ps g->Steps f ss g/\ss.length=ps.length
 |f,[],[],g,h=>⟨h,rfl⟩
 |f,s::ss,p::ps,g,h=>⟨⟨.inl ⟨h.1,h.2.1⟩,(FB h.2.2.2).1⟩,by rw[Ay,Ay,(FB h.2.2.2).2]⟩
 |f,[],p::ps,g,h=>h.elim
 |f,s::ss,[],g,h=>h.elim
theorem ZV:∀{f:Flash} {ss:List Bl} {ps:List Page} {g:Flash} {b l:Int} {t:ByteArray} {p:Page},J8 f ss ps g->lI g b l t->FL t=some (p,true)->J8 f (ss++ [Bl.mk 1 b l t]) (ps++ [p]) (UO g b l (Leaf.mk 1 t))
 |f,[],[],g,b,l,t,p,h,h1,h2=>by
  have:g=f:=h;subst this;exact⟨rfl,h1,h2,by unfold K6;rfl⟩
 |f,s::ss,q::ps,g,b,l,t,p,h,h1,h2=>⟨h.1,h.2.1,h.2.2.1,ZV h.2.2.2 h1 h2⟩
 |f,[],q::ps,g,b,l,t,p,h,h1,h2=>h.elim
 |f,s::ss,[],g,b,l,t,p,h,h1,h2=>h.elim
def CC (ss:List Bl) (ps:List Page):List A4:=List.zipWith (λs p=>A4.mk s.Block s.Leaf p) ss ps
def G8:Int->List Page->Prop
 |_,[]=>True
 |n,p::ps=>n<=p.Seq/\G8 (p.Seq+1) ps
theorem ZW:∀{f:Flash} {ss:List Bl} {ps:List Page} {g:Flash} {r:List A4} {n:Int},BU f->SR (KL 0 f.Blocks) r->J8 f ss ps g->(∀y∈r,y.Page.Seq<n)->G8 n ps->SR (KL 0 g.Blocks) (r++CC ss ps)
 |f,[],[],g,r,n,hf,a,h,hn,ha=>by
  have:g=f:=h;subst this;unfold CC;simpa using a
 |f,s::ss,p::ps,g,r,n,hf,a,h,hn,ha=>by
  obtain⟨h1,h2,h3,h4⟩:=h;obtain⟨k1,_,A,B,k2,k3,_⟩:=T5 hf h2;have c:K6 f s=UO f s.Block s.Leaf (Leaf.mk 1 s.Text):=by unfold K6;rw[Ax h1]
  rw[c]at h4;have b:SR (KL 0 (UO f s.Block s.Leaf (Leaf.mk 1 s.Text)).Blocks) (r++ [A4.mk s.Block s.Leaf p]):=by
   rw[k3 p (kW h3)]
   refine SR.add (by rw[<-k2];exact a) λx hx=>?_
   have:=hn x hx;have:=ha.1;show x.Page.Seq<p.Seq;omega
  have:=ZW k1 b h4 (n:=p.Seq+1) (λy hy=>by
   rw[Ai,Aw]at hy
   rcases hy with hy|rfl
   ·have:=hn y hy;have:=ha.1;omega
   show p.Seq<p.Seq+1;omega) ha.2
  rw[Au]at this;exact this
 |f,[],q::ps,g,r,n,hf,a,h,hn,ha=>h.elim
 |f,s::ss,[],g,r,n,hf,a,h,hn,ha=>h.elim
theorem TQ:∀{f:Flash} {ss:List Bl} {ps:List Page} {g:Flash} (k:Nat),J8 f ss ps g->∃m,J8 f (ss.take k) (ps.take k) m
 |f,[],[],g,k,h=>⟨f,by simp[J8]⟩
 |f,s::ss,p::ps,g,0,h=>⟨f,rfl⟩
 |f,s::ss,p::ps,g,k+1,h=>by
  obtain⟨m,hm⟩:=TQ k h.2.2.2;exact⟨m,h.1,h.2.1,h.2.2.1,hm⟩
 |f,[],q::ps,g,k,h=>h.elim
 |f,s::ss,[],g,k,h=>h.elim
theorem wX (hg:BU g) (h:J8 f ss ps g) (hs:ss.length<=1000) (p:Page):
  (∃s g',Ed g ss p=some (g',ss++ [s],true)/\J8 f (ss++ [s]) (ps++ [p]) g'/\BU g'/\JJ p/\T7 g s.Block s.Leaf)\/Ed g ss p=some (g,ss,false):=by
 by_cases hp:JJ p
 ·obtain⟨t,t1,t2,t3,t4⟩:=tU hp
  rcases Yv hg ss (by omega) p t1 (λ_=>⟨t2,t3⟩)with⟨_,b,l,q1,_,q2⟩|q
  ·left;have hm:lI g b l t:=by
    obtain⟨x,a1,a2,a3,a4⟩:=q1;exact⟨x,a1,a2,a3,a4,t2,t3⟩
   exact⟨_,_,q2,ZV h hm t4,(T5 hg hm).1,hp,q1⟩
  exact .inr q
 rcases Yv hg ss (by omega) p (wZ hp) (λhh=>by cases hh)with⟨hh,_⟩|q
 ·cases hh
 exact .inr q
theorem YJ (hf:BU f) (ps:List Page) (rt:Bool) (c:ps.length<=9) (a:List Page) (ss0:List Bl) (g0:Flash) (ok0:Bool) (h0:ok0=true->J8 f ss0 a g0/\BU g0/\ss0.length<=1):
  ∃ss ok,Ar (λs:List Bl×Bool×Int×List Block=>Cn (ps,rt) s.1 s.2.1 s.2.2.1 s.2.2.2) (ss0,ok0,0,g0.Blocks)=some (ss,ok)/\(ok=true->ok0=true/\∃g,J8 f ss (a++ps) g/\BU g/\∀p∈ps,JJ p):=by
 obtain⟨b,h1,h2⟩:=Bb (body:=λs:List Bl×Bool×Int×List Block=>Cn (ps,rt) s.1 s.2.1 s.2.2.1 s.2.2.2) (λ(o:List Bl×Bool×List Block) i=>(o.1,o.2.1,i,o.2.2)) ps.length
  (λi o=>o.2.1=true->ok0=true/\J8 f o.1 (a++ps.take i) (Flash.mk o.2.2)/\BU (Flash.mk o.2.2)/\o.1.length<=i+1/\∀p∈ps.take i,JJ p)
  (λb=>b.2=true->ok0=true/\∃g,J8 f b.1 (a++ps) g/\BU g/\∀p∈ps,JJ p)
  (λo i hi hs=>by
   obtain⟨ss,ok,bl⟩:=o;have hx:=Ab hi;simp only[Cn,A7,Ad hi,Ae,Aa]
   cases ok with
   |false=>
    simp only[Ac];exact .inr ⟨_,rfl,λhh=>by cases hh⟩
   |true=>
    obtain⟨k0,k1,k2,k3,k4⟩:=hs rfl;simp only at k1 k2 k3;simp only[Ae,A9,hx,Aa];refine .inl ?_
    rcases wX k2 k1 (by omega) ps[i]with⟨s,g',q1,q2,q3,q4,_⟩|q
    ·rw[q1];simp only[Aa];rw[ad1 (by omega)];refine⟨(ss++ [s],true,g'.Blocks),rfl,λ_=>⟨k0,?_,q3,by simp;omega,λp hp=>?_⟩⟩
     ·rw[Aq hi,<-Au];exact q2
     rw[Aq hi,Ai,Aw]at hp
     rcases hp with hp|rfl
     ·exact k4 p hp
     exact q4
    rw[q];simp only[Aa];rw[ad1 (by omega)]
    exact⟨(ss,false,bl),rfl,λhh=>by cases hh⟩)
  (λo hs=>⟨(o.1,o.2.1),by simp only[Cn,A7,Al,Ap,Ac,Aa],λhh=>by
   obtain⟨k0,k1,k2,_,k4⟩:=hs hh;rw[AN]at k1 k4
   exact⟨k0,_,k1,k2,k4⟩⟩) (s:=(ss0,ok0,g0.Blocks)) (λhh=>by
    obtain⟨a1,a2,a3⟩:=h0 hh
    exact⟨hh,by rw[J4,A0];exact a1,a2,by simpa using a3,λp hp=>by simp at hp⟩)
 exact⟨b.1,b.2,h1,h2⟩
def DB (d:AK) (c:Int) (a:ByteArray):List Page:=if L a=[]then []else [Page.mk 1 d.Seq c 0 1 a]
def K3 (d:AK) (a:ByteArray):Int:=if L a=[]then d.Seq else d.Seq+1
theorem QH (hf:BU d.Flash) (k:0<=d.Seq/\d.Seq<=1000000001) (b:List CK) (i:b≠ []) (hr:b.length<=1000) (j:∀r∈b,HE r=true) (a:ByteArray):
  Er d b a=some ([],false)\/∃steps T g c,b[b.length-1]?=some c/\Er d b a=some (steps,true)/\1<=T.length/\T.length<=9/\OQ T=H0 b/\(∀t∈T,(L t).length<=90)/\
   J8 d.Flash steps (DB d c.Chunk a++CH (K3 d a) d.Tx T) g/\BU g/\∀p∈DB d c.Chunk a++CH (K3 d a) d.Tx T,JJ p:=by
 have l:0<b.length:=Jb.2 i;obtain⟨c,h⟩:∃c,b[b.length-1]?=some c:=⟨_,Ab (by omega)⟩;unfold Er;rw[show(ln b==0)=false by rw[Ei,BM];omega];simp only[Ac];have first:∃ss0 g0 ok0,(cond (!(seq a (bs []))) (((gi b (sb (ln b) 1)).bind λx1=>(Ed d.Flash [] (Page.mk 1 d.Seq x1.Chunk 0 1 a)).bind λv1=>some (v1.2.1,v1.2.2,v1.1.Blocks):Option (List Bl×Bool×List Block)).bind λj2=>some (j2.1,ad d.Seq 1,j2.2.1,j2.2.2)) (some ([],d.Seq,true,d.Flash.Blocks)):Option (List Bl×Int×Bool×List Block))=some (ss0,K3 d a,ok0,Flash.Blocks g0)/\(ok0=true->J8 d.Flash ss0 (DB d c.Chunk a) g0/\BU g0/\ss0.length<=1/\∀p∈DB d c.Chunk a,JJ p):=by
  by_cases ht:L a=[]
  ·have:seq a (bs [])=true:=by rw[JA,A6];exact IW (by rw[ht,E7])
   rw[this];refine⟨[],d.Flash,true,?_,λ_=>⟨?_,hf,by simp,?_⟩⟩
   ·unfold K3;rw[Ax ht];rfl
   ·unfold DB;rw[Ax ht];rfl
   unfold DB;rw[Ax ht];intro p hp;cases hp
  have:seq a (bs [])=false:=by
   rw[JA,Bc];intro e;exact ht (by rw[e,E7])
  rw[this];simp only[AC,Ae];rw[BM,Cx (by omega) (by omega),show(b.length:Int)-1=((b.length-1:Nat):Int) by omega,A9,h];simp only[Aa];rw[CD (by omega) (by omega)];have e1:K3 d a=d.Seq+1:=by unfold K3;rw[Az ht]
  have e2:DB d c.Chunk a=[Page.mk 1 d.Seq c.Chunk 0 1 a]:=by unfold DB;rw[Az ht]
  rw[e1,e2]
  rcases wX (f:=d.Flash) (ss:=[]) (ps:=[]) hf rfl (by simp) (Page.mk 1 d.Seq c.Chunk 0 1 a)with⟨s,g',q1,q2,q3,q4,_⟩|q
  ·rw[q1];refine⟨_,g',true,rfl,λ_=>⟨q2,q3,by simp,λp hp=>?_⟩⟩;rw[Aw]at hp;rw[hp];exact q4
  rw[q];exact⟨_,d.Flash,false,rfl,λhh=>by cases hh⟩
 obtain⟨ss0,g0,ok0,e0,h0⟩:=first
 rw[e0];simp only[Aa];obtain⟨T,t1,t2,t3,_,t4⟩:=u9 (K3 d a) d.Tx b hr j
 rcases t4 with⟨t4,t5,t6,t7,t8,t9⟩|⟨t4,_⟩
 ·rw[t4];simp only[Aa];obtain⟨ss,ok,q1,q2⟩:=YJ hf (CH (K3 d a) d.Tx T) true (by unfold CH;rw[Hv];exact t5) (DB d c.Chunk a) ss0 g0 ok0 (λhh=>⟨(h0 hh).1,(h0 hh).2.1,(h0 hh).2.2.1⟩);rw[q1];simp only[Aa]
  cases ok with
  |false=>exact .inl rfl
  |true=>
   obtain⟨k0,g,k1,k2,k3⟩:=q2 rfl;refine .inr ⟨ss,T,g,c,h,rfl,t1,t5,t2,t3,k1,k2,λp hp=>?_⟩
   rcases Ai.1 hp with hp|hp
   ·exact(h0 k0).2.2.2 p hp
   exact k3 p hp
 rw[t4];simp only[Aa];obtain⟨ss,ok,q1,q2⟩:=YJ hf [] false (by simp) (DB d c.Chunk a) ss0 g0 ok0 (λhh=>⟨(h0 hh).1,(h0 hh).2.1,(h0 hh).2.2.1⟩);rw[q1];simp only[Aa];cases ok<;>exact .inl rfl
def KN (r:List A4) (c:Int):Option A4:=(r.filter (Jo c)).getLast?
noncomputable def V9 (t:ByteArray):Option ByteArray:=match Gz t with
 |some (s,true)=>some s
 |_=>none
noncomputable def Dl (r:List A4) (c:Int):Option ByteArray:=(KN r c).bind λy=>V9 y.Page.Text
theorem RC:Jo c y=true↔y.Page.Kind=1/\y.Page.Tx=c:=by
 unfold Jo;rw[An,Ck,Ck]
theorem UW (h:KN r c=some y):y∈r/\y.Page.Kind=1/\y.Page.Tx=c:=by
 have:=List.mem_of_getLast? h;rw[AQ,RC]at this;exact this
theorem NK (r:List A4) (y:A4) (c:Int):KN (r++ [y]) c=if y.Page.Kind=1/\y.Page.Tx=c then some y else KN r c:=by
 unfold KN;rw[AO];by_cases e:y.Page.Kind=1/\y.Page.Tx=c
 ·rw[Ax e,BD (RC.2 e),DZ,Iq]
 rw[Az e,BA (λhh=>e (RC.1 hh)),DZ,A0]
theorem uD (r m:List A4) (h:∀y∈m,y.Page.Kind≠1) (c:Int):KN (r++m) c=KN r c:=by
 unfold KN;rw[AO,Bs.2 (λy hy hh=>h y hy (RC.1 hh).1),A0]
theorem Zv {y:α} (l:List α) (p:α->Bool) (h:l.getLast? =some y) (hp:p y=true):(l.filter p).getLast? =some y:=by
 rcases H8 l with e|⟨m,x,e⟩
 ·rw[e]at h;cases h
 rw[H9]at e;rw[e,Iq]at h
 injection h with h
 subst h;rw[e,AO,BD hp,DZ,Iq]
theorem lG (p:A4->Bool) (h:KN r c=some y) (hp:p y=true):KN (r.filter p) c=some y:=by
 unfold KN at h⊢;rw[EI];have:r.filter (λa=>Jo c a&&p a)=(r.filter (Jo c)).filter p:=by
  rw[EI];congr 1;funext a;exact Bool.and_comm _ _
 rw[this];exact Zv _ p h hp
theorem YP {o:Option Nat} (h:QP c r r.length o):KN r c=o.bind λj=>r[j]? :=by
 cases o with
 |none=>
  unfold KN;have:r.filter (Jo c)=[]:=by
   rw[Bs];intro y hy;obtain⟨j,hj,rfl⟩:=AG hy;have:=h j r[j] hj (Ab hj);rw[this];simp
  rw[this];rfl
 |some j=>
  obtain⟨h1,⟨y,h2,h3⟩,h4⟩:=h;simp only[Aa,h2];unfold KN;obtain⟨e1,e2⟩:=JY h2;rw[e1,AO,BD h3];have:(r.drop (j+1)).filter (Jo c)=[]:=by
   rw[Bs];intro z hz;obtain⟨k,hk,rfl⟩:=AG hz;rw[BC]at hk;rw[TT];have:=h4 (j+1+k) _ (by omega) (by omega) (Ab (by omega));rw[this];simp
  rw[this,Iq]
theorem oP (hr:r.length<=1048576) (c:Int):∃y ok,Mh r c=some (y,ok)/\KN r c=(if ok=true then some y else none):=by
 obtain⟨o,h1,h2⟩:=uC r hr c;have h3:=YP h2
 cases o with
 |none=>exact⟨_,false,h1,h3⟩
 |some j=>
  obtain⟨_,⟨y,k1,_⟩,_⟩:=h2;refine⟨y,true,?_,by rw[h3];simp only[Aa,k1];rfl⟩;rw[h1];simp only[LJ,k1,Bk];rfl
theorem kG (hr:GI r) (c:Int):∃u ok,Pc r c=some (u,ok)/\Dl r c=(if ok=true then some u else none):=by
 obtain⟨y,ok,h1,h2⟩:=oP hr.len c;unfold Pc Dl;rw[h1,h2]
 cases ok with
 |false=>exact⟨_,_,rfl,rfl⟩
 |true=>
  have hy:=(UW (by rw[h2];rfl)).1;obtain⟨u,ok2,k1,_,_⟩:=bW y.Page.Text (by have:=hr.text y hy;omega);simp only[Aa,Aj,Ac,BR];rw[k1];unfold V9;rw[k1]
  cases ok2 with
  |false=>exact⟨_,_,rfl,rfl⟩
  |true=>exact⟨_,_,rfl,rfl⟩
structure JR (r:List A4):Prop where
 pages:GI r
 inc:r.Pairwise λx y=>x.Page.Seq<y.Page.Seq
 mu:nH r
def Ff (l:Vs) (c:Int):Prop:=0<c/\∃p∈l,c∈p.2
structure Hq (r:List A4) (P:Int->Prop):Prop where
 data:∀c,P c->∃s,Dl r c=some s
 dist:∀c c',P c->P c'->Dl r c=Dl r c'->c=c'
theorem Hq.mono {Q:Int->Prop} (h:Hq r P) (hq:∀c,Q c->P c):Hq r Q:=⟨λc hc=>h.data c (hq c hc),λc c' hc hc'=>h.dist c c' (hq c hc) (hq c' hc')⟩
theorem Hq.congr (h:Hq r P) (he:∀c,P c->Dl r' c=Dl r c):Hq r' P:=⟨λc hc=>by rw[he c hc];exact h.data c hc,λc c' hc hc' e=>h.dist c c' hc hc' (by rw[<-he c hc,<-he c' hc'];exact e)⟩
theorem Hq.metas (h:Hq r P) (hm:∀y∈m,y.Page.Kind≠1):Hq (r++m) P:=h.congr λc _=>by unfold Dl;rw[uD r m hm]
theorem nM (h:Hq r P) (hy:¬P y.Page.Tx):Hq (r++ [y]) P:=h.congr λc hc=>by
 unfold Dl;rw[NK,Az (λhh=>hy (by rw[hh.2];exact hc))]
theorem nN (h:Hq r P) (hy:V9 y.Page.Text=Dl r y.Page.Tx):Hq (r++ [y]) P:=h.congr λc hc=>by
 by_cases e:y.Page.Kind=1/\y.Page.Tx=c
 ·have:Dl (r++ [y]) c=V9 y.Page.Text:=by unfold Dl;rw[NK,Ax e];rfl
  rw[this,hy,e.2]
 unfold Dl;rw[NK,Az e]
theorem vD {s:ByteArray} (h:Hq r P) (hk:y.Page.Kind=1) (hn:¬P y.Page.Tx) (ht:V9 y.Page.Text=some s) (hs:∀c,P c->Dl r c≠some s):Hq (r++ [y]) (λc=>P c\/c=y.Page.Tx):=by
 have b:Dl (r++ [y]) y.Page.Tx=some s:=by unfold Dl;rw[NK,Ax ⟨hk,rfl⟩];exact ht
 have a:∀c,P c->Dl (r++ [y]) c=Dl r c:=λc hc=>by unfold Dl;rw[NK,Az (λhh=>hn (by rw[hh.2];exact hc))]
 refine⟨λc hc=>?_,λc c' hc hc' e=>?_⟩
 ·rcases hc with hc|rfl
  ·rw[a c hc];exact h.data c hc
  exact⟨s,b⟩
 rcases hc with hc|rfl<;>rcases hc' with hc'|rfl
 ·exact h.dist c c' hc hc' (by rw[<-a c hc,<-a c' hc'];exact e)
 ·rw[a c hc,b]at e;exact absurd e (hs c hc)
 ·rw[a c' hc',b]at e;exact absurd e.symm (hs c' hc')
 rfl
theorem JR.filter (h:JR r) (p:A4->Bool):JR (r.filter p):=by
 refine⟨⟨by have:=BO p r;have:=h.pages.len;omega,λy hy=>h.pages.text y (AQ.1 hy).1,λy hy=>h.pages.seq y (AQ.1 hy).1,λy hy=>h.pages.tx y (AQ.1 hy).1,λy hy=>h.pages.cnt y (AQ.1 hy).1,λy hy=>h.pages.part y (AQ.1 hy).1⟩,h.inc.filter _,⟨λy hy z hz=>h.mu.uniq y (AQ.1 hy).1 z (AQ.1 hz).1⟩⟩
theorem JR.add (h:JR r) (hl:r.length<=1000000) (hb:JJ y.Page) (hs:Dm r<=y.Page.Seq) (hm:y.Page.Kind=2->∀z∈r,z.Page.Kind=2->z.Page.Tx=y.Page.Tx->z.Page.Part≠y.Page.Part):JR (r++ [y]):=by
 obtain⟨b1,b2,b3,b4,b5,b6,b7⟩:=hb
 have all:∀{P:A4->Prop},(∀z∈r,P z)->P y->∀z∈r++ [y],P z:=λh1 h2 z hz=>by
  rw[Ai,Aw]at hz
  rcases hz with hz|rfl
  ·exact h1 z hz
  exact h2
 refine⟨⟨by simp;omega,all h.pages.text b6,all h.pages.seq b2,all h.pages.tx b3,all h.pages.cnt b4,all h.pages.part b5⟩,?_,⟨λu hu v hv k1 k2 e1 e2=>?_⟩⟩
 ·rw[Ba];refine⟨h.inc,J5 _ _,λu hu v hv=>?_⟩;rw[Aw]at hv;rw[hv];have:=(N4 r).1 u hu;omega
 rw[Ai,Aw]at hu hv
 rcases hu with hu|rfl<;>rcases hv with hv|rfl
 ·exact h.mu.uniq u hu v hv k1 k2 e1 e2
 ·exact absurd e2 (hm k2 u hu k1 e1)
 ·exact absurd e2.symm (hm k1 v hv k2 e1.symm)
 rfl
theorem cX (h:Dm r<=y.Page.Seq):Dm (r++ [y])=y.Page.Seq+1:=by rw[X9,Ax h]
theorem JR.metas (h:JR r) (ht:∀y∈r,y.Page.Kind=2->y.Page.Tx<t):∀(m:List A4) (k:Nat),r.length+m.length<=1000000->(∀(i:Nat) y,m[i]?=some y->y.Page.Kind=2/\y.Page.Tx=t/\y.Page.Part=i/\y.Page.Seq=Dm r+i/\JJ y.Page)->k<=m.length->JR (r++m.take k)/\Dm (r++m.take k)=Dm r+k
 |m,0,_,_,_=>by simpa using h
 |m,k+1,hl,hm,hk=>by
  obtain⟨ih1,ih2⟩:=JR.metas h ht m k hl hm (by omega);have hx:m[k]?=some m[k]:=Ab (by omega);obtain⟨k1,k2,k3,k4,k5⟩:=hm k _ hx;rw[Aq (by omega),<-Au];refine⟨JR.add ih1 (by simp;omega) k5 (by rw[ih2,k4];omega) (λ_ z hz a b=>?_),?_⟩
  ·rcases Ai.1 hz with hz|hz
   ·have:=ht z hz a;omega
   obtain⟨j,hj,rfl⟩:=AG hz;rw[AH]at hj;rw[Fd];obtain⟨_,_,q3,_⟩:=hm j _ (Ab (by omega));omega
  rw[cX (by rw[ih2,k4];omega),k4];omega
theorem rX (i:Int):∀(k:Int) (l:List Leaf),(WK i k l).length<=l.length
 |_,[]=>A3 _
 |k,x::l=>by
  rw[WK,Ag,Ay];have:=rX i (k+1) l;have:(pg i k x).length<=1:=by
   unfold pg;split
   ·split<;>simp
   simp
  omega
theorem rY:∀(i:Int) (l:List Block),(KL i l).length<=nl l
 |_,[]=>A3 _
 |i,b::l=>by
  rw[KL,Ag];have:=rY (i+1) l;have:=rX i 0 b.Leaves;unfold nl at*;rw[BE,FT];omega
theorem ACF (hf:BU f) (h:SR (KL 0 f.Blocks) r):r.length<=40:=by
 have h1:=rY 0 f.Blocks;have h2:=hf.few;have h3:=h.2.len;omega
theorem LI:∀{ss:List Bl} {ps:List Page} {i:Nat} {y:A4},(CC ss ps)[i]?=some y->ps[i]?=some y.Page
 |[],_,i,y,h=>by simp[CC]at h
 |s::ss,[],i,y,h=>by simp[CC]at h
 |s::ss,p::ps,0,y,h=>by
  simp only[CC,List.zipWith_cons_cons,CW,Ao]at h;rw[<-h];rfl
 |s::ss,p::ps,i+1,y,h=>by
  simp only[CC,List.zipWith_cons_cons,List.getElem?_cons_succ]at h⊢;exact LI h
theorem TJ (h:ss.length=ps.length):(CC ss ps).length=ps.length:=by unfold CC;rw[List.length_zipWith];omega
theorem WP (ss:List Bl) (ps:List Page) (k:Nat):CC (ss.take k) (ps.take k)=(CC ss ps).take k:=by unfold CC;rw[List.take_zipWith]
theorem mU:∀(T:List ByteArray),(∀t∈T,(L t).length<=90)->(OQ T).length<=90*T.length
 |[],_=>by simp[OQ]
 |t::T,h=>by
  have:=mU T (λx hx=>h x (by simp[hx]));have:=h t (by simp);simp only[OQ,It,Ag,Ay]at*;omega
theorem dW {r1:List A4} (h:JR r1) (hl:r1.length<=1000) {a:List CK} (g:1<=T.length) (j:T.length<=9) (c:∀t∈T,(L t).length<=90) (d:OQ T=H0 a) (l:∀r∈a,HE r=true) (hm:∀(i:Nat) y,m[i]?=some y->(CH (Dm r1) (DE r1) T)[i]?=some y.Page) (o:m.length=T.length) (n:∀p∈CH (Dm r1) (DE r1) T,JJ p) (k:Nat) (hk:k<=T.length):
  JR (r1++m.take k)/\(∀y∈m.take k,y.Page.Kind≠1)/\(k<T.length->Bw (r1++m.take k)=Bw r1)/\(k=T.length->∃q,Bw (r1++m.take k)=Bw r1++ [Tx.mk (DE r1) q a]):=by
 have e:∀(i:Nat) y,m[i]?=some y->∃t,T[i]?=some t/\y.Page=Page.mk 2 (Dm r1+i) (DE r1) i T.length t:=by
  intro i y hy;have:=hm i y hy;unfold CH at this;rw[Li]at this;obtain⟨t,h1,h2⟩:=Be.1 this;exact⟨t,h1,h2.symm⟩
 have b:=Ye r1
 obtain⟨c1,_⟩:=JR.metas h b.1 m k (by omega) (λi y hy=>by
  obtain⟨t,_,h2⟩:=e i y hy;have hb:=n y.Page (A5 (hm i y hy));rw[h2]at hb⊢
  exact⟨rfl,rfl,rfl,rfl,hb⟩) (by omega)
 have hN:e9 (m.take k) (DE r1) T.length T:=by
  refine⟨by rw[AH];omega,⟨g,j⟩,rfl,λi y hy=>?_⟩;have f:=(Ah.1 hy).1;rw[AH]at f;rw[List.getElem?_take_of_lt (by omega)]at hy;obtain⟨t,h1,h2⟩:=e i y hy;rw[h2];exact⟨rfl,rfl,rfl,rfl,h1⟩
 obtain⟨g1,g2⟩:=pJ r1 (λy hy=>(h.pages.tx y hy).1) b.1 b.2.1 hN;refine⟨c1,λy hy=>by rw[(hN.all hy).1];omega,λhh=>g1 (by rw[AH];omega),λhh=>g2 (by rw[AH];omega) a ?_⟩;rw[d];refine oQ l ?_;have:=mU T c;rw[d]at this;omega
structure Lk (d:AK) (r:List A4):Prop where
 dev:IZ d r
 core:JR r
 data:Hq r (Ff (BT d.Store))
theorem Lk.few (h:Lk d r):r.length<=40:=ACF h.dev.fl h.dev.sr
theorem NU (hg:BU g) (a:SR (KL 0 g.Blocks) r):∃d,Dc g=some (d,true)/\IZ d r/\d.Flash=g:=by
 obtain⟨d,r',h1,h2,h3⟩:=UD hg;have:r'=r:=by
  have h4:=h2.sr;rw[h3]at h4;exact h4.uniq a
 subst this;exact⟨d,h1,h2,h3⟩
theorem Ti (seq tx:Int) (T:List ByteArray):G8 seq (CH seq tx T):=by
 have a:∀(l:List ByteArray) (i:Nat) (n:Int),n<=seq+i->G8 n (l.mapIdx λj t=>Page.mk 2 (seq+(i+j:Nat)) tx (i+j:Nat) T.length t):=by
  intro l
  induction l with
  |nil=>intro i n _;trivial
  |cons x l ih=>
   intro i n hn;rw[List.mapIdx_cons];refine⟨by simpa using hn,?_⟩;have:=ih (i+1) (seq+(i:Int)+1) (by omega);simp only[GO]
   have e:(λj t=>Page.mk 2 (seq+((i+1+j:Nat):Int)) tx ((i+1+j:Nat):Int) T.length t)=λj (t:ByteArray)=>Page.mk 2 (seq+((i+(j+1):Nat):Int)) tx ((i+(j+1):Nat):Int) T.length t:=by
    funext j t;rw[show i+1+j=i+(j+1) by omega]
   rw[e]at this;exact this
 have:=a T 0 seq (by omega);unfold CH;simpa using this
theorem pR (c:Int) (a:ByteArray) (tx:Int) (T:List ByteArray):G8 d.Seq (DB d c a++CH (K3 d a) tx T):=by
 unfold DB K3;by_cases e:L a=[]
 ·rw[Ax e,Ax e,AA];exact Ti _ _ _
 rw[Az e,Az e];exact⟨EN _,Ti _ _ _⟩
theorem NI (ss:List Bl) (ps:List Page) (k:Nat):∀y∈(CC ss ps).take k,y.Page∈ps:=by
 intro y hy;obtain⟨i,hi,rfl⟩:=AG (List.mem_of_mem_take hy);exact A5 (LI (Ab hi))
def HK (f:Flash) (n:Int):Prop:=∀b∈f.Blocks,b.Wear<=n
theorem qW {l:List Block} {n:Int} {x:Block} (h:∀y∈l,y.Wear<=n) (hx:x.Wear<=n):∀y∈si l b x,y.Wear<=n:=by
 intro y hy;by_cases e:0<=b
 ·obtain⟨c,rfl⟩:∃c:Nat,b=(c:Int):=⟨_,(By e).symm⟩;rw[Fg]at hy
  rcases CB hy with hy|rfl
  ·exact h y hy
  exact hx
 unfold si at hy
 first
  |(rw[Az (by omega)]at hy;exact h y hy)
  |(
   rcases CB hy with hy|rfl
   ·exact h y hy
   exact hx)
theorem cR {s:Bl} {n m:Int} (h:HK f n) (hm:n<=m) (hs:s.Kind=1\/n+1<=m):HK (K6 f s) m:=by
 have h0:∀y∈f.Blocks,y.Wear<=m:=λy hy=>by have:=h y hy;omega
 unfold K6 UO TY HK;by_cases e:s.Kind=1
 ·rw[Ax e]
  cases hg:gi f.Blocks s.Block with
  |none=>exact h0
  |some x=>exact qW h0 (h0 x (A5 (Dk hg).2))
 rw[Az e]
 cases hg:gi f.Blocks s.Block with
 |none=>exact h0
 |some x=>exact qW h0 (by have:=h x (A5 (Dk hg).2);show x.Wear+1<=m;omega)
theorem TP {n:Int}:∀{f:Flash} {ss:List Bl} {ps:List Page} {g:Flash},J8 f ss ps g->HK f n->HK g n
 |f,[],[],g,h,hw=>by rw[show g=f from h];exact hw
 |f,s::ss,p::ps,g,h,hw=>TP h.2.2.2 (cR hw (EN _) (.inl h.1))
 |f,[],q::ps,g,h,_=>h.elim
 |f,s::ss,[],g,h,_=>h.elim
theorem QJ:∀{f:Flash} {ss:List Bl} {ps:List Page} {g:Flash},J8 f ss ps g->∀s∈ss,s.Kind=1
 |f,[],[],g,h,s,hs=>by cases hs
 |f,s::ss,p::ps,g,h,x,hs=>by
  rcases B7.1 hs with rfl|hs
  ·exact h.1
  exact QJ h.2.2.2 x hs
 |f,[],q::ps,g,h,_,_=>h.elim
 |f,s::ss,[],g,h,_,_=>h.elim
def XY (f g:Flash):Prop:=∀n,HK f n->HK g n
theorem V8 (h:Lk d r) {o:List CK} (x:∀r∈o,HE r=true) {a:ByteArray} {b:CK} {steps:List Bl} (z:1<=T.length) (h0:T.length<=9) (h1:OQ T=H0 o) (w:∀t∈T,(L t).length<=90) (hp:J8 d.Flash steps (DB d b.Chunk a++CH (K3 d a) d.Tx T) g) (l:∀p∈DB d b.Chunk a++CH (K3 d a) d.Tx T,JJ p) (h2:L a≠ []->¬Ff (BT d.Store) b.Chunk) (k:Nat) (hk:k<=steps.length):
  ∃m d' r',Steps d.Flash (steps.take k) m/\BU m/\Dc m=some (d',true)/\IZ d' r'/\d'.Flash=m/\r'=r++(CC steps (DB d b.Chunk a++CH (K3 d a) d.Tx T)).take k/\XY d.Flash m/\JR r'/\Hq r' (Ff (BT d.Store))/\
   (k<steps.length->Bw r'=Bw r)/\(k=steps.length->(∃q,Bw r'=Bw r++ [Tx.mk d.Tx q o])/\∀s,V9 a=some s->L a≠ []->(∀c,Ff (BT d.Store) c->Dl r c≠some s)->Hq r' (λc=>Ff (BT d.Store) c\/c=b.Chunk)):=by
 obtain⟨a8,f⟩:=FB hp;obtain⟨m,hm⟩:=TQ k hp;obtain⟨h3,_⟩:=FB hm;have h4:=XS h.dev.fl h3;have a7:=h.few
 have h5:∀y∈r,y.Page.Seq<d.Seq:=λy hy=>by rw[h.dev.seq];exact(N4 r).1 y hy
 have h6:=pR (d:=d) b.Chunk a d.Tx T;have ascT:∀(ps:List Page) (n:Int) (k:Nat),G8 n ps->G8 n (ps.take k):=by
  intro ps
  induction ps with
  |nil=>intro n k _;simp[G8]
  |cons p ps ih=>
   intro n k ha
   cases k with
   |zero=>trivial
   |succ k=>exact⟨ha.1,ih _ k ha.2⟩
 have h7:=ZW h.dev.fl h.dev.sr hm h5 (ascT _ _ k h6);rw[WP]at h7;obtain⟨d',u1,u2,u3⟩:=NU h4 h7;refine⟨m,d',r++(CC steps (DB d b.Chunk a++CH (K3 d a) d.Tx T)).take k,h3,h4,u1,u2,u3,rfl,λ_=>TP hm,?_⟩;have v:(CH (K3 d a) d.Tx T).length=T.length:=by unfold CH;rw[Hv]
 have u:=TJ f;by_cases e:L a=[]
 ·
  have e1:DB d b.Chunk a=[]:=by unfold DB;rw[Ax e]
  have e2:K3 d a=d.Seq:=by unfold K3;rw[Ax e]
  rw[e1,e2,AA]at u f l⊢;rw[e2]at v;rw[h.dev.seq,h.dev.tx]at u f l v⊢;obtain⟨a1,a2,a3,a4⟩:=dW h.core (by omega) z h0 w h1 x (m:=CC steps (CH (Dm r) (DE r) T)) (λi y hy=>LI hy) (by omega) l k (by omega);exact⟨a1,h.data.metas a2,λhh=>a3 (by omega),λhh=>⟨a4 (by omega),λs _ h9=>absurd e h9⟩⟩
 have e1:DB d b.Chunk a=[Page.mk 1 d.Seq b.Chunk 0 1 a]:=by unfold DB;rw[Az e]
 have e2:K3 d a=d.Seq+1:=by unfold K3;rw[Az e]
 rw[e1,e2]at u f l⊢;rw[e2]at v;rw[Ct]at u f l⊢;rw[Ay]at f u
 match hsteps:steps,f with
 |[],f=>simp at f
 |s0::ss,f=>
  have ef:CC (s0::ss) (Page.mk 1 d.Seq b.Chunk 0 1 a::CH (d.Seq+1) d.Tx T)=A4.mk s0.Block s0.Leaf (Page.mk 1 d.Seq b.Chunk 0 1 a)::CC ss (CH (d.Seq+1) d.Tx T):=rfl;rw[ef]
  cases k with
  |zero=>
   rw[J4,A0];exact⟨h.core,h.data,λ_=>rfl,λhh=>by simp at hh⟩
  |succ k=>
   rw[M6];generalize a0:A4.mk s0.Block s0.Leaf (Page.mk 1 d.Seq b.Chunk 0 1 a)=y0;have j:y0.Page=Page.mk 1 d.Seq b.Chunk 0 1 a:=by rw[<-a0]
   have c1:JR (r++ [y0]):=JR.add h.core (by omega) (by rw[j];exact l _ (by simp)) (by rw[j,h.dev.seq];exact EN _) (λhh=>by rw[j]at hh;simp at hh);have g1:Bw (r++ [y0])=Bw r:=WO r (by rw[j];simp);have s1:Dm (r++ [y0])=d.Seq+1:=by rw[cX (by rw[j,h.dev.seq];exact EN _),j]
   have t1:DE (r++ [y0])=d.Tx:=by rw[Ue,Az (by rw[j];simp),h.dev.tx]
   have h8:∀p∈CH (d.Seq+1) d.Tx T,JJ p:=λp hp=>l p (by simp[hp])
   have a5:(CC ss (CH (d.Seq+1) d.Tx T)).length=T.length:=by rw[TJ (by simp at f;omega),v]
   rw[List.append_cons];obtain⟨a1,a2,a3,a4⟩:=dW c1 (by simp;omega) z h0 w h1 x (m:=CC ss (CH (d.Seq+1) d.Tx T)) (by rw[s1,t1];exact λi y hy=>LI hy) a5 (by rw[s1,t1];exact h8) k (by simp at hk f;omega);have dz:Hq (r++ [y0]) (Ff (BT d.Store)):=nM h.data (by rw[j];exact h2 e);rw[g1,t1]at a4;rw[g1]at a3;have a9:ss.length=T.length:=by simp at f;omega
   refine⟨a1,dz.metas a2,λhh=>a3 (by simp at hh;omega),λhh=>⟨a4 (by simp at hh;omega),λs hs _ a6=>?_⟩⟩;have:=vD h.data (y:=y0) (s:=s) (by rw[j]) (by rw[j];exact h2 e) (by rw[j];exact hs) a6;rw[j]at this;exact this.metas a2
theorem pS (h:Dr s):Vr s.Arena:=by unfold Vr;have:=h.few;omega
theorem yA (h:Dr s) (x:Int):x∈MV s s.Vols.length↔∃p∈BT s,x∈p.2:=by
 unfold MV BT;rw[AN];simp only[List.mem_flatten,AL]
 have a:∀v∈s.Vols,(JU s.Arena v.Root).getD []=Fy s.Arena.Knots v.Root:=λv hv=>by
  rw[PR _ (by have:=h.few;omega) h.ar (h.root _ (AL.2 ⟨v,hv,rfl⟩))];rfl
 constructor
 ·rintro⟨l,⟨v,hv,rfl⟩,hx⟩;rw[a v hv]at hx;exact⟨_,⟨v,hv,rfl⟩,hx⟩
 rintro⟨p,⟨v,hv,rfl⟩,hx⟩;exact⟨_,⟨v,hv,rfl⟩,by rw[a v hv];exact hx⟩
theorem L7 (h:Dr s):∃l,He s=some l/\asc l/\(∀x,x∈l↔Ff (BT s) x)/\l.length<=16777216:=by
 have:=h.len;obtain⟨l,h1,h2,h3⟩:=WE s (by omega) (pS h);refine⟨l,h1,h2.1,λx=>?_,h3⟩;rw[h2.2 x,yA h];unfold Ff;exact And.comm
theorem gW (h:Dr s) (hc:Ff (BT s) c):0<c/\c<s.Next:=by
 obtain⟨h0,p,hp,hx⟩:=hc;unfold BT at hp;obtain⟨v,hv,rfl⟩:=AL.1 hp;exact⟨h0,h.lt _ (AL.2 ⟨v,hv,rfl⟩) c hx⟩
def C1 (r:List A4) (live:List Int) (a:Int):List Bool:=live.foldl (bD r) (r.map (D9 a))
theorem Kt (r:List A4) (live:List Int) (a:Int):(C1 r live a).length=r.length:=by unfold C1;rw[Zy,AZ]
theorem Pk (r:List A4) (live:List Int) (a:Int) (hy:r[j]?=some y):(C1 r live a)[j]?=some (D9 a y||live.any (λc=>OS c r r.length==some j)):=by
 unfold C1;rw[YS,AT,hy];rfl
theorem AAw (h:OS c r r.length=some j):KN r c=r[j]? :=by
 rw[YP (OY c r r.length (A3 _)),h];rfl
theorem AAY (h:KN r c=some y):∃j,OS c r r.length=some j/\r[j]?=some y:=by
 have:=YP (OY c r r.length (A3 _));rw[h]at this
 cases ht:OS c r r.length with
 |none=>rw[ht]at this;cases this
 |some j=>rw[ht]at this;exact⟨j,rfl,this.symm⟩
theorem sU {p:Nat->Bool} (h:cn n p=0):∀j,j<n->p j=false:=by
 intro j hj;unfold cn at h;have:=List.length_eq_zero_iff.1 h;rw[Bs]at this;have:=this j (Hu.2 hj);simpa using this
theorem AAP {live:List Int} {a b:Int} (h:cn r.length (λj=>(C1 r live a)[j]?.getD false&&bk r b j)=0):∀y∈r,y.Block=b->(y.Page.Kind=2->y.Page.Tx<a)/\∀c∈live,KN r c≠some y:=by
 intro y hy hb;obtain⟨j,hj,rfl⟩:=AG hy;have hx:=Ab hj;have h1:=sU h j hj;rw[Pk r live a hx]at h1;have h2:bk r b j=true:=by unfold bk;rw[hx];simpa using hb
 rw[h2,jJ,Bk,QL]at h1;refine⟨λhk=>?_,λc hc hn=>?_⟩
 ·have:=h1.1;unfold D9 at this;rw[show(r[j].Page.Kind==2)=true by simpa using hk,Cz,Bc]at this;omega
 
 obtain⟨i,i1,i2⟩:=AAY hn;have h3:=h1.2;rw[Oe]at h3;have h4:=h3 c hc;rw[i1]at h4;by_cases e:i=j
 ·rw[e]at h4;simp at h4
 
 have hi:=(Ah.1 i2).1;have h5:=sU h i hi;rw[Pk r live a i2]at h5;have h6:bk r b i=true:=by unfold bk;rw[i2];simpa using hb
 rw[h6,jJ,Bk,QL,Oe]at h5;have:=h5.2 c hc;rw[i1]at this;simp at this
theorem YA (h:IZ d r):∃l,Jk d=some l/\l.length<=10/\∀b∈l,∃x,gi d.Flash.Blocks b=some x/\x.Bad=false/\∀y∈r,y.Block=b->(y.Page.Kind=2->y.Page.Tx<d.Base)/\∀c,Ff (BT d.Store) c->KN r c≠some y:=by
 obtain⟨live,l1,l2,l3,l4⟩:=L7 h.st;have hn:=h.fl.n;unfold Jk;rw[h.scan.s,l1];simp only[Aa];rw[MW r live d.Base h.scan.len l4];simp only[Aa];have e:live.foldl (bD r) (r.map (D9 d.Base))=C1 r live d.Base:=rfl;rw[e];obtain⟨b,q1,q2⟩:=Bb (body:=λs:List Int×Int=>DX d r (C1 r live d.Base) s.1 s.2) (λ(o:List Int) i=>(o,i)) d.Flash.Blocks.length
  (λi o=>o.length<=i/\∀b∈o,∃x,gi d.Flash.Blocks b=some x/\x.Bad=false/\∀y∈r,y.Block=b->(y.Page.Kind=2->y.Page.Tx<d.Base)/\∀c,Ff (BT d.Store) c->KN r c≠some y)
  (λo=>o.length<=10/\∀b∈o,∃x,gi d.Flash.Blocks b=some x/\x.Bad=false/\∀y∈r,y.Block=b->(y.Page.Kind=2->y.Page.Tx<d.Base)/\∀c,Ff (BT d.Store) c->KN r c≠some y)
  (λo i hi ho=>by
   have hx:=Ab hi;have hP:=h.fl.blk _ (AD hi);obtain⟨nbl,_,bl⟩:=mX d.Flash.Blocks[i] (by rw[hP.four];omega);simp only[DX,A7,Ad hi,Ae,A9,hx,Aa];rw[bl,YM r _ (i:Int) h.scan.len (Kt _ _ _),ad1 (by omega)];simp only[Aa];refine .inl ?_
   cases a:d.Flash.Blocks[i].Bad with
   |true=>exact⟨o,rfl,by omega,ho.2⟩
   |false=>
    simp only[AC,Ae]
    cases g:(!(!decide (nbl<ln d.Flash.Blocks[i].Leaves)))with
    |false=>exact⟨o,rfl,by omega,ho.2⟩
    |true=>
     simp only[Ae,Aa]
     cases hz:((((cn r.length (λj=>(C1 r live d.Base)[j]?.getD false&&bk r (i:Int) j):Nat)):Int)==0)with
     |false=>exact⟨o,rfl,by omega,ho.2⟩
     |true=>
      simp only[Ae];have:=ho.1;rw[Cg (by simp;omega)];refine⟨_,rfl,by simp;omega,λb hb=>?_⟩;rw[Ai,Aw]at hb
      rcases hb with hb|rfl
      ·exact ho.2 b hb
      refine⟨_,by rw[A9];exact hx,a,λy hy f=>?_⟩;have hz':cn r.length (λj=>(C1 r live d.Base)[j]?.getD false&&bk r (i:Int) j)=0:=by
       rw[Ck]at hz;omega
      obtain⟨a1,a2⟩:=AAP hz' y hy f
      exact⟨a1,λc hc=>a2 c ((l3 c).2 hc)⟩)
  (λo ho=>⟨o,by simp only[DX,A7,Al,Ap,Ac],by omega,ho.2⟩) (s:=[]) ⟨by simp,λb hb=>by cases hb⟩
 have q1':Ar (λs:List Int×Int=>DX d r (C1 r live d.Base) s.1 s.2) ([],0)=some b:=q1;rw[q1'];exact⟨b,rfl,q2⟩
theorem JV (h:IZ d r) (h':IZ d' r') (e:Di (Bw r')=Di (Bw r)):BT d'.Store=BT d.Store/\d'.Store.Next=d.Store.Next/\d'.Base=d.Base:=by
 have h1:=h'.ab;rw[e,<-h.ab]at h1
 injection h1 with h1 h2
 exact⟨h1,h2,by rw[h'.base,h.base,e]⟩
theorem AAr (h:Lk d r) (hb:∀y∈r,y.Block=b->(y.Page.Kind=2->y.Page.Tx<d.Base)/\∀c,Ff (BT d.Store) c->KN r c≠some y) (hg:BU g) (hp:KL 0 g.Blocks=(KL 0 d.Flash.Blocks).filter λy=>y.Block !=b):
  ∃d',Dc g=some (d',true)/\d'.Flash=g/\Lk d' (r.filter λy=>y.Block !=b)/\BT d'.Store=BT d.Store/\d'.Store.Next=d.Store.Next/\d'.Base=d.Base/\∀c,Ff (BT d.Store) c->Dl (r.filter λy=>y.Block !=b) c=Dl r c:=by
 have f:SR (KL 0 g.Blocks) (r.filter λy=>y.Block !=b):=by rw[hp];exact h.dev.sr.filter _
 obtain⟨d',u1,u2,u3⟩:=NU hg f
 have hs:=fL r h.core.pages h.core.mu (λy=>y.Block !=b) (λy hy hk ht=>by
  have:y.Block≠b:=λe=>by
   have:=(hb y hy e).1 hk;rw[h.dev.base]at this;omega
  simpa using this)
 obtain⟨e1,e2,e3⟩:=JV h.dev u2 hs
 have ht:∀c,Ff (BT d.Store) c->Dl (r.filter λy=>y.Block !=b) c=Dl r c:=λc hc=>by
  obtain⟨s,a⟩:=h.data.data c hc;unfold Dl at a⊢
  cases hn:KN r c with
  |none=>rw[hn]at a;cases a
  |some y=>
   have hy:=(UW hn).1
   have:KN (r.filter λy=>y.Block !=b) c=some y:=lG _ hn (by
    have:y.Block≠b:=λe=>(hb y hy e).2 c hc hn
    simpa using this)
   rw[this]
 refine⟨d',u1,u3,⟨u2,h.core.filter _,?_⟩,e1,e2,e3,ht⟩;rw[e1];exact h.data.congr ht
end Go.TI
