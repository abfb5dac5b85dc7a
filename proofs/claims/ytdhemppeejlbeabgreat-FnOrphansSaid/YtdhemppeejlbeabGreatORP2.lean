/- A page of a chunk that no transaction behind it names. No condition; no program is in sight. -/
import Derived.Test.YtdhemppeejlbeabGreatORP1
set_option linter.unusedVariables false
set_option linter.unusedSimpArgs false
namespace Go.TI
open Go
theorem gA (u:ByteArray) (hu:(L u).length<=20000) (a:Nat) (ha:a<=(L u).length):∃n c,Do (El.mk u (a:Int) false)=some (n,c)/\c.text_=u/\(c.bad_=true\/c.bad_=false/\∃b:Nat,c.at_=b/\a<b/\b<=(L u).length)/\(c.bad_=true->c.at_=a):=by
 obtain⟨r,h1,_,h2⟩:=Ii u (a:Int) (by omega) ⟨by omega,by omega⟩;rw [Jv u _ hu h1]
 rcases h2 with⟨e1,e2,e3⟩|⟨e1,a',b,n,k1,k2,k3,k4,k5,_⟩
 ·rw [e1];exact⟨_,_,rfl,rfl,.inl rfl,λ_=>rfl⟩
 rw [e1];refine⟨_,_,rfl,rfl,.inr ⟨rfl,b,k2,by omega,k5⟩,λhh=>by cases hh⟩
theorem lO (t:ByteArray) (ht:(L t).length<=20000):∀(n a:Nat) (b:List Dk),(L t).length-a<=n->a<=(L t).length->b.length<=a->∃r,Av (λs:List Dk×ByteArray×Int×Bool=>DG t s.1 s.2.1 s.2.2.1 s.2.2.2) (b,t,(a:Int),false)=some r/\(r= .inr ([],false)\/∃l:List Dk,r= .inl l/\l.length<=(L t).length)
 |n,a,b,hn,ha,ho=>by
  rw [AA];simp only [DG];rw [BJ];by_cases c:a<(L t).length
  ·rw [Ad (by omega:(a:Int)<((L t).length:Int))];simp only [Af,Aa,AH];rw [EM t c,ad1 (by omega)];simp only [Aa];obtain⟨n1,c1,v1,t1,h1,z1⟩:=gA t ht (a+1) (by omega);rw [v1];simp only [Aa]
   rcases h1 with e1|⟨e1,b1,k1,k2,k3⟩
   ·
    have hz:=z1 e1;obtain⟨c1t,c1a,c1b⟩:=c1;simp only at t1 e1 hz;subst t1 e1 hz;rw [Hd _ _ ht ⟨by omega,by omega⟩];exact⟨_,rfl,.inl rfl⟩
   obtain⟨c1t,c1a,c1b⟩:=c1;simp only at t1 e1 k1;subst t1 e1 k1;obtain⟨n2,c2,v2,t2,h2,z2⟩:=gA c1t ht b1 k3;rw [v2];simp only [Aa]
   rcases h2 with e2|⟨e2,b2,m1,m2,m3⟩
   ·rw [e2];exact⟨_,rfl,.inl rfl⟩
   rw [e2];simp only [Ac];rw [Ma];simp only [Aa]
   cases Gk _ with
   |false=>exact⟨_,rfl,.inl rfl⟩
   |true=>
    simp only [Ak,Ac];rw [Cq (by simp;omega),t2,m1];simp only [Aa]
    match n,hn with
    |n+1,hn=>exact lO c1t ht n b2 _ (by omega) m3 (by simp;omega)
    |0,hn=>omega
  rw [Ae (by omega)];exact⟨_,rfl,.inr ⟨_,rfl,by omega⟩⟩
noncomputable def YR (t:ByteArray):Option (List Dk):=match HS t with
 |some (l,true)=>some l
 |_=>none
theorem X8 (t:ByteArray) (ht:(L t).length<=20000):∃l ok,HS t=some (l,ok)/\YR t=(if ok=true then some l else none)/\l.length<=20000:=by
 obtain⟨r,h1,h2⟩:=lO t ht (L t).length 0 [] (by omega) (by omega) (by simp);unfold YR HS;have h1':Av (λs:List Dk×ByteArray×Int×Bool=>DG t s.1 s.2.1 s.2.2.1 s.2.2.2) ([],t,0,false)=some r:=h1;rw [h1']
 rcases h2 with rfl|⟨l,rfl,h3⟩
 ·exact⟨[],false,rfl,rfl,by simp⟩
 exact⟨l,true,rfl,rfl,by omega⟩
def gU (t a b:Int) (y:A4):Bool:=y.Page.Kind==2&&(y.Page.Tx==t&&(y.Page.Part==a&&(!decide (a>0)||y.Page.Count==b)))
def P8 (r:List A4) (t a b:Int):Option A4:=r.find? (gU t a b)
variable {r m r':List A4} {t:Int} {f g:Flash} {y:A4} {α β:Type} {d:Bc} {n:Nat} {texts:List ByteArray} {p:Page} {l:List Bi} {x:Tx} {a ss:List BY} {ps:List Page}
theorem cI {i:Nat} {x:α} (l:List α) (p:α->Bool) (h:∀j x,j<i->l[j]?=some x->p x=false) (hx:l[i]?=some x) (hp:p x=true):l.find? p=some x:=by
 obtain⟨h1,h2⟩:=Jb hx;rw [h1,List.find?_append];have:(l.take i).find? p=none:=by
  rw [EV];intro y hy;obtain⟨j,hj,rfl⟩:=AF hy;rw [AE]at hj;rw [JB];rw [h j _ (by omega) (Ab _)];simp
 rw [this,Option.none_or,List.find?_cons_of_pos hp]
theorem mS (l:List α) (p:α->Bool) (h:∀(j:Nat) x,l[j]?=some x->p x=false):l.find? p=none:=by
 rw [EV];intro y hy;obtain⟨j,hj,rfl⟩:=AF hy;rw [h j _ (Ab hj)];simp
structure Ge (r:List A4):Prop where
 len:r.length<=1048576
 text:∀y∈r,(L y.Page.Text).length<=90
 seq:∀y∈r,1<=y.Page.Seq/\y.Page.Seq<=1000000000
 tx:∀y∈r,1<=y.Page.Tx/\y.Page.Tx<=1000000000
 cnt:∀y∈r,1<=y.Page.Count/\y.Page.Count<=9
 part:∀y∈r,0<=y.Page.Part/\y.Page.Part<y.Page.Count
def M2 (a seq:Int) (y:A4):Int:=if a=0\/y.Page.Seq<seq then y.Page.Seq else seq
theorem rV (r:List A4) (hr:Ge r) (t a c:Int) (hp:0<=a) (text:ByteArray) (ht:(L text).length<=10000) (seq:Int):
  ∃text2,Av (λs:Int×ByteArray×Bool×Int×Int=>IX r t a s.1 s.2.1 s.2.2.1 s.2.2.2.1 s.2.2.2.2) (c,text,false,0,seq)=some (match P8 r t a c with
   |none=>(c,text,false,seq)
   |some y=>(y.Page.Count,text2,true,M2 a seq y))/\(∀y,P8 r t a c=some y->L text2=L text++L y.Page.Text):=by
 have k:=hr.len;obtain⟨b,h1,h2⟩:=Bf (body:=λs:Int×ByteArray×Bool×Int×Int=>IX r t a s.1 s.2.1 s.2.2.1 s.2.2.2.1 s.2.2.2.2) (λ(s:Int×ByteArray×Bool×Int) i=>(s.1,s.2.1,s.2.2.1,i,s.2.2.2)) r.length
  (λi s=>(s=(c,text,false,seq)/\∀(j:Nat) x,j<i->r[j]?=some x->gU t a c x=false)\/∃y u,P8 r t a c=some y/\L u=L text++L y.Page.Text/\s=(y.Page.Count,u,true,M2 a seq y))
  (λb=>(b=(c,text,false,seq)/\P8 r t a c=none)\/∃y u,P8 r t a c=some y/\L u=L text++L y.Page.Text/\b=(y.Page.Count,u,true,M2 a seq y))
  (λs i hi hs=>by
   have hx:=Ab hi;have hm:r[i]∈r:=AC hi;simp only [IX,AG,Ad hi,Af,Aa]
   rcases hs with⟨rfl,hs⟩|⟨y,u,f1,f2,rfl⟩
   ·simp only [AH,Af,AB,hx,Aa];have f:(bif(r[i].Page.Kind !=2)then(some true)else(bif(r[i].Page.Tx !=t)then(some true)else(bif(r[i].Page.Part !=a)then(some true)else(bif(decide (a>0))then(some (r[i].Page.Count !=c))else(some false)))):Option Bool)=some (!gU t a c r[i]):=by
     unfold gU;simp only [bne];cases r[i].Page.Kind==2<;>cases r[i].Page.Tx==t<;>cases r[i].Page.Part==a<;>cases decide (a>0)<;>cases r[i].Page.Count==c<;>rfl
    rw [f];simp only [Aa];rw [ad1 (by omega)]
    cases hM:gU t a c r[i]with
    |false=>
     refine .inl ⟨_,rfl,.inl ⟨rfl,λj x hj d=>?_⟩⟩;by_cases e:j=i
     ·subst e;rw [hx]at d
      injection d with d
      rw [<-d];exact hM
     exact hs j x (by omega) d
    |true=>
     have l:=hr.text _ hm;simp only [Ak,Ac];rw [Gd _ _ (by omega)];simp only [Aa];have hf:P8 r t a c=some r[i]:=cI r _ (λj x hj d=>hs j x hj d) hx hM;have g:(bif(a==0)then(some true)else(some (decide (r[i].Page.Seq<seq))):Option Bool)=some (decide (a=0\/r[i].Page.Seq<seq)):=by
      by_cases e:a=0
      ·rw [show(a==0)=true by simpa using e,Ad (show a=0\/r[i].Page.Seq<seq from .inl e)];rfl
      rw [show(a==0)=false by simpa using e];simp only [Ac];by_cases e2:r[i].Page.Seq<seq
      ·rw [Ad e2,Ad (show a=0\/r[i].Page.Seq<seq from .inr e2)]
      rw [Ae e2,Ae (by rintro(h|h);exact e h;exact e2 h)]
     rw [g];simp only [Aa];refine .inl ⟨(r[i].Page.Count,text++r[i].Page.Text,true,M2 a seq r[i]),?_,.inr ⟨r[i],_,hf,DB _ _,rfl⟩⟩;unfold M2;by_cases e:a=0\/r[i].Page.Seq<seq
     ·rw [Ad e,Au e];rfl
     rw [Ae e,Ax e];rfl
   simp only [Ak,Ac]
   exact .inr ⟨_,rfl,.inr ⟨y,u,f1,f2,rfl⟩⟩)
  (λs hs=>by
   refine⟨s,by simp only [IX,AG,Aq,Aw,Ac,Aa],?_⟩
   rcases hs with⟨rfl,hs⟩|hs
   ·exact .inl ⟨rfl,mS r _ λj x hx=>hs j x (Ag.1 hx).1 hx⟩
   exact .inr hs) (s:=(c,text,false,seq)) (.inl ⟨rfl,λj x hj=>by omega⟩)
 have h1':Av (λs:Int×ByteArray×Bool×Int×Int=>IX r t a s.1 s.2.1 s.2.2.1 s.2.2.2.1 s.2.2.2.2) (c,text,false,0,seq)=some b:=h1;rw [h1']
 rcases h2 with⟨rfl,h2⟩|⟨y,u,f1,f2,rfl⟩
 ·rw [h2];exact⟨text,rfl,λy hy=>by cases hy⟩
 rw [f1];refine⟨u,rfl,λz hz=>?_⟩
 injection hz with hz
 rw [<-hz];exact f2
def parts (r:List A4) (t:Int):Nat->Int->Int->List UInt8->Int->Option (List UInt8×Int)
 |0,_,_,_,_=>none
 |n+1,a,c,b,seq=>if a=0\/a<c then(match P8 r t a c with
  |none=>none
  |some y=>parts r t n (a+1) y.Page.Count (b++L y.Page.Text) (M2 a seq y))else some (b,seq)
theorem mJ {t a b:Int} (h:gU t a b y=true) (hp:0<a):y.Page.Count=b:=by
 unfold gU at h;simp only [Al,Cy,C8,AX,Dn]at h
 rcases h.2.2.2 with h|h
 ·omega
 exact h
theorem Qu {t a b:Int} (h:P8 r t a b=some y):y∈r/\gU t a b y=true:=⟨List.mem_of_find?_eq_some h,List.find?_some h⟩
theorem e9 (r:List A4) (hr:Ge r) (t:Int):∀(n:Nat) (part cnt:Int) (text:ByteArray) (seq:Int),part+n=11->0<=part->(part=0\/(part<=cnt/\cnt<=9))->(L text).length<=90*part.toNat->
  ∃b,Av (λs:Int×ByteArray×Int×Int=>Ot r t s.1 s.2.1 s.2.2.1 s.2.2.2) (cnt,text,part,seq)=some b/\(match parts r t n part cnt (L text) seq with
   |none=>∃q,b= .inr (Tx.mk t q [],false)
   |some (x,q)=>∃u,b= .inl (u,q)/\L u=x/\(L u).length<=1000)
 |0,part,cnt,text,seq,hn,h0,hc,ht=>by omega
 |n+1,part,cnt,text,seq,hn,h0,hc,ht=>by
  rw [AA];simp only [Ot,parts];have a:(bif(part==0)then(some true)else(some (decide (part<cnt))):Option Bool)=some (decide (part=0\/part<cnt)):=by
   by_cases e:part=0
   ·rw [show(part==0)=true by simpa using e,Ad (show part=0\/part<cnt from .inl e)];rfl
   rw [show(part==0)=false by simpa using e];simp only [Ac];by_cases e2:part<cnt
   ·rw [Ad e2,Ad (show part=0\/part<cnt from .inr e2)]
   rw [Ae e2,Ae (by rintro(h|h);exact e h;exact e2 h)]
  rw [a];simp only [Aa];by_cases e:part=0\/part<cnt
  ·rw [Ad e,Au e];simp only [Af];obtain⟨text2,h1,h2⟩:=rV r hr t part cnt h0 text (by omega) seq;rw [h1]
   cases hf:P8 r t part cnt with
   |none=>
    simp only [Aa,AH,Af];exact⟨_,rfl,_,rfl⟩
   |some y=>
    simp only [Aa,Ak,Ac];have hy:=Qu hf;have hL:=h2 y hf;have c:=hr.text y hy.1;have d:=hr.cnt y hy.1;rw [Cx (by omega) (by omega),<-hL];refine e9 r hr t n (part+1) y.Page.Count text2 _ (by omega) (by omega) (.inr ?_) ?_
    ·rcases e with e|e
     ·have:=hr.part y hy.1;omega
     by_cases e2:part=0
     ·omega
     have:=mJ hy.2 (by omega);omega
    rw [hL,Ah];omega
  rw [Ae e,Ax e];simp only [Ac];exact⟨_,rfl,text,rfl,rfl,by omega⟩
noncomputable def H1 (r:List A4) (t:Int):Option Tx:=match parts r t 11 0 0 [] 0 with
 |none=>none
 |some (x,q)=>(YR (bs x)).map λl=>Tx.mk t q l
theorem AAH (u:ByteArray):bs (L u)=u:=Ij (by rw [DP])
theorem YF (r:List A4) (hr:Ge r) (t:Int):∃x ok,V8 r t=some (x,ok)/\H1 r t=(if ok=true then some x else none)/\x.Recs.length<=20000:=by
 obtain⟨b,h1,h2⟩:=e9 r hr t 11 0 0 (bs []) 0 (by omega) (by omega) (.inl rfl) (by rw [DP];simp);rw [DP]at h2;unfold V8 H1;rw [h1];simp only [Aa]
 cases hp:parts r t 11 0 0 [] 0 with
 |none=>
  rw [hp]at h2;obtain⟨z,rfl⟩:=h2;exact⟨_,_,rfl,rfl,by simp⟩
 |some w=>
  obtain⟨x,q⟩:=w;rw [hp]at h2;obtain⟨u,rfl,rfl,h4⟩:=h2;simp only [BA];obtain⟨l,ok,r1,r2,r3⟩:=X8 u (by omega);rw [r1,AAH,r2];simp only [Aa]
  cases ok with
  |true=>exact⟨_,_,rfl,rfl,r3⟩
  |false=>exact⟨_,_,rfl,rfl,r3⟩
theorem SL {P:List α->Prop} (nil:P []) (app:∀l x,P l->P (l++ [x])) (l:List α):P l:=by
 rw [<-List.reverse_reverse l]
 induction l.reverse with
 |nil=>exact nil
 |cons x l ih=>rw [List.reverse_cons];exact app _ _ ih
def Dj (r:List A4):List Int:=r.foldl (λns y=>if y.Page.Kind=2 then r9 ns y.Page.Tx else ns) []
theorem SU (r:List A4) (y:A4):Dj (r++ [y])=if y.Page.Kind=2 then r9 (Dj r) y.Page.Tx else Dj r:=by unfold Dj;rw [H8];rfl
theorem G8 (r:List A4) (h:∀y∈r,1<=y.Page.Tx):asc (Dj r)/\(∀x,x∈Dj r↔∃y∈r,y.Page.Kind=2/\y.Page.Tx=x)/\(Dj r).length<=r.length:=by
 have main:∀n,n<=r.length->asc (Dj (r.take n))/\(∀x,x∈Dj (r.take n)↔∃y∈r.take n,y.Page.Kind=2/\y.Page.Tx=x)/\(Dj (r.take n)).length<=n:=by
  intro n
  induction n with
  |zero=>intro _;simp [Dj,asc]
  |succ n ih=>
   intro hn;obtain⟨h1,h2,h3⟩:=ih (by omega);have et:r.take (n+1)=r.take n++ [r[n]'(by omega)]:=Ap (by omega);have hy:=h _ (AC (show n<r.length by omega));generalize r[n]'(by omega)=y at et hy;rw [et,SU]
   have a:∀z∈Dj (r.take n),0<z:=λz hz=>by
    obtain⟨w,hw,_,h5⟩:=(h2 z).1 hz;have:=h w (List.mem_of_mem_take hw);omega
   by_cases e:y.Page.Kind=2
   ·rw [Au e];refine⟨mO h1,λx=>?_,by have:=WZ (Dj (r.take n)) y.Page.Tx h1;omega⟩;rw [mN a,h2 x];simp only [Ai,Ay];constructor
    ·rintro(⟨w,hw,hk,ht⟩|⟨rfl,h0⟩)
     ·exact⟨w,.inl hw,hk,ht⟩
     exact⟨y,.inr rfl,e,rfl⟩
    rintro⟨w,hw|rfl,hk,ht⟩
    ·exact .inl ⟨w,hw,hk,ht⟩
    exact .inr ⟨ht.symm,by omega⟩
   rw [Ax e];refine⟨h1,λx=>?_,by omega⟩;rw [h2 x];simp only [Ai,Ay];constructor
   ·rintro⟨w,hw,hk,ht⟩;exact⟨w,.inl hw,hk,ht⟩
   rintro⟨w,hw|rfl,hk,ht⟩
   ·exact⟨w,hw,hk,ht⟩
   exact absurd hk e
 have:=main r.length (A3 _);rw [AL]at this;exact this
theorem XX (r:List A4) (hr:Ge r):Av (λs:List Int×Int=>Jt r s.1 s.2) ([],0)=some (Dj r):=by
 have d:=hr.len;obtain⟨b,h1,h2⟩:=Bf (body:=λs:List Int×Int=>Jt r s.1 s.2) (λ(o:List Int) i=>(o,i)) r.length (λi o=>o=Dj (r.take i)) (λb=>b=Dj r)
  (λo i hi ho=>by
   have hx:=Ab hi;have hm:r[i]∈r:=AC hi;have f:=(hr.tx _ hm).1;have a:=G8 (r.take i) (λy hy=>(hr.tx y (List.mem_of_mem_take hy)).1);have g:o.length<=1048576:=by rw [ho];have:=a.2.2;rw [AE]at this;omega
   have et:r.take (i+1)=r.take i++ [r[i]]:=Ap hi;simp only [Jt,AG,Ad hi,Af,AB,hx,Aa];rw [ad1 (by omega)];refine .inl ?_;by_cases e:r[i].Page.Kind=2
   ·rw [show(r[i].Page.Kind !=2)=false by simp [e]];simp only [Ac]
    rw [Rf (body:=λs:List Int×Int=>Lh o r[i] s.1 s.2) o (λy=>decide (y<r[i].Page.Tx)) [] (by simp;omega)
     (λu k x hk hu=>by
      have c:=(Ag.1 hk).1
      simp only [Lh,AG,Ad c,Af,AB,hk,Aa])
     (λu=>by simp only [Lh,AG,Aq,Aw,Ac])]
    simp only [Aa,A5];have h:=CF (λy=>decide (y<r[i].Page.Tx)) o;rw [Cq (by simp only [An];omega)];simp only [Aa]
    rw [Rf (body:=λs:List Int×Int=>Lg o r[i] s.1 s.2) o (λy=>decide (y>r[i].Page.Tx)) _ (by simp only [Ah,An];omega)
     (λu k x hk hu=>by
      have c:=(Ag.1 hk).1
      simp only [Lg,AG,Ad c,Af,AB,hk,Aa])
     (λu=>by simp only [Lg,AG,Aq,Aw,Ac])]
    simp only [Aa];refine⟨_,rfl,?_⟩;rw [et,SU,Au e,<-ho];unfold r9;rw [Au (by omega)]
   rw [show(r[i].Page.Kind !=2)=true by simpa using e]
   exact⟨o,rfl,by rw [et,SU,Ax e,ho]⟩)
  (λo ho=>⟨o,by simp only [Jt,AG,Aq,Aw,Ac],by rw [ho,AL]⟩) (s:=[]) rfl
 rw [h2]at h1;exact h1
noncomputable def Bx (r:List A4):List Tx:=(Dj r).filterMap (H1 r)
theorem Q9 (hr:Ge r) (h:H1 r t=some x):x.Num=t/\x.Recs.length<=20000:=by
 obtain⟨z,ok,h1,h2,h3⟩:=YF r hr t;rw [h]at h2
 cases ok with
 |false=>cases h2
 |true=>
  rw [Au rfl]at h2
  injection h2 with h2
  subst h2;refine⟨?_,h3⟩;unfold H1 at h;split at h
  ·cases h
  obtain⟨l,_,rfl⟩:=AY.1 h;rfl
theorem PO (r:List A4) (hr:Ge r):PP r=some (Bx r):=by
 have c:=hr.len;have a:=G8 r (λy hy=>(hr.tx y hy).1);have d:=a.2.2;unfold PP;rw [XX r hr];simp only [Aa];obtain⟨b,h1,h2⟩:=Bf (body:=λs:List Tx×Int=>Js r (Dj r) s.1 s.2) (λ(o:List Tx) i=>(o,i)) (Dj r).length (λi o=>o=((Dj r).take i).filterMap (H1 r)) (λb=>b=Bx r)
  (λo i hi ho=>by
   have hx:=Ab hi;have et:(Dj r).take (i+1)=(Dj r).take i++ [(Dj r)[i]]:=Ap hi;have e:o.length<=i:=by
    rw [ho];have:=List.length_filterMap_le (H1 r) ((Dj r).take i);rw [AE]at this;omega
   simp only [Js,AG,Ad hi,Af,AB,hx,Aa];rw [ad1 (by omega)];obtain⟨z,ok,k1,k2,k3⟩:=YF r hr (Dj r)[i];rw [k1];simp only [Aa];refine .inl ?_
   cases ok with
   |true=>
    simp only [Af];rw [Cq (by simp only [An];omega)];refine⟨_,rfl,?_⟩;rw [et,J8,ho];simp only [PB,List.filterMap_nil,k2,BX]
   |false=>
    refine⟨o,rfl,?_⟩;rw [et,J8,ho]
    simp [k2])
  (λo ho=>⟨o,by simp only [Js,AG,Aq,Aw,Ac],by rw [ho,AL];rfl⟩) (s:=[]) rfl
 have h1':Av (λs:List Tx×Int=>Js r (Dj r) s.1 s.2) ([],0)=some b:=h1;rw [h1',h2];rfl
def Zp (x:Tx):Bool:=match x.Recs with
 |[]=>false
 |r::_=>r.Kind==1
def kA (l:List Tx):Nat:=l.zipIdx.foldl (λa z=>if Zp z.1=true then z.2 else a) 0
def CZ (l:List Tx):List Tx:=l.drop (kA l)
theorem Pm (l:List Tx) (x:Tx):kA (l++ [x])=if Zp x=true then l.length else kA l:=by
 unfold kA;rw [List.zipIdx_append,H8];simp
theorem j9 (l:List Tx):kA l<=l.length:=by
 induction l using SL with
 |nil=>simp [kA]
 |app l x ih=>
  rw [Pm,Ah];split<;>simp<;>omega
theorem QC (l:List Tx) (x:Tx):CZ (l++ [x])=if Zp x=true then [x]else CZ l++ [x]:=by
 unfold CZ;rw [Pm];by_cases e:Zp x=true
 ·rw [Au e,Au e,EF rfl]
 rw [Ax e,Ax e,List.drop_append_of_le_length (j9 l)]
theorem dM (l:List Tx):∃A,l=A++CZ l/\(A≠ []->∃x B,CZ l=x::B/\Zp x=true)/\∀x B,CZ l=x::B->∀y∈B,Zp y=false:=by
 induction l using SL with
 |nil=>exact⟨[],rfl,λh=>absurd rfl h,λx B h=>by cases h⟩
 |app l x ih=>
  obtain⟨A,h1,h2,h3⟩:=ih;rw [QC];by_cases e:Zp x=true
  ·rw [Au e];exact⟨l,rfl,λ_=>⟨x,[],rfl,e⟩,λy B h=>by injection h with _ h;subst h;intro z hz;cases hz⟩
  rw [Ax e];refine⟨A,by rw [<-Ao,<-h1],λhA=>?_,λy B h=>?_⟩
  ·obtain⟨y,B,h4,h5⟩:=h2 hA;exact⟨y,B++ [x],by rw [h4];rfl,h5⟩
  cases hs:CZ l with
  |nil=>
   rw [hs]at h
   injection h with _ h
   subst h;intro z hz;cases hz
  |cons w B'=>
   rw [hs]at h
   injection h with h4 h5
   subst h4 h5;intro z hz;have hz:z∈B'++ [x]:=hz;rw [Ai,Ay]at hz
   rcases hz with hz|rfl
   ·exact h3 w B' hs z hz
   simpa using e
theorem pV (A:List Tx):∀(B:List Tx),(A≠ []->∃x B',B=x::B'/\Zp x=true)->(∀x B',B=x::B'->∀y∈B',Zp y=false)->CZ (A++B)=B:=by
 intro B
 induction B using SL with
 |nil=>
  intro h1 _
  cases A with
  |nil=>rfl
  |cons a A=>obtain⟨x,B',h,_⟩:=h1 (by simp);cases h
 |app B y ih=>
  intro h1 h2;rw [<-Ao,QC]
  cases B with
  |nil=>
   by_cases e:Zp y=true
   ·rw [Au e];rfl
   rw [Ax e]
   cases A with
   |nil=>rfl
   |cons a A=>
    obtain⟨x,B',h,h3⟩:=h1 (by simp)
    injection h with h4 h5
    rw [h4]at e;exact absurd h3 e
  |cons b B=>
   have hy:Zp y=false:=h2 b (B++ [y]) rfl y (by simp);rw [Ax (by rw [hy];simp),ih]
   ·intro hA;obtain⟨x,B',h,h3⟩:=h1 hA
    injection h with h4 h5
    exact⟨b,B,rfl,by rw [h4];exact h3⟩
   intro x B' h z hz
   injection h with h4 h5
   subst h4 h5;exact h2 b (B++ [y]) rfl z (by simp [hz])
theorem PN (l:List Tx) (hl:l.length<=1048576) (hr:∀x∈l,x.Recs.length<=20000):MS l=some (CZ l):=by
 unfold MS;obtain⟨b,h1,h2⟩:=Bf (body:=λs:Int×Int=>Gw l s.1 s.2) (λ(o:Int) i=>(o,i)) l.length (λi o=>o=(kA (l.take i):Int)) (λb=>b=(kA l:Int))
  (λo i hi ho=>by
   have hx:=Ab hi;have et:l.take (i+1)=l.take i++ [l[i]]:=Ap hi;simp only [Gw,AG,Ad hi,Af,AB,hx,Aa];rw [ad1 (by omega)];refine .inl ?_;have d:(l.take i).length=i:=by rw [AE];omega
   cases a:l[i].Recs with
   |nil=>
    refine⟨o,rfl,?_⟩;rw [et,Pm,Ax (by unfold Zp;rw [a];simp),ho]
   |cons q m=>
    have hg:gi (q::m) 0=some q:=AB (i:=0);rw [Ad (by rw [BW,Az];omega:ln (q::m)>0)];simp only [Af,hg,Aa]
    cases hk:(q.Kind==1)with
    |true=>
     refine⟨(i:Int),rfl,?_⟩;rw [et,Pm,Au (by unfold Zp;rw [a];exact hk),d]
    |false=>
     refine⟨o,rfl,?_⟩
     rw [et,Pm,Ax (by unfold Zp;rw [a];simp only [];rw [hk];simp),ho])
  (λo ho=>⟨o,by simp only [Gw,AG,Aq,Aw,Ac],by rw [ho,AL]⟩) (s:=0) rfl
 have h1':Av (λs:Int×Int=>Gw l s.1 s.2) (0,0)=some b:=h1;rw [h1',h2];simp only [Aa];have e:=j9 l;obtain⟨c,q1,q2⟩:=Tc (body:=λs:List Tx×Int=>HP l s.1 s.2) (λ(o:List Tx) i=>(o,i)) l.length (λi o=>o=(l.take i).drop (kA l)/\kA l<=i) (λb=>b=CZ l)
  (λo i hi hs=>by
   obtain⟨ho,f⟩:=hs;have hx:=Ab hi;have hm:l[i]∈l:=AC hi;have g:=hr _ hm;have et:l.take (i+1)=l.take i++ [l[i]]:=Ap hi;have h:o.length<=1048576:=by rw [ho,B6,AE];omega
   simp only [HP,AG,Ad hi,Af,AB,hx,Aa];rw [K9 (by omega)];simp only [Aa];rw [Cq (by simp only [An];omega)];simp only [Aa];rw [ad1 (by omega)];refine .inl ⟨_,rfl,?_,by omega⟩
   rw [et,List.drop_append_of_le_length (by rw [AE];omega),<-ho])
  (λo hs=>⟨o,by simp only [HP,AG,Aq,Aw,Ac],by rw [hs.1,AL];rfl⟩) (l.length-kA l) (kA l) [] (by omega) ⟨by rw [CR];rw [AE];omega,A3 _⟩
 rw [q1,q2];rfl
def CY (l:Vs) (nx:Int) (a:List Dk):Option (Vs×Int):=a.foldl (λo r=>o.bind λp=>DY p.1 p.2 r) (some (l,nx))
theorem Qx (a:List Dk):a.foldl (λ(o:Option (Vs×Int)) r=>o.bind λp=>DY p.1 p.2 r) none=none:=by
 induction a with
 |nil=>rfl
 |cons r l ih=>rw [LD];exact ih
theorem Fd (l:Vs) (nx:Int) (r:Dk) (a:List Dk):CY l nx (r::a)=(DY l nx r).bind λp=>CY p.1 p.2 a:=by
 unfold CY;rw [LD];simp only [Aa]
 cases DY l nx r with
 |none=>exact Qx a
 |some p=>rfl
theorem KQ (l:Vs) (nx:Int) (a b:List Dk):CY l nx (a++b)=(CY l nx a).bind λp=>CY p.1 p.2 b:=by
 unfold CY;rw [H8]
 cases a.foldl (λ(o:Option (Vs×Int)) r=>o.bind λp=>DY p.1 p.2 r) (some (l,nx))with
 |none=>exact Qx b
 |some p=>rfl
def OK (s:Store) (a:List Dk) (o:Option (Store×Bool)):Prop:=match CY (BK s) s.Next a with
 |none=>o=some (s,false)
 |some (l,nx)=>∃t,o=some (t,true)/\CV t/\BK t=l/\t.Next=nx
theorem UY {s:Store} (h:CV s) (a:List Dk) (hr:a.length<=1048576):OK s a (Ku s a):=by
 have hl:=h.len;have e:=KS h.ar (by have:=h.few;omega);have c:=FH s e (by omega);unfold Ku;rw [c];simp only [Aa];obtain⟨b,h1,h2⟩:=Bf (body:=λq:Int×List Vol×List BI×Int=>DH s a q.1 q.2.1 q.2.2.1 q.2.2.2) (λ(t:Store) i=>(i,t.Vols,t.Arena.Knots,t.Next)) a.length
  (λi t=>CV t/\CY (BK s) s.Next (a.take i)=some (BK t,t.Next))
  (λb=>(b= .inr (s,false)/\CY (BK s) s.Next a=none)\/∃t,b= .inl (t.Vols,t.Arena.Knots,t.Next)/\CV t/\CY (BK s) s.Next a=some (BK t,t.Next))
  (λt i hi hs=>by
   obtain⟨hP,he⟩:=hs;have hx:=Ab hi;obtain⟨e1,e2⟩:=Jb hx;have et:a.take (i+1)=a.take i++ [a[i]]:=Ap hi;simp only [DH,AG,Ad hi,Af,AB,hx,Aa];have d:=Xp hP a[i];unfold KJ at d;have f:Store.mk t.Vols (Arena.mk t.Arena.Knots) t.Next=t:=rfl;rw [f]
   cases hv:DY (BK t) t.Next a[i]with
   |none=>
    rw [hv]at d;rw [d];simp only [Aa,AH,Af];rw [c];refine .inr ⟨_,rfl,.inl ⟨rfl,?_⟩⟩;rw [e1,KQ,he];simp only [Aa];rw [Fd,hv];rfl
   |some p=>
    obtain⟨l,nx⟩:=p;rw [hv]at d;obtain⟨u,u1,u2,u3,u4⟩:=d;rw [u1];simp only [Aa,Ak,Ac];rw [ad1 (by omega)];refine .inl ⟨u,rfl,u2,?_⟩;rw [et,KQ,he];simp only [Aa];rw [Fd,hv];simp only [Aa];rw [u3,u4]
    rfl)
  (λt hs=>⟨_,by simp only [DH,AG,Aq,Aw,Ac],.inr ⟨t,rfl,hs.1,by rw [<-hs.2,AL]⟩⟩) (s:=s) ⟨h,rfl⟩
 have h1':Av (λq:Int×List Vol×List BI×Int=>DH s a q.1 q.2.1 q.2.2.1 q.2.2.2) (0,s.Vols,s.Arena.Knots,s.Next)=some b:=h1;rw [h1'];unfold OK
 rcases h2 with⟨rfl,h2⟩|⟨t,rfl,h2,h3⟩
 ·rw [h2];rfl
 rw [h3];exact⟨t,rfl,h2,rfl,rfl⟩
def Da (r:List A4):Int:=r.foldl (λm y=>if y.Page.Seq>=m then y.Page.Seq+1 else m) 1
def D0 (r:List A4):Int:=r.foldl (λm y=>if y.Page.Kind=2/\y.Page.Tx>=m then y.Page.Tx+1 else m) 1
def K8 (l:List Tx):Int:=match l with
 |[]=>0
 |x::_=>x.Num
def Kx (l:List Tx):Vs×Int:=l.foldl (λp x=>(CY p.1 p.2 x.Recs).getD p) ([],1)
theorem V7 (r:List A4) (y:A4):Da (r++ [y])=if y.Page.Seq>=Da r then y.Page.Seq+1 else Da r:=by unfold Da;rw [H8];rfl
theorem Q8 (r:List A4) (y:A4):D0 (r++ [y])=if y.Page.Kind=2/\y.Page.Tx>=D0 r then y.Page.Tx+1 else D0 r:=by unfold D0;rw [H8];rfl
theorem Mn (r:List A4):(∀y∈r,y.Page.Seq<Da r)/\1<=Da r/\(∀b,1<=b->(∀y∈r,y.Page.Seq<b)->Da r<=b):=by
 induction r using SL with
 |nil=>exact⟨λy hy=>(by cases hy),by simp [Da],λb hb _=>by simpa [Da]using hb⟩
 |app r x ih=>
  obtain⟨h1,h2,h3⟩:=ih;rw [V7];refine⟨λy hy=>?_,?_,λb hb a=>?_⟩
  ·rw [Ai,Ay]at hy
   rcases hy with hy|rfl
   ·have:=h1 y hy;split<;>omega
   split<;>omega
  ·split<;>omega
  have:=h3 b hb (λy hy=>a y (by simp [hy]));have:=a x (by simp);split<;>omega
theorem TC (r:List A4):(∀y∈r,y.Page.Kind=2->y.Page.Tx<D0 r)/\1<=D0 r/\(∀b,1<=b->(∀y∈r,y.Page.Kind=2->y.Page.Tx<b)->D0 r<=b):=by
 induction r using SL with
 |nil=>exact⟨λy hy=>(by cases hy),by simp [D0],λb hb _=>by simpa [D0]using hb⟩
 |app r x ih=>
  obtain⟨h1,h2,h3⟩:=ih;rw [Q8];refine⟨λy hy hk=>?_,?_,λb hb a=>?_⟩
  ·rw [Ai,Ay]at hy
   rcases hy with hy|rfl
   ·have:=h1 y hy hk;split<;>omega
   split
   ·omega
   rename_i h;have:¬y.Page.Tx>=D0 r:=λhh=>h ⟨hk,hh⟩;omega
  ·split<;>omega
  have:=h3 b hb (λy hy=>a y (by simp [hy]));split
  ·rename_i h;have:=a x (by simp) h.1;omega
  omega
theorem TT (h:tK f r) (hf:BL f):Ge r:=by
 have a:∀y∈r,(1<=y.Page.Seq/\y.Page.Seq<=1000000000)/\(1<=y.Page.Tx/\y.Page.Tx<=1000000000)/\(1<=y.Page.Count/\y.Page.Count<=9)/\(0<=y.Page.Part/\y.Page.Part<y.Page.Count):=by
  intro y hy;obtain⟨b,x,g1,g2,_,g3⟩:=h.page y hy;obtain⟨_,k1⟩:=D6 g1;obtain⟨_,k2⟩:=D6 g2;have hx:=hf.text b (A6 k1) x (A6 k2);obtain⟨p,ok,m1,_,_,m2⟩:=J7 x.Text (by omega);rw [g3]at m1
  injection m1 with m1
  injection m1 with m1 m3
  have hp:=m2 m3.symm;obtain⟨v,q1,_,q2⟩:=Uu p;rw [hp]at q1
  injection q1 with q1
  obtain⟨_,a1,a2,a3,a4,_⟩:=q2 q1.symm;rw [m1];exact⟨a1,a2,a3,a4⟩
 exact⟨h.len,h.text,λy hy=>(a y hy).1,λy hy=>(a y hy).2.1,λy hy=>(a y hy).2.2.1,λy hy=>(a y hy).2.2.2⟩
theorem SI (r:List A4) (hr:Ge r):Av (λs:Int×Int×Int=>Hq r s.1 s.2.1 s.2.2) (0,1,1)=some (Da r,D0 r):=by
 have c:=hr.len;obtain⟨b,h1,h2⟩:=Bf (body:=λs:Int×Int×Int=>Hq r s.1 s.2.1 s.2.2) (λ(o:Int×Int) i=>(i,o.1,o.2)) r.length (λi o=>o=(Da (r.take i),D0 (r.take i))) (λb=>b=(Da r,D0 r))
  (λo i hi ho=>by
   subst ho;have hx:=Ab hi;have hm:r[i]∈r:=AC hi;have hs:=hr.seq _ hm;have ht:=hr.tx _ hm;have et:r.take (i+1)=r.take i++ [r[i]]:=Ap hi;simp only [Hq,AG,Ad hi,Af,AB,hx,Aa];rw [et,V7,Q8,ad1 (by omega)];have a:(bif(decide (r[i].Page.Seq>=Da (r.take i)))then(some (ad r[i].Page.Seq 1))else(some (Da (r.take i))):Option Int)=some (if r[i].Page.Seq>=Da (r.take i)then r[i].Page.Seq+1 else Da (r.take i)):=by
    by_cases e:r[i].Page.Seq>=Da (r.take i)
    ·rw [Ad e,Au e,Cx (by omega) (by omega)];rfl
    rw [Ae e,Ax e];rfl
   rw [a];simp only [Aa];refine .inl ?_;by_cases e:r[i].Page.Kind=2
   ·rw [show(r[i].Page.Kind==2)=true by simpa using e];simp only [Af,Aa];by_cases e2:r[i].Page.Tx>=D0 (r.take i)
    ·rw [Ad e2,Au (show r[i].Page.Kind=2/\r[i].Page.Tx>=D0 (r.take i)from⟨e,e2⟩),Cx (by omega) (by omega)];exact⟨(_,_),rfl,rfl⟩
    rw [Ae e2,Ax (show¬(r[i].Page.Kind=2/\r[i].Page.Tx>=D0 (r.take i))from λhh=>e2 hh.2)];exact⟨(_,_),rfl,rfl⟩
   rw [show(r[i].Page.Kind==2)=false by simpa using e,Ax (show¬(r[i].Page.Kind=2/\r[i].Page.Tx>=D0 (r.take i))from λhh=>e hh.1)]
   exact⟨(_,_),rfl,rfl⟩)
  (λo ho=>⟨o,by simp only [Hq,AG,Aq,Aw,Ac],by rw [ho,AL]⟩) (s:=(1,1)) rfl
 rw [h2]at h1;exact h1
theorem YA:CV (Store.mk [] (Arena.mk []) 1):=by
 refine⟨⟨by simp,rfl,by simp,by simp,by simp,by simp [B9],by simp [B9],by simp⟩,by simp⟩
theorem WT (l:List Tx) (x:Tx):Kx (l++ [x])=(CY (Kx l).1 (Kx l).2 x.Recs).getD (Kx l):=by unfold Kx;rw [H8];rfl
theorem W8 (l:List Tx) (hl:l.length<=1048576) (hr:∀x∈l,x.Recs.length<=20000):∃t,Av (λs:Int×List Vol×List BI×Int×Int=>Dt l s.1 s.2.1 s.2.2.1 s.2.2.2.1 s.2.2.2.2) (0,[],[],1,0)=some (t.Vols,t.Arena.Knots,t.Next,K8 l)/\CV t/\(BK t,t.Next)=Kx l:=by
 obtain⟨b,h1,t,h2,h3,h4⟩:=Bf (body:=λs:Int×List Vol×List BI×Int×Int=>Dt l s.1 s.2.1 s.2.2.1 s.2.2.2.1 s.2.2.2.2) (λ(o:Store×Int) i=>(i,o.1.Vols,o.1.Arena.Knots,o.1.Next,o.2)) l.length
  (λi o=>CV o.1/\(BK o.1,o.1.Next)=Kx (l.take i)/\o.2=K8 (l.take i)) (λb=>∃t,b=(t.Vols,t.Arena.Knots,t.Next,K8 l)/\CV t/\(BK t,t.Next)=Kx l)
  (λo i hi hs=>by
   obtain⟨t,bs0⟩:=o;obtain⟨hP,hv,hb⟩:=hs;simp only at hP hv hb;have hx:=Ab hi;have hm:l[i]∈l:=AC hi;have j:=hr _ hm;have et:l.take (i+1)=l.take i++ [l[i]]:=Ap hi;simp only [Dt,AG,Ad hi,Af,AB,hx,Aa];have g:(bif((i:Int)==0)then(some l[i].Num)else(some bs0):Option Int)=some (K8 (l.take (i+1))):=by
    by_cases e:i=0
    ·subst e;rw [et];simp [K8]
    rw [show((i:Int)==0)=false by simp;omega,hb,et];simp only [Ac]
    cases h5:l.take i with
    |nil=>
     have:=Ca List.length h5;rw [AE,Bm]at this;omega
    |cons a m=>rfl
   rw [g];simp only [Aa];have d:=UY hP l[i].Recs (by omega);unfold OK at d;have h:Store.mk t.Vols (Arena.mk t.Arena.Knots) t.Next=t:=rfl;have e1:BK t=(Kx (l.take i)).1:=Ca Prod.fst hv;have e2:t.Next=(Kx (l.take i)).2:=Ca Prod.snd hv;rw [h,ad1 (by omega)];refine .inl ?_;have f:=WT (l.take i) l[i];rw [<-et]at f
   cases c:CY (BK t) t.Next l[i].Recs with
   |none=>
    rw [c]at d;rw [d];refine⟨(t,K8 (l.take (i+1))),rfl,hP,?_,rfl⟩;rw [f,<-e1,<-e2,c,Option.getD_none];exact hv
   |some p=>
    obtain⟨lv,nx⟩:=p;rw [c]at d;obtain⟨u,u1,u2,u3,u4⟩:=d;rw [u1];refine⟨(u,K8 (l.take (i+1))),rfl,u2,?_,rfl⟩;rw [f,<-e1,<-e2,c,Bw];show(BK u,u.Next)=(lv,nx)
    rw [u3,u4])
  (λo hs=>⟨(o.1.Vols,o.1.Arena.Knots,o.1.Next,o.2),by simp only [Dt,AG,Aq,Aw,Ac],o.1,by rw [hs.2.2,AL],hs.1,by rw [hs.2.1,AL]⟩) (s:=(Store.mk [] (Arena.mk []) 1,0)) ⟨YA,rfl,rfl⟩
 exact⟨t,by rw [<-h2];exact h1,h3,h4⟩
structure Lv (d:Bc) (r:List A4):Prop where
 fl:BL d.Flash
 scan:tK d.Flash r
 sr:SR (JQ 0 d.Flash.Blocks) r
 st:CV d.Store
 ab:(BK d.Store,d.Store.Next)=Kx (CZ (Bx r))
 seq:d.Seq=Da r
 tx:d.Tx=D0 r
 base:d.Base=K8 (CZ (Bx r))
theorem Lv.pages (h:Lv d r):Ge r:=TT h.scan h.fl
theorem Sd (hr:Ge r):(Bx r).length<=1048576/\∀x∈Bx r,x.Recs.length<=20000:=by
 have b:=hr.len;have a:=G8 r (λy hy=>(hr.tx y hy).1);have:=List.length_filterMap_le (H1 r) (Dj r);refine⟨by unfold Bx;omega,λx hx=>?_⟩;obtain⟨t,_,ht⟩:=List.mem_filterMap.1 hx;exact(Q9 hr ht).2
theorem QB (l:List Tx):(CZ l).length<=l.length/\∀x∈CZ l,x∈l:=⟨by unfold CZ;rw [B6];omega,λx hx=>List.mem_of_mem_drop hx⟩
theorem SJ (hf:BL f):∃d r,CP f=some (d,true)/\Lv d r/\d.Flash=f:=by
 obtain⟨r,hs,a⟩:=tJ hf;have hr:=TT hs hf;obtain⟨g1,g2⟩:=Sd hr;obtain⟨b1,b2⟩:=QB (Bx r);obtain⟨t,t1,t2,t3⟩:=W8 (CZ (Bx r)) (by omega) (λx hx=>g2 x (b2 x hx));refine⟨Bc.mk f t (Da r) (D0 r) (K8 (CZ (Bx r))),r,?_,⟨hf,hs,a,t2,t3,rfl,rfl,rfl⟩,rfl⟩;unfold CP;rw [Oc hf,hs.s,FR f hf.cap];unfold Ms;simp only [Aa,Ak,Ac];rw [SI r hr,PO r hr];simp only [Aa];rw [PN _ g1 g2];simp only [Aa];rw [t1];rfl
theorem dP (a b:List Int) (ha:a.length<=1048576):KG a b=some (decide (a=b)):=by
 unfold KG;by_cases hl:a.length=b.length
 ·rw [show(ln a !=ln b)=false by simp [ln,hl]];simp only [Ac]
  rw [mT (body:=λs:Int=>Gt a b s) a b (λx y=>x==y) hl (by omega)
   (λi x y hx hy=>by
    have hi:=(Ag.1 hx).1;simp only [Gt,AG,Ad hi,Af,AB,hx,hy,Aa];rw [ad1 (by omega)]
    cases c:x==y<;>simp [bne,c])
   (by simp only [Gt,AG,Aq,Aw,Ac])]
  have:=kW (p:=λx y:Int=>x==y) (a:=a) (b:=b) (λx _ y _=>by simp) hl
  cases hz:(a.zip b).all (λz=>z.1==z.2)with
  |true=>rw [Ad (this.1 hz)];rfl
  |false=>rw [Ae (λhh=>by rw [this.2 hh]at hz;cases hz)];rfl
 rw [show(ln a !=ln b)=true by simp [ln];omega,Ae (λhh=>hl (by rw [hh]))];rfl
theorem Vf {a b:Store} (ha:CV a) (hb:CV b):Lb a b=some (decide (BK a=BK b/\a.Next=b.Next)):=by
 have e:=ha.len;have f:=hb.len;have g:=ha.few;have h:=hb.few;unfold Lb;by_cases hl:a.Vols.length=b.Vols.length
 ·rw [show(ln a.Vols !=ln b.Vols)=false by simp [ln,hl]];simp only [Ac,Aa];by_cases hn:a.Next=b.Next
  ·rw [show(a.Next !=b.Next)=false by simp [hn]];simp only [Ac]
   rw [mT (body:=λs:Int=>HR a b s) a.Vols b.Vols (λv w=>v.Id==w.Id&&decide (E9 a.Arena.Knots v.Root=E9 b.Arena.Knots w.Root)) hl (by omega)
    (λi x y hx hy=>by
     have hi:=(Ag.1 hx).1;simp only [HR,AG,Ad hi,Af,AB,hx,hy,Aa];rw [Mw _ (by omega) ha.ar (ha.root _ (AJ.2 ⟨x,A6 hx,rfl⟩)),Mw _ (by omega) hb.ar (hb.root _ (AJ.2 ⟨y,A6 hy,rfl⟩))];simp only [Aa];rw [dP _ _ (by unfold E9;simp)];simp only [Aa];rw [ad1 (by omega)]
     cases c:x.Id==y.Id with
     |false=>simp [bne,c]
     |true=>
      simp only [bne,c,Ak,Ac,CJ]
      cases decide (E9 a.Arena.Knots x.Root=E9 b.Arena.Knots y.Root)<;>rfl)
    (by simp only [HR,AG,Aq,Aw,Ac])]
   have d:(a.Vols.zip b.Vols).all (λz=>z.1.Id==z.2.Id&&decide (E9 a.Arena.Knots z.1.Root=E9 b.Arena.Knots z.2.Root))=decide (BK a=BK b):=by
    unfold BK;generalize a.Vols=l at hl;generalize b.Vols=m at hl
    induction l generalizing m with
    |nil=>cases m with
     |nil=>simp
     |cons y m=>simp at hl
    |cons x l ih=>
     cases m with
     |nil=>simp at hl
     |cons y m=>
      rw [List.zip_cons_cons,E8,ih m (by simpa using hl),Ee];simp only [Al,Dn,A7,B8,P5,Bk]
   rw [d]
   cases hd:decide (BK a=BK b)with
   |true=>rw [Ad ⟨J9 hd,hn⟩];rfl
   |false=>rw [Ae (λhh=>of_decide_eq_false hd hh.1)];rfl
  rw [show(a.Next !=b.Next)=true by simpa using hn,Ae (λhh=>hn hh.2)];rfl
 rw [show(ln a.Vols !=ln b.Vols)=true by simp [ln];omega,Ae (λhh=>hl (by have:=Ca List.length hh.1;rwa [Ls,Ls]at this))];rfl
theorem U8 (h:Lv d r):N5 d=some d:=by
 have:=h.st.len;unfold N5;rw [FR _ h.fl.cap,FH _ (KS h.st.ar (by have:=h.st.few;omega)) (by omega)];rfl
theorem Lv.uniq {d':Bc} (h:Lv d r) (h':Lv d' r') (e:d.Flash=d'.Flash):r=r':=by
 have h1:=h.sr;have h2:=h'.sr;rw [<-e]at h2;exact h1.uniq h2
theorem aN (h:Lv d r):O4 d=some true:=by
 obtain⟨m,r',h1,h2,h3⟩:=SJ h.fl;obtain rfl:=h.uniq h2 h3.symm;unfold O4;rw [h1];simp only [Aa,Af];have e:=h2.ab.trans h.ab.symm
 injection e with e1 e2
 rw [Vf h2.st h.st,Ad ⟨e1,e2⟩];simp only [Aa,Af];rw [h2.seq,h.seq,h2.tx,h.tx,h2.base,h.base];simp only [BEq.rfl,Af];rw [PM h.st];rfl
theorem Xm {l:List α} {f g:α->Option β} (h:∀x∈l,f x=g x):l.filterMap f=l.filterMap g:=by
 induction l with
 |nil=>rfl
 |cons a l ih=>rw [PB,PB,h a (by simp),ih (λx hx=>h x (by simp [hx]))]
theorem jS {l:List α} {p q:α->Bool} (h:∀x∈l,p x=q x):l.find? p=l.find? q:=by
 induction l with
 |nil=>rfl
 |cons a l ih=>rw [List.find?_cons,List.find?_cons,h a (by simp),ih (λx hx=>h x (by simp [hx]))]
theorem UM (h:∀a b,P8 r' t a b=P8 r t a b):∀(n:Nat) (a b:Int) (x:List UInt8) (q:Int),parts r' t n a b x q=parts r t n a b x q
 |0,_,_,_,_=>rfl
 |n+1,a,b,x,q=>by
  simp only [parts,h];split
  ·split
   ·rfl
   exact UM h n _ _ _ _
  rfl
theorem RF (h:∀a b,P8 r' t a b=P8 r t a b):H1 r' t=H1 r t:=by
 unfold H1;rw [UM h]
theorem Uc {t a b:Int} (h:gU t a b y=true):y.Page.Kind=2/\y.Page.Tx=t/\y.Page.Part=a:=by
 unfold gU at h;simp only [Al,Dn]at h;exact⟨h.1,h.2.1,h.2.2.1⟩
theorem cG (r m:List A4) (t a b:Int):P8 (r++m) t a b=(P8 r t a b).or (P8 m t a b):=by unfold P8;rw [List.find?_append]
theorem Tq {t a b:Int} (h:∀y∈r,y.Page.Kind=2->y.Page.Tx≠t):P8 r t a b=none:=by
 unfold P8;rw [EV];intro y hy hm;obtain⟨h1,h2,_⟩:=Uc hm;exact h y hy h1 h2
theorem m9 (h:∀y∈r,y.Page.Kind=2->y.Page.Tx≠t):H1 r t=none:=by
 unfold H1;have:parts r t 11 0 0 [] 0=none:=by
  simp only [parts];rw [Au (.inl trivial),Tq h]
 rw [this]
theorem nW (r:List A4) (hy:y.Page.Kind≠2):Dj (r++ [y])=Dj r:=by rw [SU,Ax hy]
theorem UQ (r:List A4) (hy:y.Page.Kind≠2):Bx (r++ [y])=Bx r:=by
 unfold Bx;rw [nW r hy];congr 1;funext t
 refine RF λa b=>?_
 rw [cG,Tq (r:=[y]) (λz hz hk=>by
  rw [Ay]at hz;rw [hz]at hk
  exact absurd hk hy),Option.or_none]
structure ZH (m:List A4) (t:Int) (n:Nat) (texts:List ByteArray):Prop where
 len:m.length<=n
 pos:1<=n/\n<=9
 tl:texts.length=n
 at_:∀(i:Nat) y,m[i]?=some y->y.Page.Kind=2/\y.Page.Tx=t/\y.Page.Part=i/\y.Page.Count=n/\texts[i]?=some y.Page.Text
theorem ZH.all (h:ZH m t n texts) (hy:y∈m):y.Page.Kind=2/\y.Page.Tx=t:=by
 obtain⟨i,hi,rfl⟩:=AF hy;obtain⟨h1,h2,_⟩:=h.at_ i _ (Ab hi);exact⟨h1,h2⟩
theorem rF (r:List A4) (hr:∀y∈r,1<=y.Page.Tx) (ht:∀y∈r,y.Page.Kind=2->y.Page.Tx<t) (h0:1<=t):∀(m:List A4),m≠ []->(∀y∈m,y.Page.Kind=2/\y.Page.Tx=t)->Dj (r++m)=Dj r++ [t]:=by
 intro m hm a
 have h1:=G8 (r++m) (λy hy=>by
  rcases Ai.1 hy with hy|hy
  ·exact hr y hy
  rw [(a y hy).2];exact h0)
 have h2:=G8 r hr
 refine VU h1.1 ?_ λx=>?_
 ·unfold asc;rw [B3];refine⟨h2.1,Mg _ _,λx hx z hz=>?_⟩;rw [Ay]at hz;obtain⟨y,hy,hk,rfl⟩:=(h2.2.1 x).1 hx;rw [hz];exact ht y hy hk
 rw [h1.2.1,Ai,Ay,h2.2.1];constructor
 ·rintro⟨y,hy,hk,rfl⟩
  rcases Ai.1 hy with hy|hy
  ·exact .inl ⟨y,hy,hk,rfl⟩
  exact .inr (a y hy).2
 rintro(⟨y,hy,hk,rfl⟩|rfl)
 ·exact⟨y,Ai.2 (.inl hy),hk,rfl⟩
 cases m with
 |nil=>exact absurd rfl hm
 |cons y m=>exact⟨y,by simp,(a y (by simp)).1,(a y (by simp)).2⟩
theorem wD (h:ZH m t n texts) {a:Nat} {b:Int} (hc:a=0\/b=n):P8 m t a b=m[a]? :=by
 cases hy:m[a]? with
 |none=>
  unfold P8;rw [EV];intro y c hm;obtain⟨i,hi,rfl⟩:=AF c;obtain⟨_,_,h3,_⟩:=h.at_ i _ (Ab hi);have:=(Uc hm).2.2;rw [List.getElem?_eq_none_iff]at hy;omega
 |some y=>
  obtain⟨h1,h2,h3,h4,_⟩:=h.at_ a y hy;refine cI m _ (λj x hj hx=>?_) hy ?_
  ·obtain⟨_,_,k3,_⟩:=h.at_ j x hx;rw [Bool.eq_false_iff];intro hm;have:=(Uc hm).2.2;omega
  unfold gU;rw [h1,h2,h3,h4];simp only [BEq.rfl,CJ,Cy,C8,AX,Dn]
  rcases hc with hc|hc
  ·left;omega
  right;omega
def MH (l:List ByteArray):List UInt8:=l.flatMap L
theorem YX (hr:∀y∈r,y.Page.Kind=2->y.Page.Tx≠t) (h:ZH m t n texts):∀(k a:Nat) (c:Int) (x:List UInt8) (q:Int) (b:Nat),a+k=n->(a=0\/c=n)->k<b->
  (m.length=n->∃q',parts (r++m) t b a c x q=some (x++MH (texts.drop a),q'))/\(m.length<n->a<=m.length->parts (r++m) t b a c x q=none)
 |k,a,c,x,q,0,hk,hc,hf=>by omega
 |0,a,c,x,q,b+1,hk,hc,hf=>by
  have hp:=h.pos;simp only [parts];rw [Ax (by omega)];refine⟨λ_=>⟨q,?_⟩,λh1 h2=>by omega⟩;rw [CR (by have:=h.tl;omega)];simp [MH]
 |k+1,a,c,x,q,b+1,hk,hc,hf=>by
  have hp:=h.pos;simp only [parts];rw [Au (by omega),cG,Tq hr,Option.none_or,wD h hc]
  cases hy:m[a]? with
  |none=>
   rw [List.getElem?_eq_none_iff]at hy;exact⟨λh1=>by omega,λ_ _=>rfl⟩
  |some y=>
   obtain⟨h1,h2,h3,h4,h5⟩:=h.at_ a y hy;have d:=(Ag.1 hy).1;simp only [];obtain⟨k1,k2⟩:=YX hr h k (a+1) y.Page.Count (x++L y.Page.Text) (M2 a q y) b (by omega) (.inr h4) (by omega);rw [show((a+1:Nat):Int)=(a:Int)+1 from rfl]at k1 k2;refine⟨λh6=>?_,λh6 h7=>k2 h6 (by omega)⟩;obtain⟨q',k3⟩:=k1 h6;refine⟨q',?_⟩;rw [k3]
   rw [show texts.drop a=y.Page.Text::texts.drop (a+1) by
    have h8:=(Ag.1 h5)
    rw [Bj h8.1,h8.2]]
   simp only [MH,H9,Ao]
theorem jM (r:List A4) (hr:∀y∈r,1<=y.Page.Tx) (ht:∀y∈r,y.Page.Kind=2->y.Page.Tx<t) (h0:1<=t) (h:ZH m t n texts):
  (m.length<n->Bx (r++m)=Bx r)/\(m.length=n->∀a,YR (bs (MH texts))=some a->∃q,Bx (r++m)=Bx r++ [Tx.mk t q a]):=by
 have d:∀y∈r,y.Page.Kind=2->y.Page.Tx≠t:=λy hy hk=>by have:=ht y hy hk;omega
 have old:∀x∈Dj r,H1 (r++m) x=H1 r x:=by
  intro x hx;have:=G8 r hr;obtain⟨y,hy,hk,rfl⟩:=(this.2.1 x).1 hx;have:=ht y hy hk
  refine RF λe f=>?_
  rw [cG,Tq (r:=m) (λz hz g=>by rw [(h.all hz).2];omega),Option.or_none]
 have oldG:(Dj r).filterMap (H1 (r++m))=Bx r:=by
  unfold Bx;exact Xm old
 by_cases hm:m=[]
 ·subst hm;have:=h.pos;refine⟨λ_=>by rw [A0],λh1=>by simp at h1;omega⟩
 have b:=rF r hr ht h0 m hm (λy hy=>h.all hy);have hg:Bx (r++m)=Bx r++(match H1 (r++m) t with|some x=>[x]|none=>[]):=by
  have:Bx (r++m)=(Dj (r++m)).filterMap (H1 (r++m)):=rfl;rw [this,b,J8,oldG];congr 1
  cases hx:H1 (r++m) t with
  |none=>simp [hx]
  |some x=>simp [hx]
 have hp:=h.pos;obtain⟨p1,p2⟩:=YX d h n 0 0 [] 0 11 (by omega) (.inl rfl) (by omega);refine⟨λh1=>?_,λh1 a c=>?_⟩
 ·have:H1 (r++m) t=none:=by
   unfold H1;have:=p2 h1 (by omega);rw [show((0:Nat):Int)=0 from rfl]at this;rw [this]
  rw [hg,this,A0]
 obtain⟨q,p3⟩:=p1 h1;rw [show((0:Nat):Int)=0 from rfl]at p3;have:H1 (r++m) t=some (Tx.mk t q a):=by
  unfold H1;rw [p3];simp only [A5,List.drop_zero];rw [c];rfl
 exact⟨q,by rw [hg,this]⟩
structure gL (r:List A4):Prop where
 uniq:∀y∈r,∀z∈r,y.Page.Kind=2->z.Page.Kind=2->y.Page.Tx=z.Page.Tx->y.Page.Part=z.Page.Part->y=z
theorem jQ (h:gL r) (p:A4->Bool) {t a b:Int} (hf:P8 (r.filter p) t a b=some y):P8 r t a b=some y:=by
 obtain⟨h1,h2⟩:=Qu hf;have h3:=(AU.1 h1).1
 cases hz:P8 r t a b with
 |none=>
  unfold P8 at hz;rw [EV]at hz;exact absurd h2 (hz y h3)
 |some z=>
  obtain⟨k1,k2⟩:=Qu hz;obtain⟨a1,a2,a3⟩:=Uc h2;obtain⟨b1,b2,b3⟩:=Uc k2;rw [h.uniq z k1 y h3 b1 a1 (by rw [a2,b2]) (by rw [a3,b3])]
theorem SQ (h:gL r) (p:A4->Bool):∀(n:Nat) (a b:Int) (x:List UInt8) (q:Int) (w:List UInt8×Int),parts (r.filter p) t n a b x q=some w->parts r t n a b x q=some w
 |0,_,_,_,_,_,hw=>by cases hw
 |n+1,a,b,x,q,w,hw=>by
  simp only [parts]at hw⊢;split
  ·rename_i hc;rw [Au hc]at hw
   cases hf:P8 (r.filter p) t a b with
   |none=>rw [hf]at hw;cases hw
   |some y=>
    rw [hf]at hw;rw [jQ h p hf];exact SQ h p n _ _ _ _ w hw
  rename_i hc;rw [Ax hc]at hw;exact hw
theorem dG (h:gL r) (p:A4->Bool) (hx:H1 (r.filter p) t=some x):H1 r t=some x:=by
 unfold H1 at hx⊢
 cases hp:parts (r.filter p) t 11 0 0 [] 0 with
 |none=>rw [hp]at hx;cases hx
 |some w=>
  rw [hp]at hx;rw [SQ h p _ _ _ _ _ w hp];exact hx
theorem jN (r:List A4) (hr:Ge r):(Bx r).Pairwise λx y=>x.Num<y.Num:=by
 have h1:=(G8 r (λy hy=>(hr.tx y hy).1)).1;unfold Bx;rw [List.pairwise_filterMap];refine List.Pairwise.imp ?_ h1;intro a b c x hx y hy;rw [(Q9 hr hx).1,(Q9 hr hy).1];exact c
theorem Ts (l:List α) (f:α->Option β) (q:β->Bool):(l.filterMap f).filter q=l.filterMap (λa=>(f a).filter q):=by
 induction l with
 |nil=>rfl
 |cons a l ih=>
  cases h:f a with
  |none=>simp [h,ih]
  |some b=>
   cases hq:q b with
   |true=>simp [h,hq,ih,Option.filter]
   |false=>simp [h,hq,ih,Option.filter]
theorem ZQ (r:List A4) (hr:Ge r) (h:gL r) (p:A4->Bool) (hp:∀y∈r,y.Page.Kind=2->K8 (CZ (Bx r))<=y.Page.Tx->p y=true):CZ (Bx (r.filter p))=CZ (Bx r):=by
 have hr':Ge (r.filter p):=⟨by have:=CF p r;have:=hr.len;omega,λy hy=>hr.text y (AU.1 hy).1,λy hy=>hr.seq y (AU.1 hy).1,λy hy=>hr.tx y (AU.1 hy).1,λy hy=>hr.cnt y (AU.1 hy).1,λy hy=>hr.part y (AU.1 hy).1⟩;have s1:=G8 r (λy hy=>(hr.tx y hy).1);have s2:=G8 (r.filter p) (λy hy=>(hr'.tx y hy).1);have e1:Bx (r.filter p)=(Dj r).filterMap (H1 (r.filter p)):=by
  have hn:Dj (r.filter p)=(Dj r).filter (λt=>decide (t∈Dj (r.filter p))):=by
   refine VU s2.1 (List.Pairwise.filter _ s1.1) λx=>?_
   rw [AU,A7];refine⟨λhx=>⟨?_,hx⟩,λhx=>hx.2⟩;obtain⟨y,hy,hk,rfl⟩:=(s2.2.1 x).1 hx;exact(s1.2.1 _).2 ⟨y,(AU.1 hy).1,hk,rfl⟩
  unfold Bx
  conv=>lhs;rw [hn]
  rw [List.filterMap_filter]
  refine Xm λt ht=>?_
  by_cases e:t∈Dj (r.filter p)
  ·rw [Au (by simpa using e)]
  rw [Ax (by simpa using e)];symm
  refine m9 λy hy hk f=>e ((s2.2.1 t).2 ⟨y,hy,hk,f⟩)
 have keep:∀t,K8 (CZ (Bx r))<=t->H1 (r.filter p) t=H1 r t:=by
  intro t ht
  refine RF λpart cnt=>?_
  unfold P8;rw [List.find?_filter]
  refine jS λy hy=>?_
  cases hm:gU t part cnt y with
  |false=>simp
  |true=>
   obtain⟨a1,a2,_⟩:=Uc hm;rw [hp y hy a1 (by omega)];rfl
 have e2:Bx (r.filter p)=(Bx r).filter λx=>(H1 (r.filter p) x.Num).isSome:=by
  rw [e1];unfold Bx;rw [Ts]
  refine Xm λt ht=>?_
  cases hx:H1 (r.filter p) t with
  |some x=>
   have h1:=dG h p hx;rw [h1];have h2:=(Q9 hr h1).1;simp only [Option.filter,h2,hx,Option.isSome_some,BX]
  |none=>
   cases hy:H1 r t with
   |none=>rfl
   |some x=>
    have h2:=(Q9 hr hy).1;simp only [Option.filter,h2,hx,GM,BP,Ga]
 obtain⟨A,h1,h2,h3⟩:=dM (Bx r);have a:=jN r hr;have hB:(CZ (Bx r)).filter (λx=>(H1 (r.filter p) x.Num).isSome)=CZ (Bx r):=by
  rw [EC];intro x hx;have g:=(QB (Bx r)).2 x hx;obtain⟨t,_,ht⟩:=List.mem_filterMap.1 g;have hn:=(Q9 hr ht).1;have i:K8 (CZ (Bx r))<=x.Num:=by
   rw [h1,B3]at a
   cases hb:CZ (Bx r)with
   |nil=>rw [hb]at hx;cases hx
   |cons b B=>
    have c:=a.2.1;rw [hb,CX]at c;rw [hb,BB]at hx;simp only [K8]
    rcases hx with rfl|hx
    ·exact EG _
    have:=c.1 x hx;omega
  rw [keep _ i,hn,ht];rfl
 rw [e2]
 conv=>lhs;rw [h1]
 rw [AQ,hB];refine pV _ _ (λd=>h2 λhA=>?_) h3;rw [hA]at d;exact d rfl
theorem Uk:∀n:Nat,∃ds x,Cv n=ds++ [x]/\(∀d∈ds,128<=d.toNat)/\x.toNat<128/\EQ (Cv n)=n
 |n=>by
  by_cases h:n<=127
  ·rw [K4 h];have:(UInt8.ofNat n).toNat=n:=by rw [GK];omega
   exact⟨[],_,rfl,by simp,by omega,by simp only [EQ];omega⟩
  obtain⟨ds,x,h1,h2,h3,h4⟩:=Uk (n/128);rw [Tt h];have e:(UInt8.ofNat (n %128+128)).toNat=n %128+128:=by rw [GK];omega
  refine⟨UInt8.ofNat (n %128+128)::ds,x,by rw [h1];rfl,?_,h3,?_⟩
  ·intro d hd
   rcases BB.1 hd with rfl|hd
   ·omega
   exact h2 d hd
  simp only [EQ];rw [h4,e];omega
termination_by n=>n
decreasing_by omega
theorem Ig (h:n<=1000000000):1<=(Cv n).length/\(Cv n).length<=5:=by
 have a:∀(k n:Nat),n<128^(k+1)->(Cv n).length<=k+1:=by
  intro k
  induction k with
  |zero=>intro n hn;rw [K4 (by omega)];simp
  |succ k ih=>
   intro n hn;by_cases h:n<=127
   ·rw [K4 h];simp
   rw [Tt h,Az];have:=ih (n/128) (by rw [Vv]at hn;omega);omega
 refine⟨?_,a 4 n (by omega)⟩;obtain⟨ds,x,h1,_⟩:=Uk n;rw [h1];simp
theorem gG (t:ByteArray) (ht:(L t).length<=20000) (a n:Nat) (hn:n<=1000000000) (rest:List UInt8) (h:(L t).drop a=Cv n++rest):Jq t (a:Int)=some ((n:Int),((a+(Cv n).length:Nat):Int),true):=by
 obtain⟨ds,x,hD,u,hx,hv⟩:=Uk n;obtain⟨h1,h2⟩:=Ig hn;have h0:(L t).length-a=(Cv n).length+rest.length:=by
  have:=Ca List.length h;rw [B6,Ah]at this;exact this
 have h3:(Cv n).length=ds.length+1:=by rw [hD];simp
 have f:∀k,k<=(Cv n).length->((L t).drop a).take k=(Cv n).take k:=λk hk=>by rw [h,Fj hk]
 have v:∀(m k:Nat),k+m=ds.length->Av (λs:Int×Int×Int=>DK t (a:Int) s.1 s.2.1 s.2.2) (((EQ ((Cv n).take k):Nat):Int),((128^k:Nat):Int),((a+k:Nat):Int))=some (.inr ((n:Int),((a+(Cv n).length:Nat):Int),true)):=by
  intro m
  induction m with
  |zero=>
   intro k hk;have g:k=ds.length:=by omega
   suffices d:DK t (a:Int) ((EQ ((Cv n).take k):Nat):Int) ((128^k:Nat):Int) ((a+k:Nat):Int)=some (.inr (.inr ((n:Int),((a+(Cv n).length:Nat):Int),true))) by
    rw [AA];simp only [d]
   simp only [DK];have e:a+k<(L t).length:=by omega
   rw [Cx (b:=5) (by omega) (by omega),BJ,Ad (by omega:((a+k:Nat):Int)<(a:Int)+5),Ad (by omega:((a+k:Nat):Int)<((L t).length:Int))];simp only [Af,Aa,EM t e];have hb:(L t)[a+k]=x:=by
    have:((L t).drop a)[k]?=some x:=by
     rw [h,hD,AO (by simp;omega),g,AS (A3 _),Q7];rfl
    rw [BO,Ab e]at this;injection this
   rw [hb];have c:=ML ds [x];rw [<-hD,hv]at c;have w:(Cv n).take k=ds:=by rw [hD,g,P4 rfl]
   rw [w];simp only [EQ,Nat.mul_zero,Gl]at c;have hp:=aW k (by omega);have hw:IntKind.i64.wrap (x.toNat:Int)=x.toNat:=N2 (by omega) (by omega);have l:x.toNat %128*128^k<=127*268435456:=Yt (by omega) hp;have emul:ml ((x.toNat %128:Nat):Int) ((128^k:Nat):Int)=((x.toNat %128*128^k:Nat):Int):=by
    have ec:((x.toNat %128:Nat):Int)*((128^k:Nat):Int)=((x.toNat %128*128^k:Nat):Int):=by norm_cast
    rw [NI (by rw [ec];omega) (by rw [ec];omega),ec]
   have i:=V3 ds;rw [<-g]at i c;have enew:ad ((EQ ds:Nat):Int) ((x.toNat %128*128^k:Nat):Int)=(n:Int):=by
    rw [Cx (by omega) (by omega),c,kL (128^k)];omega
   rw [hw,ZM,emul,enew,Ad (by omega:(x.toNat:Int)<128),Ae (by omega:¬(n:Int)>1000000000),ad1 (by omega)];simp only [Af,Ac];obtain⟨s,y,z⟩:=Jw n (by omega);rw [Fi t (by omega) (by omega),y];simp only [Aa];have o:seq s (t.extract a (a+k+1))=true:=by
    rw [PJ,z,Ik,show a+k+1-a=k+1 by omega,f _ (by omega),AP (by omega)];simp
   rw [o];simp only [Ak,Ac];rw [show a+k+1=a+(Cv n).length by omega]
  |succ m ih=>
   intro k hk;suffices d:DK t (a:Int) ((EQ ((Cv n).take k):Nat):Int) ((128^k:Nat):Int) ((a+k:Nat):Int)=some (.inl (((EQ ((Cv n).take (k+1)):Nat):Int),((128^(k+1):Nat):Int),((a+(k+1):Nat):Int))) by
    rw [AA];simp only [d];exact ih (k+1) (by omega)
   simp only [DK];have e:a+k<(L t).length:=by omega
   rw [Cx (b:=5) (by omega) (by omega),BJ,Ad (by omega:((a+k:Nat):Int)<(a:Int)+5),Ad (by omega:((a+k:Nat):Int)<((L t).length:Int))];simp only [Af,Aa,EM t e];have j:k<ds.length:=by omega
   have p:(Cv n)[k]?=some ds[k]:=by rw [hD,AO j,Ab j]
   have hb:(L t)[a+k]=ds[k]:=by
    have:((L t).drop a)[k]?=some ds[k]:=by
     rw [h,AO (by omega),p]
    rw [BO,Ab e]at this;injection this
   rw [hb];have h128:=u _ (AC j);have hx:=dF ds[k];have q:(Cv n).take (k+1)=(Cv n).take k++ [ds[k]]:=by rw [DR,p];rfl
   have r:((Cv n).take k).length=k:=by rw [AE];omega
   have c:=ML ((Cv n).take k) [ds[k]];rw [<-q,r]at c;have i:=V3 ((Cv n).take k);rw [r]at i;have hp:=aW k (by omega);generalize ds[k]=x at hx q c h128;simp only [EQ,Nat.mul_zero,Gl]at c;have hw:IntKind.i64.wrap (x.toNat:Int)=x.toNat:=N2 (by omega) (by omega);have l:x.toNat %128*128^k<=127*268435456:=Yt (by omega) hp;have emul:ml ((x.toNat %128:Nat):Int) ((128^k:Nat):Int)=((x.toNat %128*128^k:Nat):Int):=by
    have ec:((x.toNat %128:Nat):Int)*((128^k:Nat):Int)=((x.toNat %128*128^k:Nat):Int):=by norm_cast
    rw [NI (by rw [ec];omega) (by rw [ec];omega),ec]
   have enew:ad (((EQ ((Cv n).take k):Nat)):Int) ((x.toNat %128*128^k:Nat):Int)=((EQ ((Cv n).take (k+1)):Nat):Int):=by
    rw [Cx (by omega) (by omega),c,kL (128^k)];omega
   have e1:ml ((128^k:Nat):Int) 128=((128^(k+1):Nat):Int):=by
    rw [NI (by omega) (by omega),Vv];norm_cast
   rw [hw,ZM,emul,enew,Ae (by omega:¬(x.toNat:Int)<128),e1,ad1 (by omega)];rfl
 unfold Jq;rw [BJ,Ez,Ad (by omega)];simp only [Aa,Ak,Ac];have k0:=v ds.length 0 (by omega);simp only [GO,EQ,Nat.pow_zero,Gl]at k0;rw [show((0:Nat):Int)=0 from rfl,show((1:Nat):Int)=1 from rfl]at k0;rw [k0];rfl
theorem Ky (t:ByteArray) (ht:(L t).length<=20000) (a n:Nat) (hn:n<=1000000000) (rest:List UInt8) (h:(L t).drop a=Cv n++rest):Do (El.mk t (a:Int) false)=some ((n:Int),El.mk t ((a+(Cv n).length:Nat):Int) false):=by
 rw [Jv t _ ht (gG t ht a n hn rest h)];rfl
def iO (r:Dk):List UInt8:=UInt8.ofNat (16*r.Kind+r.Vol).toNat::(Cv r.Arg.toNat++Cv r.Chunk.toNat)
theorem aU {r:Dk} (h:Gk r=true):1<=r.Kind/\r.Kind<=5/\0<=r.Vol/\r.Vol<=9/\0<=r.Arg/\r.Arg<=1000000000/\0<=r.Chunk/\r.Chunk<=1000000000:=by
 unfold Gk at h
 cases k1:(r.Kind==1)with
 |true=>
  have e1:r.Kind=1:=by simpa using k1
  rw [k1]at h;simp at h;omega
 |false=>
  rw [k1]at h;cases k2:(r.Kind==2)<;>cases k3:(r.Kind==3)<;>cases k4:(r.Kind==4)<;>rw [k2,k3,k4]at h<;>simp at h k2 k3 k4<;>omega
theorem aE {r:Dk} (h:Gk r=true):∃t,QJ r=some (t,true)/\L t=iO r:=by
 obtain⟨h1,h2,h3,h4,h5,h6,h7,h8⟩:=aU h;obtain⟨sa,a1,a2⟩:=Jw r.Arg.toNat (by omega);obtain⟨sc,c1,c2⟩:=Jw r.Chunk.toNat (by omega);rw [Bq h5]at a1;rw [Bq h7]at c1;unfold QJ LZ;rw [Ma,h];simp only [Aa,Ak,Ac];rw [NI (by omega) (by omega),Cx (by omega) (by omega),a1];simp only [Aa];have l1:=(Ig (show r.Arg.toNat<=1000000000 by omega)).2;have l2:=(Ig (show r.Chunk.toNat<=1000000000 by omega)).2;have hb:∀x,(L (HC [x])).length=1:=Wq;rw [Gd _ _ (by rw [hb,a2];omega),c1];simp only [Aa];rw [Gd _ _ (by rw [DB,Ah,hb,a2,c2];omega)];simp only [Aa];refine⟨_,rfl,?_⟩;rw [DB,DB,Jg,a2,c2];unfold iO;have hw:IntKind.u8.wrap (16*r.Kind+r.Vol)=16*r.Kind+r.Vol:=by
  rw [IntKind.wrap_u8];omega
 simp only [B8,kM,hw,BS,BF,A5]
def G7 (l:List Dk):List UInt8:=l.flatMap iO
theorem qK {r:Dk} (h:Gk r=true):3<=(iO r).length/\(iO r).length<=11:=by
 obtain⟨h1,h2,h3,h4,h5,h6,h7,h8⟩:=aU h;have l1:=Ig (show r.Arg.toNat<=1000000000 by omega);have l2:=Ig (show r.Chunk.toNat<=1000000000 by omega);unfold iO;rw [Az,Ah];omega
theorem YQ (t:ByteArray) (ht:(L t).length<=20000):∀(l:List Dk) (a:Nat) (b:List Dk),(∀r∈l,Gk r=true)->(L t).drop a=G7 l->a<=(L t).length->b.length<=a->Av (λs:List Dk×ByteArray×Int×Bool=>DG t s.1 s.2.1 s.2.2.1 s.2.2.2) (b,t,(a:Int),false)=some (.inl (b++l))
 |[],a,b,hl,h,ha,ho=>by
  have:(L t).length=a:=by
   have:=Ca List.length h;rw [B6]at this;simp [G7]at this;omega
  rw [AA];simp only [DG];rw [BJ,Ae (by omega),A0];rfl
 |r::l,a,b,hl,h,ha,ho=>by
  have hr:=hl r (by simp);obtain⟨h1,h2,h3,h4,h5,h6,h7,h8⟩:=aU hr;have h':(L t).drop a=UInt8.ofNat (16*r.Kind+r.Vol).toNat::(Cv r.Arg.toNat++(Cv r.Chunk.toNat++G7 l)):=by
   rw [h];simp only [G7,H9,iO,BF,Ao]
  have c:a<(L t).length:=by
   have:=Ca List.length h';rw [B6,Az]at this;omega
  have d:=Bj c;rw [h']at d
  injection d with hx hd
  rw [AA];simp only [DG];rw [BJ,Ad (by omega)];simp only [Af,Aa,AH];rw [EM t c,ad1 (by omega)];simp only [Aa];rw [Ky t ht (a+1) r.Arg.toNat (by omega) _ hd.symm];simp only [Aa];have e:(L t).drop (a+1+(Cv r.Arg.toNat).length)=Cv r.Chunk.toNat++G7 l:=by
   rw [<-CB,<-hd,EF rfl]
  rw [Ky t ht _ r.Chunk.toNat (by omega) _ e];simp only [Aa,Ac];have hw:IntKind.i64.wrap (((L t)[a]).toNat:Int)=16*r.Kind+r.Vol:=by
   rw [<-hx,GK];rw [N2 (by omega) (by omega)];omega
  have e1:qu (IntKind.i64.wrap (((L t)[a]).toNat:Int)) 16=r.Kind:=by
   rw [hw];unfold qu;rw [Int.tdiv_eq_ediv_of_nonneg (by omega),N2 (by omega) (by omega)];omega
  have e2:Int.tmod (IntKind.i64.wrap (((L t)[a]).toNat:Int)) 16=r.Vol:=by
   rw [hw,Kc (by omega)];omega
  rw [e1,e2,Bq h5,Bq h7];have f:Dk.mk r.Kind r.Vol r.Arg r.Chunk=r:=rfl;rw [f,Ma,hr];simp only [Aa,Ak,Ac];rw [Cq (by simp only [An];omega)];simp only [Aa];have l1:=Ig (show r.Arg.toNat<=1000000000 by omega);have l2:=Ig (show r.Chunk.toNat<=1000000000 by omega);have g:(L t).drop (a+1+(Cv r.Arg.toNat).length+(Cv r.Chunk.toNat).length)=G7 l:=by
   rw [<-CB,e,EF rfl]
  have i:a+1+(Cv r.Arg.toNat).length+(Cv r.Chunk.toNat).length<=(L t).length:=by
   have h9:=Ca List.length h';rw [B6,Az,Ah,Ah]at h9;omega
  have:=YQ t ht l _ (b++ [r]) (λx hx=>hl x (by simp [hx])) g i (by simp;omega);rw [Ao,BS]at this;exact this
theorem iN {l:List Dk} (hl:∀r∈l,Gk r=true) (a:(G7 l).length<=20000):YR (bs (G7 l))=some l:=by
 have h:=YQ (bs (G7 l)) (by rw [DP];exact a) l 0 [] hl (by rw [DP];rfl) (by omega) (by simp);unfold YR HS;have h':Av (λs:List Dk×ByteArray×Int×Bool=>DG (bs (G7 l)) s.1 s.2.1 s.2.2.1 s.2.2.2) ([],bs (G7 l),0,false)=some (.inl ([]++l)):=h;rw [h',A5];rfl
theorem kF {v:Int} (u:ByteArray) (hu:(L u).length<=20000) (hv:MR u=some v):Kr (u++four v)=some (u,true):=by
 have a:(L (u++four v)).length=(L u).length+4:=by rw [DB,Ah,Tp]
 have e4:sb (Gi (u++four v)) 4=((L u).length:Int):=by rw [BJ,a,C5 (by omega) (by omega)];omega
 unfold Kr;rw [e4,Ae (by omega),Ae (by omega)];simp only [Ac];have c:sub (u++four v) 0 ((L u).length:Int)=some u:=by
  rw [show(0:Int)=((0:Nat):Int)from rfl,Fi _ (by omega) (by omega)];congr 1;apply Ij;rw [Ik,DB];simp
 have b:sub (u++four v) ((L u).length:Int) (Gi (u++four v))=some (four v):=by
  rw [BJ,Fi _ (by omega) (by omega)];congr 1;apply Ij;rw [Ik,a,DB,EF rfl,AP (by rw [Tp];omega)]
 rw [c,b];simp only [Aa];rw [hv];have h3:Kq v=some (four v):=rfl;simp only [Aa,h3];have:seq (four v) (four v)=true:=by rw [ID];simp
 rw [this];rfl
def GS (p:Page):Prop:=(p.Kind=1\/p.Kind=2)/\(1<=p.Seq/\p.Seq<=1000000000)/\(1<=p.Tx/\p.Tx<=1000000000)/\(1<=p.Count/\p.Count<=9)/\(0<=p.Part/\p.Part<p.Count)/\(L p.Text).length<=90/\(p.Kind=2\/p.Count=1)
theorem W7 (p:Page):∃v,JM p=some v/\(v=true↔GS p):=by
 unfold JM GS;rw [Ez,Ez,Ez,Ez,BJ];simp only [Aa];by_cases h1:1<=p.Kind/\p.Kind<=2
 ·rw [Ad h1];by_cases h2:1<=p.Seq/\p.Seq<=1000000000
  ·rw [Ad h2];by_cases h3:1<=p.Tx/\p.Tx<=1000000000
   ·rw [Ad h3];by_cases h4:1<=p.Count/\p.Count<=9
    ·rw [Ad h4];simp only [Ak,Ac];rw [C5 (by omega) (by omega),Ez];simp only [Aa];by_cases h5:0<=p.Part/\p.Part<=p.Count-1
     ·rw [Ad h5];simp only [Ak,Ac,Aa];by_cases h6:((L p.Text).length:Int)>90
      ·rw [Ad h6];exact⟨_,rfl,by simp only [BP,Rg];omega⟩
      rw [Ae h6];simp only [Ac];by_cases h7:p.Kind=2
      ·rw [show(p.Kind==2)=true by simpa using h7];exact⟨_,rfl,by simp only [true_iff];omega⟩
      rw [show(p.Kind==2)=false by simpa using h7];refine⟨_,rfl,?_⟩;rw [Dn];omega
     rw [Ae h5];exact⟨_,rfl,by simp only [BP,Rg];omega⟩
    rw [Ae h4];exact⟨_,rfl,by simp only [BP,Rg];omega⟩
   rw [Ae h3];exact⟨_,rfl,by simp only [BP,Rg];omega⟩
  rw [Ae h2];exact⟨_,rfl,by simp only [BP,Rg];omega⟩
 rw [Ae h1];exact⟨_,rfl,by simp only [BP,Rg];omega⟩
theorem qU (h:GS p):JM p=some true:=by
 obtain⟨v,h1,h2⟩:=W7 p;rw [h1,h2.2 h]
theorem YZ (h:GS p):∃t,EY p=some (t,true)/\1<=(L t).length/\(L t).length<=120/\EX t=some (p,true):=by
 obtain⟨h1,h2,h3,h4,h5,h6,h7⟩:=h
 let k:UInt8:=UInt8.ofNat p.Kind.toNat
 have hk:(k.toNat:Int)=p.Kind:=by
  show((UInt8.ofNat p.Kind.toNat).toNat:Int)=p.Kind;rw [GK];omega
 let u:=bs ([k]++Cv p.Seq.toNat++Cv p.Tx.toNat++Cv p.Part.toNat++Cv p.Count.toNat++L p.Text)
 have hu:L u=[k]++Cv p.Seq.toNat++Cv p.Tx.toNat++Cv p.Part.toNat++Cv p.Count.toNat++L p.Text:=DP _;have l1:=Ig (show p.Seq.toNat<=1000000000 by omega);have l2:=Ig (show p.Tx.toNat<=1000000000 by omega);have l3:=Ig (show p.Part.toNat<=1000000000 by omega);have l4:=Ig (show p.Count.toNat<=1000000000 by omega);have e:(L u).length=1+(Cv p.Seq.toNat).length+(Cv p.Tx.toNat).length+(Cv p.Part.toNat).length+(Cv p.Count.toNat).length+(L p.Text).length:=by
  rw [hu];simp only [Ah,An]
 have l5:(L u).length<=116:=by omega
 obtain⟨v,hv,hs⟩:=(Uq u).2 (by omega);have c:=qU ⟨h1,h2,h3,h4,h5,h6,h7⟩;have a:=Vh p u k p.Seq.toNat p.Tx.toNat p.Part.toNat p.Count.toNat c hk.symm (by omega) (by omega) (by omega) (by omega) (by omega) (by omega) (by omega) (by omega) (by omega) hu;rw [hs]at a;refine⟨u++four v,a,by rw [DB,Ah];omega,by rw [DB,Ah,Tp];omega,?_⟩;unfold EX;rw [kF u (by omega) hv];simp only [Aa,Ak,Ac];rw [BJ,Ae (by omega)];have d0:(L u).drop 1=Cv p.Seq.toNat++(Cv p.Tx.toNat++(Cv p.Part.toNat++(Cv p.Count.toNat++L p.Text))):=by
  rw [hu];simp only [Ao,BS,BF,List.drop_succ_cons,List.drop_zero,A5]
 rw [show(1:Int)=((1:Nat):Int)from rfl,Ky u (by omega) 1 p.Seq.toNat (by omega) _ d0];simp only [Aa];have d1:(L u).drop (1+(Cv p.Seq.toNat).length)=Cv p.Tx.toNat++(Cv p.Part.toNat++(Cv p.Count.toNat++L p.Text)):=by rw [<-CB,d0,EF rfl]
 rw [Ky u (by omega) _ p.Tx.toNat (by omega) _ d1];simp only [Aa];have d2:(L u).drop (1+(Cv p.Seq.toNat).length+(Cv p.Tx.toNat).length)=Cv p.Part.toNat++(Cv p.Count.toNat++L p.Text):=by rw [<-CB,d1,EF rfl]
 rw [Ky u (by omega) _ p.Part.toNat (by omega) _ d2];simp only [Aa];have d3:(L u).drop (1+(Cv p.Seq.toNat).length+(Cv p.Tx.toNat).length+(Cv p.Part.toNat).length)=Cv p.Count.toNat++L p.Text:=by rw [<-CB,d2,EF rfl]
 rw [Ky u (by omega) _ p.Count.toNat (by omega) _ d3];simp only [Aa,Ac];have d4:(L u).drop (1+(Cv p.Seq.toNat).length+(Cv p.Tx.toNat).length+(Cv p.Part.toNat).length+(Cv p.Count.toNat).length)=L p.Text:=by rw [<-CB,d3,EF rfl]
 have d:sx u 0=some ((k.toNat:Nat):Int):=by
  rw [show(0:Int)=((0:Nat):Int)from rfl,EM u (by omega)];have:(L u)[0]?=some k:=by rw [hu];simp
  rw [Ab (by omega)]at this
  injection this with this
  rw [this]
 rw [d];simp only [Aa];have b:sub u ((1+(Cv p.Seq.toNat).length+(Cv p.Tx.toNat).length+(Cv p.Part.toNat).length+(Cv p.Count.toNat).length:Nat):Int) ((L u).length:Int)=some p.Text:=by
  rw [Fi u (by omega) (by omega)];congr 1;apply Ij;rw [Ik,d4,AP (by omega)]
 rw [b];simp only [Aa];rw [N2 (by omega) (by omega),hk,Bq (by omega),Bq (by omega),Bq (by omega),Bq (by omega)];have hp:Page.mk p.Kind p.Seq p.Tx p.Part p.Count p.Text=p:=rfl;rw [hp,a];simp only [Aa,Ak,Ac];have:seq (u++four v) (u++four v)=true:=by rw [ID];simp
 rw [this];rfl
theorem qT (h:¬GS p):EY p=some (bs [],false):=by
 obtain⟨v,h1,h2⟩:=W7 p;unfold EY;rw [h1]
 cases v with
 |true=>exact absurd (h2.1 rfl) h
 |false=>rfl
theorem nF (s:ByteArray) (f a:Nat) (hf:f<a) (ha:a<=(L s).length) (hs:(L s).length<=64):∃k:Nat,Mr s (f:Int) (a:Int)=some (k:Int)/\k<=31/\a+k<=(L s).length/\∀j,j<k->(L s)[f+j]?=(L s)[a+j]? :=by
 obtain⟨b,h1,k,rfl,h2,h3,h4⟩:=Bf (body:=λn:Int=>Ho s (f:Int) (a:Int) n) (λ(_:Unit) i=>i) 31 (λi _=>a+i<=(L s).length/\∀j,j<i->(L s)[f+j]?=(L s)[a+j]?) (λb=>∃k:Nat,b=(k:Int)/\k<=31/\a+k<=(L s).length/\∀j,j<k->(L s)[f+j]?=(L s)[a+j]?)
  (λ_ i hi hs=>by
   simp only [Ho];rw [Ad (by omega:(i:Int)<31),Af,Cx (by omega) (by omega),Cx (by omega) (by omega),BJ];by_cases c:a+i<(L s).length
   ·rw [Ad (by omega:((a:Int)+(i:Int))<((L s).length:Int)),Af];have e1:((f:Int)+(i:Int))=((f+i:Nat):Int):=by omega
    have e2:((a:Int)+(i:Int))=((a+i:Nat):Int):=by omega
    rw [e1,e2,EM s (by omega),EM s c];simp only [Aa]
    cases hq:((((L s)[f+i]).toNat:Int)==(((L s)[a+i]).toNat:Int))with
    |true=>
     simp only [Af];rw [ad1 (by omega)];refine .inl ⟨(),rfl,by omega,λj hj=>?_⟩;by_cases e:j=i
     ·subst e;rw [Ab (by omega),Ab c];congr 1;apply UInt8.toNat_inj.1;have:(((L s)[f+j]).toNat:Int)=(((L s)[a+j]).toNat:Int):=by simpa using hq
      omega
     exact hs.2 j (by omega)
    |false=>exact .inr ⟨_,rfl,i,rfl,by omega,hs.1,hs.2⟩
   rw [Ae (by omega:¬((a:Int)+(i:Int))<((L s).length:Int)),Ac]
   exact .inr ⟨_,rfl,i,rfl,by omega,hs.1,hs.2⟩)
  (λ_ hs=>by
   simp only [Ho];rw [Ae (by omega:¬((31:Nat):Int)<31),Ac]
   exact⟨_,rfl,31,rfl,by omega,hs.1,hs.2⟩) (s:=()) ⟨by omega,λj hj=>by omega⟩
 refine⟨k,?_,h2,h3,h4⟩;unfold Mr;have h1':Av (λn:Int=>Ho s (f:Int) (a:Int) n) 0=some (k:Int):=h1;rw [h1'];rfl
def tD (s:ByteArray) (a z b:Nat):Prop:=z<=31/\a+z<=(L s).length/\(z=0\/(4<=z/\1<=b/\b<=a/\∀j,j<z->(L s)[a-b+j]?=(L s)[a+j]?))
theorem p9 (s:ByteArray) (a:Nat) (ha:a<=(L s).length) (hs:(L s).length<=64):∃z b:Nat,Av (λq:Int×Int×Int=>Es s (a:Int) q.1 q.2.1 q.2.2) (0,0,(sb (a:Int) 1))=some ((z:Int),(b:Int))/\tD s a z b:=by
 rw [C5 (by omega) (by omega)];obtain⟨r,h1,z,b,rfl,h2⟩:=Bf (body:=λq:Int×Int×Int=>Es s (a:Int) q.1 q.2.1 q.2.2) (λ(q:Nat×Nat) i=>((q.1:Int),(q.2:Int),(a:Int)-1-i)) a (λi q=>tD s a q.1 q.2) (λr=>∃z b:Nat,r=((z:Int),(b:Int))/\tD s a z b)
  (λq i hi hq=>by
   obtain⟨k,m1,m2,m3,m4⟩:=nF s (a-1-i) a (by omega) ha hs;have e1:((a:Int)-1-(i:Int))=((a-1-i:Nat):Int):=by omega
   simp only [Es,e1];rw [Ad (by omega:(((a-1-i:Nat)):Int)>=0),Af,m1];simp only [Aa];rw [C5 (by omega) (by omega),C5 (by omega) (by omega)];refine .inl ?_;have e2:(((a-1-i:Nat):Int)-1)=(a:Int)-1-((i+1:Nat):Int):=by omega
   have e3:((a:Int)-((a-1-i:Nat):Int))=((1+i:Nat):Int):=by omega
   rw [e2,e3];by_cases h4:4<=k
   ·rw [Ad (by omega:(k:Int)>=4),Af];by_cases h5:q.1<k
    ·rw [Ad (by omega:(k:Int)>(q.1:Int))];exact⟨(k,1+i),rfl,m2,m3,.inr ⟨h4,by omega,by omega,λj hj=>by rw [show a-(1+i)=a-1-i by omega];exact m4 j hj⟩⟩
    rw [Ae (by omega:¬(k:Int)>(q.1:Int))];exact⟨q,rfl,hq⟩
   rw [Ae (by omega:¬(k:Int)>=4),Ac]
   exact⟨q,rfl,hq⟩)
  (λq hq=>by
   simp only [Es];rw [Ae (by omega:¬((a:Int)-1-(a:Int))>=0),Ac]
   exact⟨_,rfl,q.1,q.2,rfl,hq⟩) (s:=(0,0)) ⟨by omega,by omega,.inl rfl⟩
 have e0:(((0:Nat):Int),((0:Nat):Int),(a:Int)-1-0)=((0:Int),(0:Int),(a:Int)-1):=by simp
 simp only [e0]at h1;exact⟨z,b,h1,h2⟩
def Tv:Nat->Nat->List UInt8->List UInt8
 |0,_,out=>out
 |n+1,b,out=>Tv n b (out++ [(out[out.length-b]?).getD 0])
def Ug (a:List UInt8) (t:Bi):List UInt8:=if t.Back=0 then a++L t.Text else Tv t.Size.toNat t.Back.toNat a
def EZ (l:List Bi):List UInt8:=l.foldl Ug []
def yX (a:List UInt8) (t:Bi):Prop:=(t.Back=0/\t.Size=0/\1<=(L t.Text).length/\(L t.Text).length<=31)\/(1<=t.Back/\t.Back<=(a.length:Int)/\1<=t.Size/\t.Size<=31/\L t.Text=[])
def rD (l:List Bi):Prop:=∀(i:Nat) t,l[i]?=some t->yX (EZ (l.take i)) t
theorem NE (l:List Bi) (t:Bi):EZ (l++ [t])=Ug (EZ l) t:=by unfold EZ;rw [H8];rfl
theorem bD {t:Bi} (h:rD l) (ht:yX (EZ l) t):rD (l++ [t]):=by
 intro i x hx;by_cases e:i<l.length
 ·rw [AO e]at hx;rw [Fj (by omega)];exact h i x hx
 have hi:=(Ag.1 hx).1;rw [Ah,An]at hi;obtain rfl:i=l.length:=by omega
 rw [AS (A3 _),Q7]at hx;simp only [Cw,Aj]at hx;rw [P4 rfl,<-hx];exact ht
theorem rC {t:Bi} (h:rD (l++ [t])):rD l/\yX (EZ l) t:=by
 refine⟨λi x hx=>?_,?_⟩
 ·have hi:=(Ag.1 hx).1;have:=h i x (by rw [AO hi];exact hx);rw [Fj (by omega)]at this;exact this
 have:=h l.length t (by rw [AS (A3 _),Q7];rfl);rw [P4 rfl]at this;exact this
theorem Z0 (S:List UInt8):∀(n a b:Nat),a+n<=S.length->1<=b->b<=a->(∀j,j<n->S[a-b+j]?=S[a+j]?)->Tv n b (S.take a)=S.take (a+n)
 |0,a,b,_,_,_,_=>rfl
 |n+1,a,b,h1,h2,h3,h4=>by
  rw [Tv];have hl:(S.take a).length=a:=by rw [AE];omega
  have e:((S.take a)[(S.take a).length-b]?).getD 0=S[a]'(by omega):=by
   rw [hl,List.getElem?_take_of_lt (by omega)];have:=h4 0 (by omega);rw [Gl,Gl]at this;rw [this,Ab (by omega)];rfl
  rw [e,<-Ap (by omega),Z0 S n (a+1) b (by omega) h2 (by omega) (λj hj=>by
   have:=h4 (j+1) (by omega);rw [show a+1-b+j=a-b+(j+1) by omega,this];congr 1
   omega)]
  congr 1;omega
theorem fU:∀(n b:Nat) (a:List UInt8),(Tv n b a).length=a.length+n
 |0,_,_=>rfl
 |n+1,b,a=>by rw [Tv,fU];simp;omega
theorem S1 (s:ByteArray) (hs:(L s).length<=64):∀(n a:Nat) (c:List Bi),(L s).length-a<=n->a<=(L s).length->c.length<=a->rD c->EZ c=(L s).take a->∃l,Av (λq:List Bi×Int=>Cs s q.1 q.2) (c,(a:Int))=some l/\rD l/\EZ l=L s/\l.length<=64
 |n,a,c,hn,ha,h,g,d=>by
  by_cases i:a<(L s).length
  ·obtain⟨z,b,h1,h2,h3,h4⟩:=p9 s a ha hs
   match n,hn with
   |0,hn=>omega
   |n+1,hn=>
   have j:((L s).take a).length=a:=by rw [AE];omega
   rcases h4 with rfl|⟨h4,h5,h6,h7⟩
   ·
    have f:sub s (a:Int) ((a+1:Nat):Int)=some (s.extract a (a+1)):=Fi s (by omega) (by omega);have hx:L (s.extract a (a+1))=[(L s)[a]]:=by
     rw [Ik,show a+1-a=1 by omega,Bj i];rfl
    have fresh:∃l,Av (λq:List Bi×Int=>Cs s q.1 q.2) (c++ [Bi.mk 0 0 (s.extract a (a+1))],((a+1:Nat):Int))=some l/\rD l/\EZ l=L s/\l.length<=64:=
     S1 s hs n (a+1) _ (by omega) (by omega) (by simp;omega) (bD g (.inl ⟨rfl,rfl,by rw [hx];simp,by rw [hx];simp⟩)) (by
      rw [NE];unfold Ug
      rw [Au rfl,d,hx,Ap i])
    rcases GV c with e|⟨out0,t0,e⟩
    ·subst e;obtain⟨l,f1,f2⟩:=fresh;refine⟨l,?_,f2⟩;rw [AA];have hb:Cs s [] (a:Int)=some (.inl ([Bi.mk 0 0 (s.extract a (a+1))],((a+1:Nat):Int))):=by
      simp only [Cs];rw [BJ,Ad (by omega),Af,h1];simp only [Aa];rw [show decide ((((0:Nat):Int))>0)=false from rfl,Ac,ad1 (by omega),f,show decide ((sb (ln ([]:List Bi)) 1)>=0)=false from rfl];simp only [Ac,Aa];rw [Cq (by simp)];rfl
     simp only [hb];exact f1
    rw [GW]at e;subst e;obtain⟨ok0,okt0⟩:=rC g;have hol':out0.length+1<=a:=by simpa using h
    have p:ln (out0++ [t0])=((out0.length+1:Nat):Int):=by rw [BW];simp
    have k:sb (ln (out0++ [t0])) 1=(out0.length:Int):=by rw [p,C5 (by omega) (by omega)];omega
    have m:gi (out0++ [t0]) (out0.length:Int)=some t0:=GU _ _;by_cases hm:t0.Back=0/\(L t0.Text).length<31
    ·have o:TB t0.Text (s.extract a (a+1))=some (t0.Text++s.extract a (a+1)):=Gd _ _ (by rw [hx];simp;omega);have hb:Cs s (out0++ [t0]) (a:Int)=some (.inl (out0++ [Bi.mk t0.Back t0.Size (t0.Text++s.extract a (a+1))],((a+1:Nat):Int))):=by
      simp only [Cs];rw [BJ,Ad (by omega),Af,h1];simp only [Aa];rw [show decide ((((0:Nat):Int))>0)=false from rfl,Ac,ad1 (by omega),f,k,Ad (by omega),Af,m];simp only [Aa];rw [show(t0.Back==0)=true by simpa using hm.1,Af,BJ,Ad (by omega)];simp only [Aa,Af];rw [o];simp only [Aa];rw [Jj]
     have hX:L (t0.Text++s.extract a (a+1))=L t0.Text++ [(L s)[a]]:=by rw [DB,hx]
     obtain⟨l,f1,f2⟩:=S1 s hs n (a+1) (out0++ [Bi.mk t0.Back t0.Size (t0.Text++s.extract a (a+1))]) (by omega) (by omega) (by simp at h⊢;omega) (bD ok0 (by
      rcases okt0 with⟨k1,k2,k3,k4⟩|⟨k1,_⟩
      ·exact .inl ⟨k1,k2,by rw [hX];simp,by rw [hX];simp;omega⟩
      ·omega)) (by
      rw [NE]at d⊢;unfold Ug at d⊢;rw [Au hm.1]at d⊢
      rw [hX,<-Ao,d,Ap i])
     refine⟨l,?_,f2⟩;rw [AA];simp only [hb];exact f1
    have hb:Cs s (out0++ [t0]) (a:Int)=some (.inl (out0++ [t0]++ [Bi.mk 0 0 (s.extract a (a+1))],((a+1:Nat):Int))):=by
     simp only [Cs];rw [BJ,Ad (by omega),Af,h1];simp only [Aa];rw [show decide ((((0:Nat):Int))>0)=false from rfl,Ac,ad1 (by omega),f,k,Ad (by omega),Af,m];simp only [Aa];have hj:(bif t0.Back==0 then some (decide (Gi t0.Text<31))else some false:Option Bool)=some false:=by
      by_cases e0:t0.Back=0
      ·rw [show(t0.Back==0)=true by simpa using e0,Af,BJ,Ae (by
       intro hh;exact hm ⟨e0,by omega⟩)]
      rw [show(t0.Back==0)=false by simpa using e0];rfl
     rw [hj];simp only [Aa,Ac];rw [Cq (by simp at h⊢;omega)];rfl
    obtain⟨l,f1,f2⟩:=fresh;refine⟨l,?_,f2⟩;rw [AA];simp only [hb];exact f1
   have hb:Cs s c (a:Int)=some (.inl (c++ [Bi.mk (b:Int) (z:Int) (bs [])],((a+z:Nat):Int))):=by
    simp only [Cs];rw [BJ,Ad (by omega),Af,h1];simp only [Aa];rw [Ad (by omega),Af,Cq (by simp;omega),Cx (by omega) (by omega)];simp only [Aa];congr 3
   obtain⟨l,f1,f2⟩:=S1 s hs n (a+z) (c++ [Bi.mk (b:Int) (z:Int) (bs [])]) (by omega) h3 (by simp;omega) (bD g (.inr ⟨by simp;omega,by rw [d,j];simp;omega,by simp;omega,by simp;omega,DP _⟩)) (by
    rw [NE];unfold Ug;rw [Ax (by simp;omega),d];simp only [Ba]
    exact Z0 (L s) z a b h3 h5 h6 h7)
   refine⟨l,?_,f2⟩;rw [AA];simp only [hb];exact f1
  have ea:a=(L s).length:=by omega
  refine⟨c,?_,g,by rw [d,ea,AL],by omega⟩;rw [AA];have hb:Cs s c (a:Int)=some (.inr c):=by
   simp only [Cs];rw [BJ,Ae (by omega),Ac]
  simp only [hb]
theorem tI (s:ByteArray) (hs:(L s).length<=64):∃l,Kt s=some l/\rD l/\EZ l=L s/\l.length<=64:=by
 obtain⟨l,h1,h2⟩:=S1 s hs (L s).length 0 [] (by omega) (by omega) (by simp) (λi t h=>by simp at h) (by simp [EZ]);refine⟨l,?_,h2⟩;unfold Kt;rw [BJ,Ae (by omega),Ac];have h1':Av (λq:List Bi×Int=>Cs s q.1 q.2) ([],0)=some l:=h1;rw [h1'];rfl
def L6 (t:Bi):List UInt8:=if t.Back=0 then UInt8.ofNat (L t.Text).length::L t.Text else [UInt8.ofNat (128+t.Size).toNat,UInt8.ofNat t.Back.toNat]
theorem mB {t:Bi} {a:List UInt8} (h:yX a t) (ho:a.length<=64):(L6 t).length<=32:=by
 unfold L6
 rcases h with⟨h1,h2,h3,h4⟩|⟨h1,h2,h3,h4,h5⟩
 ·rw [Au h1,Az];omega
 rw [Ax (by omega)];simp
theorem wF {t:Bi} {a:List UInt8} (h:yX a t):a.length<=(Ug a t).length:=by
 unfold Ug;split
 ·simp
 rw [fU];omega
theorem Mz (h:rD l):∀i,i<=l.length->(EZ (l.take i)).length<=(EZ l).length:=by
 have step:∀i,i<l.length->(EZ (l.take i)).length<=(EZ (l.take (i+1))).length:=λi hi=>by
  rw [Ap hi,NE];exact wF (h i _ (Ab hi))
 intro i hi;have:∀k,i+k<=l.length->(EZ (l.take i)).length<=(EZ (l.take (i+k))).length:=by
  intro k
  induction k with
  |zero=>intro _;exact A3 _
  |succ k ih=>
   intro hk;exact H7 (ih (by omega)) (step (i+k) (by omega))
 have:=this (l.length-i) (by omega);rw [show i+(l.length-i)=l.length by omega,AL]at this;exact this
theorem zP (s:ByteArray) (hs:(L s).length<=64):∃l,rD l/\EZ l=L s/\l.length<=64/\((Dp s=some (bs (122::l.flatMap L6),true))\/Dp s=some (bs (114::L s),true)):=by
 obtain⟨l,h1,h2,h3,h4⟩:=tI s hs;refine⟨l,h2,h3,h4,?_⟩;unfold Dp;rw [BJ,Ae (by omega),Ac,h1];simp only [Aa];obtain⟨b,q1,q2⟩:=Bf (body:=λq:ByteArray×Int=>Eu l q.1 q.2) (λz i=>(z,i)) l.length (λi z=>L z=122::(l.take i).flatMap L6/\(L z).length<=1+32*i) (λz=>L z=122::l.flatMap L6/\(L z).length<=3000)
  (λz i hi hz=>by
   have hx:=Ab hi;have c:=h2 i _ hx;have a:=Mz h2 i (by omega);rw [h3]at a;have d:=mB c (by omega);have et:(l.take (i+1)).flatMap L6=(l.take i).flatMap L6++L6 l[i]:=by rw [Ap hi,PA];simp
   simp only [Eu,AG,Ad hi,Af,AB,hx,Aa];rw [ad1 (by omega)];refine .inl ?_
   rcases c with⟨k1,k2,k3,k4⟩|⟨k1,k2,k3,k4,k5⟩
   ·rw [show(l[i].Back==0)=true by simpa using k1,Af,Gd _ _ (by rw [Wq];omega)];simp only [Aa];rw [Gd _ _ (by rw [DB,Ah,Wq];omega)];have hL:L (z++HC [IntKind.u8.wrap (Gi l[i].Text)]++l[i].Text)=L z++L6 l[i]:=by
     rw [DB,DB,Jg];unfold L6;rw [Au k1,BJ];have:IntKind.u8.wrap ((L l[i].Text).length:Int)=((L l[i].Text).length:Int):=by rw [IntKind.wrap_u8];omega
     rw [this];simp
    refine⟨_,rfl,?_,?_⟩
    ·rw [hL,hz.1,et];rfl
    rw [hL,Ah];omega
   rw [show(l[i].Back==0)=false by simp;omega,Ac,Cx (by omega) (by omega),Gd _ _ (by rw [Mk];simp;omega)];have hL:L (z++HC [IntKind.u8.wrap (128+l[i].Size),IntKind.u8.wrap l[i].Back])=L z++L6 l[i]:=by
    rw [DB,Jg];unfold L6;rw [Ax (by omega)];have e1:IntKind.u8.wrap (128+l[i].Size)=128+l[i].Size:=by rw [IntKind.wrap_u8];omega
    have e2:IntKind.u8.wrap l[i].Back=l[i].Back:=by rw [IntKind.wrap_u8];omega
    rw [e1,e2];rfl
   refine⟨_,rfl,?_,?_⟩
   ·rw [hL,hz.1,et];rfl
   rw [hL,Ah];omega)
  (λz hz=>⟨z,by simp only [Eu,AG,Aq,Aw,Ac],by rw [hz.1,AL],by omega⟩) (s:=bs [122]) ⟨by rw [DP];rfl,by rw [DP];simp⟩
 have q1':Av (λq:ByteArray×Int=>Eu l q.1 q.2) (bs [122],0)=some b:=q1;rw [q1'];simp only [Aa];have hb:b=bs (122::l.flatMap L6):=Ij (by rw [q2.1,DP])
 cases decide (ad ((L s).length:Int) 1<=Gi b)with
 |false=>left;rw [hb];rfl
 |true=>
  right;simp only [Af];rw [Gd _ _ (by rw [DP];simp;omega)];simp only [Aa];have e:bs [114]++s=bs (114::L s):=Ij (by rw [DB,DP,DP];rfl);rw [e]
theorem TE (t:ByteArray) (ht:(L t).length<=10000):∀(l:List Bi) (a:Nat) (c:List Bi),(∀x∈l,∃o:List UInt8,yX o x/\o.length<=64)->(L t).drop a=l.flatMap L6->a<=(L t).length->c.length<=a->Av (λq:List Bi×Int=>Ce t q.1 q.2) (c,(a:Int))=some (.inl (c++l))
 |[],a,c,hl,h,ha,ho=>by
  have:(L t).length=a:=by
   have:=Ca List.length h;rw [B6]at this;simp at this;omega
  rw [AA];have hb:Ce t c (a:Int)=some (.inr (.inl c)):=by
   simp only [Ce];rw [BJ,Ae (by omega),Ac]
  simp only [hb];rw [A0]
 |x::l,a,c,hl,h,ha,ho=>by
  obtain⟨o,m,p⟩:=hl x (by simp);rw [H9]at h;have d:=Ca List.length h;rw [B6,Ah]at d
  rcases m with⟨k1,k2,k3,k4⟩|⟨k1,k2,k3,k4,k5⟩
  ·have he:L6 x=UInt8.ofNat (L x.Text).length::L x.Text:=by unfold L6;rw [Au k1]
   rw [he]at h d;rw [Az]at d;have f:a<(L t).length:=by omega
   have e:=Bj f;rw [h,BF]at e
   injection e with hx hd
   have i:(((L t)[a]).toNat:Int)=((L x.Text).length:Int):=by rw [<-hx,GK];omega
   have k:sub t ((a+1:Nat):Int) ((a+1+(L x.Text).length:Nat):Int)=some x.Text:=by
    rw [Fi t (by omega) (by omega)];congr 1;apply Ij;rw [Ik,<-hd,show a+1+(L x.Text).length-(a+1)=(L x.Text).length by omega,P4 rfl]
   have hb:Ce t c (a:Int)=some (.inl (c++ [Bi.mk 0 0 x.Text],((a+1+(L x.Text).length:Nat):Int))):=by
    simp only [Ce];rw [BJ,Ad (by omega),Af,EM t f];simp only [Aa];rw [i,N2 (by omega) (by omega),Ae (by omega),Ac,ad1 (by omega),Cx (by omega) (by omega),Ae (by omega),Ac];rw [show((a+1:Nat):Int)+((L x.Text).length:Int)=((a+1+(L x.Text).length:Nat):Int) by omega,k];simp only [Aa];rw [Cq (by simp;omega)];rfl
   have j:Bi.mk 0 0 x.Text=x:=by
    cases x with
    |mk b z u=>simp only at k1 k2;rw [k1,k2]
   rw [j]at hb;rw [AA];simp only [hb];have:=TE t ht l (a+1+(L x.Text).length) (c++ [x]) (λy hy=>hl y (by simp [hy])) (by rw [<-CB,<-hd,EF rfl]) (by omega) (by simp;omega);rw [Ao,BS]at this;exact this
  have he:L6 x=[UInt8.ofNat (128+x.Size).toNat,UInt8.ofNat x.Back.toNat]:=by unfold L6;rw [Ax (by omega)]
  rw [he]at h d;simp only [Az,Bm]at d;have f:a<(L t).length:=by omega
  have e:=Bj f;rw [h]at e;simp only [BF,A5]at e
  injection e with hx hd
  have g:=Bj (show a+1<(L t).length by omega);rw [<-hd]at g
  injection g with hx2 hd2
  have i:(((L t)[a]).toNat:Int)=128+x.Size:=by rw [<-hx,GK];omega
  have n:(((L t)[a+1]'(by omega)).toNat:Int)=x.Back:=by rw [<-hx2,GK];omega
  have hb:Ce t c (a:Int)=some (.inl (c++ [Bi.mk x.Back x.Size (bs [])],((a+2:Nat):Int))):=by
   simp only [Ce];rw [BJ,Ad (by omega),Af,EM t f];simp only [Aa];rw [i,N2 (by omega) (by omega),Ad (by omega),Af,Cx (b:=2) (by omega) (by omega),Ae (by omega),Ac,ad1 (by omega),EM t (by omega)];simp only [Aa];rw [n,N2 (by omega) (by omega),C5 (by omega) (by omega),Cq (by simp;omega)];simp only [Aa];rw [show 128+x.Size-128=x.Size by omega];rfl
  have j:Bi.mk x.Back x.Size (bs [])=x:=by
   cases x with
   |mk b z u=>simp only at k5⊢;rw [show bs []=u from Ij (by rw [k5,DP])]
  rw [j]at hb;rw [AA];simp only [hb];have:=TE t ht l (a+2) (c++ [x]) (λy hy=>hl y (by simp [hy])) (by rw [show a+2=a+1+1 by omega];exact hd2.symm) (by omega) (by simp;omega);rw [Ao,BS]at this;exact this
def GT (l:List UInt8):List Int:=l.map λc=>(c.toNat:Int)
theorem nV (l:List UInt8):L (HC (GT l))=l:=by
 rw [Jg,GT,Fg];have:((λn:Int=>UInt8.ofNat n.toNat)∘λc:UInt8=>(c.toNat:Int))=id:=by
  funext c;simp
 rw [this,Sp]
theorem pZ (b:ByteArray):iD b=GT (L b):=rfl
theorem WK (x:Bi) (b:1<=x.Back) (hs:0<=x.Size/\x.Size<=31):∀(n k:Nat) (a:List UInt8),(k:Int)+n=x.Size->x.Back<=(a.length:Int)->a.length+n<=1000->Av (λq:List Int×Int=>DU x q.1 q.2) (GT a,(k:Int))=some (GT (Tv n x.Back.toNat a))
 |0,k,a,hk,c,ho=>by
  rw [AA];have hb:DU x (GT a) (k:Int)=some (.inr (GT a)):=by
   simp only [DU];rw [Ae (by omega),Ac]
  simp only [hb];rfl
 |n+1,k,a,hk,c,ho=>by
  have d:ln (GT a)=(a.length:Int):=by rw [BW,GT,Be]
  have e:gi (GT a) ((a.length:Int)-x.Back)=some (((a[a.length-x.Back.toNat]?).getD 0).toNat:Int):=by
   rw [show(a.length:Int)-x.Back=((a.length-x.Back.toNat:Nat):Int) by omega,AB,GT,AN,Ab (by omega)];rfl
  have hb:DU x (GT a) (k:Int)=some (.inl (GT (a++ [(a[a.length-x.Back.toNat]?).getD 0]),((k+1:Nat):Int))):=by
   simp only [DU];rw [Ad (by omega),Af,d,C5 (by omega) (by omega),e];simp only [Aa];rw [Cq (by simp [GT];omega),ad1 (by omega)];simp only [Aa,GT,Cl,B8,kM]
  rw [AA];simp only [hb];rw [Tv];exact WK x b hs n (k+1) _ (by omega) (by simp;omega) (by simp;omega)
theorem iQ (l:List Bi) (hl:l.length<=64) (a:rD l) (h64:(EZ l).length<=64):Av (λq:List Int×Int=>DV l q.1 q.2) ([],0)=some (.inl (GT (EZ l))):=by
 obtain⟨b,h1,h2⟩:=Bf (body:=λq:List Int×Int=>DV l q.1 q.2) (λ(o:List UInt8) i=>(GT o,i)) l.length (λi o=>o=EZ (l.take i)) (λb=>b= .inl (GT (EZ l)))
  (λo i hi ho=>by
   have hx:=Ab hi;have hk:=a i _ hx;have hm:=Mz a i (by omega);have d:=Mz a (i+1) (by omega);have et:EZ (l.take (i+1))=Ug o l[i]:=by rw [Ap hi,NE,ho]
   rw [<-ho]at hk hm;rw [et]at d
   have c:∀q:List UInt8,ln (GT q)=(q.length:Int):=λq=>by rw [BW,GT,Be]
   simp only [DV,AG,Ad hi,Af,AB,hx,Aa];refine .inl ⟨Ug o l[i],?_,et.symm⟩
   rcases hk with⟨k1,k2,k3,k4⟩|⟨k1,k2,k3,k4,k5⟩
   ·rw [show(l[i].Back==0)=true by simpa using k1,Af,BJ,Ez,Ad (by omega)];simp only [Aa,Ak,Ac];rw [show(l[i].Size !=0)=false by simp [k2],pZ];simp only [Ac];have e1:ap 1 (GT o) (GT (L l[i].Text))=some (GT (Ug o l[i])):=by
     rw [Cq (by simp [GT];omega)];unfold Ug;rw [Au k1];simp [GT]
    rw [e1];simp only [Aa,BA];rw [c,Ae (by omega),Ac,ad1 (by omega)]
   rw [show(l[i].Back==0)=false by simp;omega,Ac,c,Ez,Ad (by omega)];simp only [Aa,Ak,Ac];rw [Ez,Ad (by omega)];simp only [Aa,Ak,Ac];have e:seq l[i].Text (bs [])=true:=by rw [ID,A7];exact Ij (by rw [k5,DP])
   rw [e];simp only [Ak,Ac];have e1:=WK l[i] k1 ⟨by omega,k4⟩ l[i].Size.toNat 0 o (by omega) k2 (by omega);rw [show((0:Nat):Int)=0 from rfl]at e1;rw [e1];have e2:Tv l[i].Size.toNat l[i].Back.toNat o=Ug o l[i]:=by unfold Ug;rw [Ax (by omega)]
   rw [e2];simp only [Aa,BA]
   rw [c,Ae (by omega),Ac,ad1 (by omega)])
  (λo ho=>⟨.inl (GT o),by simp only [DV,AG,Aq,Aw,Ac],by rw [ho,AL]⟩) (s:=[]) rfl
 rw [<-h2];exact h1
theorem gC (s:ByteArray) (hs:(L s).length<=64):∃z,Dp s=some (z,true)/\FI z=some (s,true)/\1<=(L z).length:=by
 obtain⟨l,h1,h2,h3,h4⟩:=zP s hs;have fin:∀z:ByteArray,Dp s=some (z,true)->((Dp s).bind λv3=>(bif(!v3.2)then(some true)else(some (!(seq v3.1 z))):Option (Bool)).bind λj2=>bif j2 then(some ((bs []),false))else(some (s,true)))=some (s,true):=by
  intro z hz;rw [hz];have:seq z z=true:=by rw [ID];simp
  simp only [Aa,Ak,Ac,this]
 rcases h4 with h4|h4
 ·refine⟨_,h4,?_,by rw [DP];simp⟩;have hf:=fin _ h4;generalize hz:bs (122::l.flatMap L6)=z at h4 hf;have hL:L z=122::l.flatMap L6:=by rw [<-hz,DP]
  have d:(L z).length<=3000:=by
   have:∀m:List Bi,(∀x∈m,∃o:List UInt8,yX o x/\o.length<=64)->(m.flatMap L6).length<=32*m.length:=by
    intro m
    induction m with
    |nil=>intro _;simp
    |cons x m ih=>
     intro hm;obtain⟨o,f,g⟩:=hm x (by simp);have:=mB f g;have:=ih (λy hy=>hm y (by simp [hy]));rw [H9,Ah,Az];omega
   have:=this l (λx hx=>by
    obtain⟨i,hi,rfl⟩:=AF hx;have hm:=Mz h1 i (by omega);rw [h2]at hm
    exact⟨_,h1 i _ (Ab hi),by omega⟩)
   rw [hL,Az];omega
  unfold FI;have a:1<=(L z).length:=by rw [hL];simp
  rw [BJ,show(((L z).length:Int)==0)=false by rw [Dz];omega,Ac];have b:sub z 1 ((L z).length:Int)=some (bs (l.flatMap L6)):=by
   rw [show(1:Int)=((1:Nat):Int)from rfl,Fi z a (A3 _)];congr 1;apply Ij;rw [Ik,DP,AP (by rw [B6];omega),hL];rfl
  have c:sx z 0=some 122:=by
   rw [show(0:Int)=((0:Nat):Int)from rfl,EM z (i:=0) a];have:(L z)[0]?=some 122:=by rw [hL];rfl
   rw [Ab (by omega)]at this
   injection this with this
   rw [this];rfl
  rw [b,c];simp only [Aa];rw [show((122:Int)==122)=true from rfl];simp only [Af];have h:(L (bs (l.flatMap L6))).length<=10000:=by rw [DP];rw [hL,Az]at d;omega
  have e:=TE (bs (l.flatMap L6)) h l 0 [] (λx hx=>by
    obtain⟨i,hi,rfl⟩:=AF hx;have hm:=Mz h1 i (by omega);rw [h2]at hm
    exact⟨_,h1 i _ (Ab hi),by omega⟩) (by rw [DP];rfl) (by omega) (by simp)
  rw [show((0:Nat):Int)=0 from rfl,A5]at e;have ht:Jm (bs (l.flatMap L6))=some (l,true):=by
   unfold Jm;rw [e];rfl
  have hp:Fy l=some (s,true):=by
   unfold Fy;rw [iQ l h3 h1 (by rw [h2];omega),h2];simp only [Aa,BA];congr 2;apply Ij;rw [nV]
  rw [ht];simp only [Aa];rw [hp];simp only [Aa,Ak,Ac,BA];exact hf
 refine⟨_,h4,?_,by rw [DP];simp⟩;have hf:=fin _ h4;generalize hz:bs (114::L s)=z at h4 hf;have hL:L z=114::L s:=by rw [<-hz,DP]
 unfold FI;have a:1<=(L z).length:=by rw [hL];simp
 rw [BJ,show(((L z).length:Int)==0)=false by rw [Dz];omega,Ac];have b:sub z 1 ((L z).length:Int)=some s:=by
  rw [show(1:Int)=((1:Nat):Int)from rfl,Fi z a (A3 _)];congr 1;apply Ij;rw [Ik,AP (by rw [B6];omega),hL];rfl
 have c:sx z 0=some 114:=by
  rw [show(0:Int)=((0:Nat):Int)from rfl,EM z (i:=0) a];have:(L z)[0]?=some 114:=by rw [hL];rfl
  rw [Ab (by omega)]at this
  injection this with this
  rw [this];rfl
 rw [b,c];simp only [Aa];rw [show((114:Int)==122)=false from rfl];simp only [Ac,Aa,BA];exact hf
theorem Ty (a b:List ByteArray):MH (a++b)=MH a++MH b:=by unfold MH;rw [PA]
theorem nM (a b:List Dk):G7 (a++b)=G7 a++G7 b:=by unfold G7;rw [PA]
def Cd (seq tx:Int) (T:List ByteArray):List Page:=T.mapIdx λi t=>Page.mk 2 (seq+i) tx i T.length t
theorem oZ (a:List Dk) (hr:a.length<=1048576) (h:∀r∈a,Gk r=true):∃T:List ByteArray,Av (λs:List ByteArray×Int=>Ip a s.1 s.2) ([(bs [])],0)=some (.inl T)/\1<=T.length/\T.length<=1+a.length/\MH T=G7 a/\∀t∈T,(L t).length<=90:=by
 obtain⟨b,h1,T,h2,h3⟩:=Bf (body:=λs:List ByteArray×Int=>Ip a s.1 s.2) (λ(o:List ByteArray) i=>(o,i)) a.length
  (λi T=>1<=T.length/\T.length<=1+i/\MH T=G7 (a.take i)/\∀t∈T,(L t).length<=90)
  (λb=>∃T:List ByteArray,b= .inl T/\1<=T.length/\T.length<=1+a.length/\MH T=G7 a/\∀t∈T,(L t).length<=90)
  (λT i hi hT=>by
   obtain⟨j,k,f,g⟩:=hT;have hx:=Ab hi;obtain⟨t,t1,t2⟩:=aE (h _ (AC hi));have l:=qK (h _ (AC hi));rw [<-t2]at l;have et:G7 (a.take (i+1))=G7 (a.take i)++L t:=by rw [Ap hi,nM,t2];simp [G7]
   rcases GV T with e|⟨T0,last,e⟩
   ·subst e;simp at j
   rw [GW]at e;subst e;have m:ln (T0++ [last])=((T0.length+1:Nat):Int):=by rw [BW];simp
   rw [Ah,An]at j k;have n:sb (ln (T0++ [last])) 1=(T0.length:Int):=by rw [m,C5 (by omega) (by omega)];omega
   have p:gi (T0++ [last]) (T0.length:Int)=some last:=GU _ _;have q:=g last (by simp);rw [Ty]at f;simp only [Ip,AG,Ad hi,Af,AB,hx,Aa];rw [t1];simp only [Aa,Ak,Ac];rw [n,p];simp only [Aa];rw [BJ,BJ,Cx (by omega) (by omega),ad1 (by omega)];refine .inl ?_;by_cases d:((L last).length:Int)+((L t).length:Int)>90
   ·rw [Ad d,Af,Cq (by simp;omega)];refine⟨T0++ [last]++ [t],rfl,by simp,by simp;omega,?_,λx c=>?_⟩
    ·rw [Ty,Ty,et,f];simp [MH]
    rw [Ai,Ay]at c
    rcases c with c|rfl
    ·exact g x c
    omega
   rw [Ae d,Ac,Gd _ _ (by omega)];simp only [Aa];rw [Jj];refine⟨T0++ [last++t],rfl,by simp,by simp;omega,?_,λx c=>?_⟩
   ·rw [Ty,et,<-f];simp [MH,DB]
   rw [Ai,Ay]at c
   rcases c with c|rfl
   ·exact g x (by simp [c])
   rw [DB,Ah];omega)
  (λT hT=>⟨_,by simp only [Ip,AG,Aq,Aw,Ac],T,rfl,hT.1,hT.2.1,by rw [hT.2.2.1,AL],hT.2.2.2⟩) (s:=[bs []]) ⟨by simp,by simp,by simp [MH,G7,DP],λt ht=>by rw [Ay]at ht;rw [ht,DP];simp⟩
 subst h2;exact⟨T,h1,h3⟩
theorem ZF (seq tx:Int) (a:List Dk) (hr:a.length<=1000) (c:∀r∈a,Gk r=true):∃T:List ByteArray,1<=T.length/\MH T=G7 a/\(∀t∈T,(L t).length<=90)/\T.length<=1+a.length/\
  ((N7 seq tx a=some (Cd seq tx T,true)/\T.length<=9/\1<=seq/\seq+T.length-1<=1000000000/\1<=tx/\tx<=1000000000)\/(N7 seq tx a=some ([],false)/\¬(T.length<=9/\1<=seq/\seq+T.length-1<=1000000000/\1<=tx/\tx<=1000000000))):=by
 obtain⟨T,h1,h2,h2',h3,h4⟩:=oZ a (by omega) c;refine⟨T,h2,h3,h4,h2',?_⟩;unfold N7;rw [h1];simp only [Aa,BA];rw [BW];by_cases h9:(T.length:Int)>9
 ·rw [Ad h9];exact .inr ⟨rfl,λhh=>by omega⟩
 rw [Ae h9];simp only [Ac];rw [C5 (by omega) (by omega),Cx (by omega) (by omega),Ez,Ez];simp only [Aa];by_cases hs:1<=seq/\seq<=1000000000-(T.length:Int)+1
 ·rw [Ad hs];simp only [Ak,Ac];by_cases ht:1<=tx/\tx<=1000000000
  ·rw [Ad ht];simp only [Ak,Ac,Aa];left;obtain⟨b,q1,q2⟩:=Bf (body:=λs:List Page×Int=>Io seq tx T s.1 s.2) (λ(o:List Page) i=>(o,i)) T.length (λi o=>o=(Cd seq tx T).take i) (λb=>b=Cd seq tx T)
    (λo i hi ho=>by
     have hx:=Ab hi;have e:o.length<=i:=by rw [ho,AE];omega
     simp only [Io,AG,Ad hi,Af,AB,hx,Aa];rw [Cx (by omega) (by omega),BW,Cq (by simp;omega)];simp only [Aa];rw [ad1 (by omega)];refine .inl ⟨_,rfl,?_⟩;have d:(Cd seq tx T)[i]?=some (Page.mk 2 (seq+i) tx i T.length T[i]):=by unfold Cd;rw [Ka,hx];rfl
     rw [DR,d,ho]
     rfl)
    (λo ho=>⟨o,by simp only [Io,AG,Aq,Aw,Ac],by rw [ho,AP];unfold Cd;rw [DL];exact A3 _⟩) (s:=[]) rfl
   have q1':Av (λs:List Page×Int=>Io seq tx T s.1 s.2) ([],0)=some b:=q1;rw [q1',q2];exact⟨rfl,by omega,by omega,by omega,ht.1,ht.2⟩
  rw [Ae ht];exact .inr ⟨rfl,λhh=>ht ⟨hh.2.2.2.1,hh.2.2.2.2⟩⟩
 rw [Ae hs];exact .inr ⟨rfl,λhh=>hs ⟨hh.2.1,by omega⟩⟩
def Steps:Flash->List BY->Flash->Prop
 |f,[],g=>g=f
 |f,s::ss,g=>RI f s/\Steps (Ji f s) ss g
theorem NZ:∀(f:Flash) (a b:List BY) (g:Flash),Steps f (a++b) g↔∃m,Steps f a m/\Steps m b g
 |f,[],b,g=>⟨λh=>⟨f,rfl,h⟩,λ⟨m,h1,h2⟩=>by rw [h1]at h2;exact h2⟩
 |f,s::a,b,g=>by
  rw [BF];simp only [Steps,NZ];constructor
  ·rintro⟨h1,m,h2,h3⟩;exact⟨m,⟨h1,h2⟩,h3⟩
  rintro⟨m,⟨h1,h2⟩,h3⟩;exact⟨h1,m,h2,h3⟩
theorem VV:∀{f:Flash} {a:List BY} {g:Flash},BL f->Steps f a g->BL g
 |f,[],g,hf,h=>by rw [h];exact hf
 |f,s::a,g,hf,h=>VV (uN hf h.1) h.2
theorem kI {m:Flash} {s:BY} (h:Steps f a m) (hs:RI m s):Steps f (a++ [s]) (Ji m s):=(NZ f a [s] _).2 ⟨m,h,hs,rfl⟩
theorem PQ (hf:BL f) (h:Steps f a g) (ha:a.length<=1048576):Mb f a=some (g,(a.length:Int)):=by
 unfold Mb;rw [FR f hf.cap];simp only [Aa];obtain⟨b,h1,h2⟩:=Bf (body:=λs:Int×List Block=>Iu a s.1 s.2) (λ(o:List Block) i=>(i,o)) a.length (λi o=>Steps f (a.take i) (Flash.mk o)/\Steps (Flash.mk o) (a.drop i) g) (λb=>b= .inl g.Blocks)
  (λo i hi hs=>by
   have hx:=Ab hi;obtain⟨s1,s2⟩:=hs;rw [Bj hi]at s2;simp only [Iu,AG,Ad hi,Af,AB,hx,Aa];have hP:=VV hf s1
   rcases RN hP a[i]with⟨k1,k2⟩|⟨k1,k2⟩
   ·rw [k2];simp only [Aa,Ak,Ac];rw [ad1 (by omega)];refine .inl ⟨(Ji (Flash.mk o) a[i]).Blocks,rfl,?_,s2.2⟩;rw [Ap hi];exact kI s1 k1
   exact absurd s2.1 k1)
  (λo hs=>⟨.inl o,by simp only [Iu,AG,Aq,Aw,Ac],by
   have:=hs.2;rw [List.drop_length]at this
   rw [show g=Flash.mk o from this]⟩) (s:=f.Blocks) ⟨rfl,h⟩
 have h1':Av (λs:Int×List Block=>Iu a s.1 s.2) (0,f.Blocks)=some b:=h1;rw [h1',h2];rfl
def FV:Flash->List BY->List Page->Flash->Prop
 |f,[],[],g=>g=f
 |f,s::ss,p::ps,g=>s.Kind=1/\Ye f s.Block s.Leaf s.Text/\EX s.Text=some (p,true)/\FV (Ji f s) ss ps g
 |_,_,_,_=>False
theorem E6:∀{f:Flash} {ss:List BY} {ps:List Page} {g:Flash},FV f ss ps g->Steps f ss g/\ss.length=ps.length
 |f,[],[],g,h=>⟨h,rfl⟩
 |f,s::ss,p::ps,g,h=>⟨⟨.inl ⟨h.1,h.2.1⟩,(E6 h.2.2.2).1⟩,by rw [Az,Az,(E6 h.2.2.2).2]⟩
 |f,[],p::ps,g,h=>h.elim
 |f,s::ss,[],g,h=>h.elim
theorem Sn:∀{f:Flash} {ss:List BY} {ps:List Page} {g:Flash} {b l:Int} {t:ByteArray} {p:Page},FV f ss ps g->Ye g b l t->EX t=some (p,true)->FV f (ss++ [BY.mk 1 b l t]) (ps++ [p]) (prog g b l (Leaf.mk 1 t))
 |f,[],[],g,b,l,t,p,h,h1,h2=>by
  have:g=f:=h;subst this;exact⟨rfl,h1,h2,by unfold Ji;rfl⟩
 |f,s::ss,q::ps,g,b,l,t,p,h,h1,h2=>⟨h.1,h.2.1,h.2.2.1,Sn h.2.2.2 h1 h2⟩
 |f,[],q::ps,g,b,l,t,p,h,h1,h2=>h.elim
 |f,s::ss,[],g,b,l,t,p,h,h1,h2=>h.elim
def Cu (ss:List BY) (ps:List Page):List A4:=List.zipWith (λs p=>A4.mk s.Block s.Leaf p) ss ps
def FU:Int->List Page->Prop
 |_,[]=>True
 |n,p::ps=>n<=p.Seq/\FU (p.Seq+1) ps
theorem X9:∀{f:Flash} {ss:List BY} {ps:List Page} {g:Flash} {r:List A4} {n:Int},BL f->SR (JQ 0 f.Blocks) r->FV f ss ps g->(∀y∈r,y.Page.Seq<n)->FU n ps->SR (JQ 0 g.Blocks) (r++Cu ss ps)
 |f,[],[],g,r,n,hf,a,h,hn,ha=>by
  have:g=f:=h;subst this;unfold Cu;simpa using a
 |f,s::ss,p::ps,g,r,n,hf,a,h,hn,ha=>by
  obtain⟨h1,h2,h3,h4⟩:=h;obtain⟨k1,_,A,B,k2,k3,_⟩:=OD hf h2;have c:Ji f s=prog f s.Block s.Leaf (Leaf.mk 1 s.Text):=by unfold Ji;rw [Au h1]
  rw [c]at h4;have b:SR (JQ 0 (prog f s.Block s.Leaf (Leaf.mk 1 s.Text)).Blocks) (r++ [A4.mk s.Block s.Leaf p]):=by
   rw [k3 p (eK h3)]
   refine SR.add (by rw [<-k2];exact a) λx hx=>?_
   have:=hn x hx;have:=ha.1;show x.Page.Seq<p.Seq;omega
  have:=X9 k1 b h4 (n:=p.Seq+1) (λy hy=>by
   rw [Ai,Ay]at hy
   rcases hy with hy|rfl
   ·have:=hn y hy;have:=ha.1;omega
   show p.Seq<p.Seq+1;omega) ha.2
  rw [Ao]at this;exact this
 |f,[],q::ps,g,r,n,hf,a,h,hn,ha=>h.elim
 |f,s::ss,[],g,r,n,hf,a,h,hn,ha=>h.elim
theorem Sm:∀{f:Flash} {ss:List BY} {ps:List Page} {g:Flash} (k:Nat),FV f ss ps g->∃m,FV f (ss.take k) (ps.take k) m
 |f,[],[],g,k,h=>⟨f,by simp [FV]⟩
 |f,s::ss,p::ps,g,0,h=>⟨f,rfl⟩
 |f,s::ss,p::ps,g,k+1,h=>by
  obtain⟨m,hm⟩:=Sm k h.2.2.2;exact⟨m,h.1,h.2.1,h.2.2.1,hm⟩
 |f,[],q::ps,g,k,h=>h.elim
 |f,s::ss,[],g,k,h=>h.elim
theorem qQ (hg:BL g) (h:FV f ss ps g) (hs:ss.length<=1000) (p:Page):
  (∃s g',Gr g ss p=some (g',ss++ [s],true)/\FV f (ss++ [s]) (ps++ [p]) g'/\BL g'/\GS p/\RV g s.Block s.Leaf)\/Gr g ss p=some (g,ss,false):=by
 by_cases hp:GS p
 ·obtain⟨t,t1,t2,t3,t4⟩:=YZ hp
  rcases RL hg ss (by omega) p t1 (λ_=>⟨t2,t3⟩)with⟨_,b,l,q1,_,q2⟩|q
  ·left;have hm:Ye g b l t:=by
    obtain⟨x,a1,a2,a3,a4⟩:=q1;exact⟨x,a1,a2,a3,a4,t2,t3⟩
   exact⟨_,_,q2,Sn h hm t4,(OD hg hm).1,hp,q1⟩
  exact .inr q
 rcases RL hg ss (by omega) p (qT hp) (λhh=>by cases hh)with⟨hh,_⟩|q
 ·cases hh
 exact .inr q
theorem WM (hf:BL f) (ps:List Page) (rt:Bool) (c:ps.length<=9) (a:List Page) (ss0:List BY) (g0:Flash) (ok0:Bool) (h0:ok0=true->FV f ss0 a g0/\BL g0/\ss0.length<=1):
  ∃ss ok,Av (λs:List BY×Bool×Int×List Block=>Ds (ps,rt) s.1 s.2.1 s.2.2.1 s.2.2.2) (ss0,ok0,0,g0.Blocks)=some (ss,ok)/\(ok=true->ok0=true/\∃g,FV f ss (a++ps) g/\BL g/\∀p∈ps,GS p):=by
 obtain⟨b,h1,h2⟩:=Bf (body:=λs:List BY×Bool×Int×List Block=>Ds (ps,rt) s.1 s.2.1 s.2.2.1 s.2.2.2) (λ(o:List BY×Bool×List Block) i=>(o.1,o.2.1,i,o.2.2)) ps.length
  (λi o=>o.2.1=true->ok0=true/\FV f o.1 (a++ps.take i) (Flash.mk o.2.2)/\BL (Flash.mk o.2.2)/\o.1.length<=i+1/\∀p∈ps.take i,GS p)
  (λb=>b.2=true->ok0=true/\∃g,FV f b.1 (a++ps) g/\BL g/\∀p∈ps,GS p)
  (λo i hi hs=>by
   obtain⟨ss,ok,bl⟩:=o;have hx:=Ab hi;simp only [Ds,AG,Ad hi,Af,Aa]
   cases ok with
   |false=>
    simp only [Ac];exact .inr ⟨_,rfl,λhh=>by cases hh⟩
   |true=>
    obtain⟨k0,k1,k2,k3,k4⟩:=hs rfl;simp only at k1 k2 k3;simp only [Af,AB,hx,Aa];refine .inl ?_
    rcases qQ k2 k1 (by omega) ps[i]with⟨s,g',q1,q2,q3,q4,_⟩|q
    ·rw [q1];simp only [Aa];rw [ad1 (by omega)];refine⟨(ss++ [s],true,g'.Blocks),rfl,λ_=>⟨k0,?_,q3,by simp;omega,λp hp=>?_⟩⟩
     ·rw [Ap hi,<-Ao];exact q2
     rw [Ap hi,Ai,Ay]at hp
     rcases hp with hp|rfl
     ·exact k4 p hp
     exact q4
    rw [q];simp only [Aa];rw [ad1 (by omega)]
    exact⟨(ss,false,bl),rfl,λhh=>by cases hh⟩)
  (λo hs=>⟨(o.1,o.2.1),by simp only [Ds,AG,Aq,Aw,Ac,Aa],λhh=>by
   obtain⟨k0,k1,k2,_,k4⟩:=hs hh;rw [AL]at k1 k4
   exact⟨k0,_,k1,k2,k4⟩⟩) (s:=(ss0,ok0,g0.Blocks)) (λhh=>by
    obtain⟨a1,a2,a3⟩:=h0 hh
    exact⟨hh,by rw [GO,A0];exact a1,a2,by simpa using a3,λp hp=>by simp at hp⟩)
 exact⟨b.1,b.2,h1,h2⟩
def C9 (d:Bc) (c:Int) (a:ByteArray):List Page:=if L a=[]then []else [Page.mk 1 d.Seq c 0 1 a]
def Fo (d:Bc) (a:ByteArray):Int:=if L a=[]then d.Seq else d.Seq+1
theorem Pn (hf:BL d.Flash) (j:0<=d.Seq/\d.Seq<=1000000001) (b:List Dk) (h:b≠ []) (hr:b.length<=1000) (i:∀r∈b,Gk r=true) (a:ByteArray):
  Dh d b a=some ([],false)\/∃steps T g last,b[b.length-1]?=some last/\Dh d b a=some (steps,true)/\1<=T.length/\T.length<=9/\MH T=G7 b/\(∀t∈T,(L t).length<=90)/\
   FV d.Flash steps (C9 d last.Chunk a++Cd (Fo d a) d.Tx T) g/\BL g/\∀p∈C9 d last.Chunk a++Cd (Fo d a) d.Tx T,GS p:=by
 have k:0<b.length:=Gg.2 h;obtain⟨last,c⟩:∃last,b[b.length-1]?=some last:=⟨_,Ab (by omega)⟩;unfold Dh;rw [show(ln b==0)=false by rw [Dz,BW];omega];simp only [Ac];have first:∃ss0 g0 ok0,(bif(!(seq a (bs [])))then(((gi b (sb (ln b) 1)).bind λx1=>(Gr d.Flash [] (Page.mk 1 d.Seq x1.Chunk 0 1 a)).bind λv1=>some (v1.2.1,v1.2.2,v1.1.Blocks):Option (List BY×Bool×List Block)).bind λj2=>some (j2.1,(ad d.Seq 1),j2.2.1,j2.2.2))else(some ([],d.Seq,true,d.Flash.Blocks)):Option (List BY×Int×Bool×List Block))=some (ss0,Fo d a,ok0,Flash.Blocks g0)/\(ok0=true->FV d.Flash ss0 (C9 d last.Chunk a) g0/\BL g0/\ss0.length<=1/\∀p∈C9 d last.Chunk a,GS p):=by
  by_cases ht:L a=[]
  ·have:seq a (bs [])=true:=by rw [ID,A7];exact Ij (by rw [ht,DP])
   rw [this];refine⟨[],d.Flash,true,?_,λ_=>⟨?_,hf,by simp,?_⟩⟩
   ·unfold Fo;rw [Au ht];rfl
   ·unfold C9;rw [Au ht];rfl
   unfold C9;rw [Au ht];intro p hp;cases hp
  have:seq a (bs [])=false:=by
   rw [ID,AX];intro e;exact ht (by rw [e,DP])
  rw [this];simp only [AH,Af];rw [BW,C5 (by omega) (by omega),show(b.length:Int)-1=((b.length-1:Nat):Int) by omega,AB,c];simp only [Aa];rw [Cx (by omega) (by omega)];have e1:Fo d a=d.Seq+1:=by unfold Fo;rw [Ax ht]
  have e2:C9 d last.Chunk a=[Page.mk 1 d.Seq last.Chunk 0 1 a]:=by unfold C9;rw [Ax ht]
  rw [e1,e2]
  rcases qQ (f:=d.Flash) (ss:=[]) (ps:=[]) hf rfl (by simp) (Page.mk 1 d.Seq last.Chunk 0 1 a)with⟨s,g',q1,q2,q3,q4,_⟩|q
  ·rw [q1];refine⟨_,g',true,rfl,λ_=>⟨q2,q3,by simp,λp hp=>?_⟩⟩;rw [Ay]at hp;rw [hp];exact q4
  rw [q];exact⟨_,d.Flash,false,rfl,λhh=>by cases hh⟩
 obtain⟨ss0,g0,ok0,e0,h0⟩:=first
 rw [e0];simp only [Aa];obtain⟨T,t1,t2,t3,_,t4⟩:=ZF (Fo d a) d.Tx b hr i
 rcases t4 with⟨t4,t5,t6,t7,t8,t9⟩|⟨t4,_⟩
 ·rw [t4];simp only [Aa];obtain⟨ss,ok,q1,q2⟩:=WM hf (Cd (Fo d a) d.Tx T) true (by unfold Cd;rw [DL];exact t5) (C9 d last.Chunk a) ss0 g0 ok0 (λhh=>⟨(h0 hh).1,(h0 hh).2.1,(h0 hh).2.2.1⟩);rw [q1];simp only [Aa]
  cases ok with
  |false=>exact .inl rfl
  |true=>
   obtain⟨k0,g,k1,k2,k3⟩:=q2 rfl;refine .inr ⟨ss,T,g,last,c,rfl,t1,t5,t2,t3,k1,k2,λp hp=>?_⟩
   rcases Ai.1 hp with hp|hp
   ·exact(h0 k0).2.2.2 p hp
   exact k3 p hp
 rw [t4];simp only [Aa];obtain⟨ss,ok,q1,q2⟩:=WM hf [] false (by simp) (C9 d last.Chunk a) ss0 g0 ok0 (λhh=>⟨(h0 hh).1,(h0 hh).2.1,(h0 hh).2.2.1⟩);rw [q1];simp only [Aa];cases ok<;>exact .inl rfl
def Kd (b:Block):Nat:=if b.Bad=true then 0 else 4-Hb b.Leaves
def Ju (f:Flash):Nat:=(f.Blocks.map Kd).sum
def Tw (l:List Leaf):Nat:=(l.filter λx=>x.Is==0).length
theorem Z5:∀{l:List Leaf},Y3 l->Tw l=l.length-Hb l
 |[],_=>rfl
 |x::l,h=>by
  have ht:Y3 l:=λk a b ha hb=>h (k+1) a b (by simpa using ha) (by simpa using hb)
  have ih:=Z5 ht;have d:=bH l;by_cases e:x.Is=0
  ·have c:∀(k:Nat) y,(x::l)[k]?=some y->y.Is=0:=by
    intro k
    induction k with
    |zero=>intro y hy;simp at hy;rw [<-hy];exact e
    |succ k ihk=>
     intro y hy;have hk:k<(x::l).length:=by have:=(Ag.1 hy).1;omega
     exact h k _ y (Ab hk) hy (ihk _ (Ab hk))
   have h1:Hb (x::l)=0:=by unfold Hb;rw [List.takeWhile_cons_of_neg (by simp [e])];rfl
   have h2:Tw (x::l)=(x::l).length:=by
    unfold Tw;rw [EC.2 λy hy=>?_];obtain⟨k,hk⟩:=List.getElem?_of_mem hy;simpa using c k y hk
   rw [h1,h2];omega
  have h1:Hb (x::l)=Hb l+1:=by unfold Hb;rw [List.takeWhile_cons_of_pos (by simp [e])];rfl
  have h2:Tw (x::l)=Tw l:=by unfold Tw;rw [BN (by simp [e])]
  rw [h1,h2,ih,Az];omega
theorem nL {b:Block} (h:JY b):Kd b=if b.Bad=true then 0 else Tw b.Leaves:=by unfold Kd;rw [Z5 h.turn,h.four]
theorem qG (b:Block):Kd b<=4:=by unfold Kd;split<;>omega
theorem uS (l:List Block):(l.map Kd).sum<=4*l.length:=by
 induction l with
 |nil=>simp
 |cons b l ih=>have:=qG b;rw [B8,E7,Az];omega
theorem tN (h:BL f):IJ f=some ((Ju f:Nat):Int):=by
 have hn:=h.n;unfold IJ;obtain⟨b,h1,h2⟩:=Bf (body:=λs:Int×Int=>FK f s.1 s.2) (λ(o:Int) i=>(o,i)) f.Blocks.length (λi o=>o=(((f.Blocks.take i).map Kd).sum:Nat)) (λb=>b=((Ju f:Nat):Int))
  (λo i hi ho=>by
   have hx:=Ab hi;have hP:=h.blk _ (AC hi);have h4:=hP.four;have et:f.Blocks.take (i+1)=f.Blocks.take i++ [f.Blocks[i]]:=Ap hi;have a:=uS (f.Blocks.take i);rw [AE]at a;simp only [FK,AG,Ad hi,Af];obtain⟨c,q1,q2⟩:=Bf (body:=λs:Int×Int=>FJ f (i:Int) s.1 s.2) (λ(o:Int) k=>(o,k)) f.Blocks[i].Leaves.length (λk z=>z=o+((if f.Blocks[i].Bad=true then 0 else Tw (f.Blocks[i].Leaves.take k):Nat):Int)) (λz=>z=o+((Kd f.Blocks[i]:Nat):Int))
    (λz k hk hz=>by
     have hy:=Ab hk;have ek:f.Blocks[i].Leaves.take (k+1)=f.Blocks[i].Leaves.take k++ [f.Blocks[i].Leaves[k]]:=Ap hk;have g:Tw (f.Blocks[i].Leaves.take k)<=k:=by unfold Tw;have:=CF (λx:Leaf=>x.Is==0) (f.Blocks[i].Leaves.take k);rw [AE]at this;omega
     have d:Tw (f.Blocks[i].Leaves.take (k+1))=Tw (f.Blocks[i].Leaves.take k)+(if f.Blocks[i].Leaves[k].Is=0 then 1 else 0):=by
      rw [ek];unfold Tw;rw [AQ,Ah];congr 1;by_cases e:f.Blocks[i].Leaves[k].Is=0
      ·rw [Au e,BM (by simp [e])];rfl
      rw [Ax e,BN (by simp [e])];rfl
     simp only [FJ,AB,hx,Aa,AG,Ad hk,Af,hy];rw [ad1 (by omega)];refine .inl ?_
     cases hb:f.Blocks[i].Bad with
     |true=>
      rw [hb,Au rfl]at hz;exact⟨z,rfl,by rw [Au rfl];exact hz⟩
     |false=>
      rw [hb,Ax (by simp)]at hz;simp only [AH,Af];rw [Ax (by simp),d];by_cases e:f.Blocks[i].Leaves[k].Is=0
      ·rw [show(f.Blocks[i].Leaves[k].Is==0)=true by simp [e],Af,Cx (by omega) (by omega),Au e];exact⟨_,rfl,by omega⟩
      rw [show(f.Blocks[i].Leaves[k].Is==0)=false by simp [e],Ac,Ax e]
      exact⟨_,rfl,by omega⟩)
    (λz hz=>⟨z,by simp only [FJ,AB,hx,Aa,AG,Aq,Aw,Ac],by rw [hz,AL,nL hP]⟩) (s:=o) (by
     simp [Tw])
   have q1':Av (λs:Int×Int=>FJ f (i:Int) s.1 s.2) (o,0)=some c:=q1;rw [q1',q2];simp only [Aa];rw [ad1 (by omega)];refine .inl ⟨_,rfl,?_⟩;rw [et,Cl,VX,ho]
   simp)
  (λo ho=>⟨o,by simp only [FK,AG,Aq,Aw,Ac],by rw [ho,AL];rfl⟩) (s:=0) rfl
 have h1':Av (λs:Int×Int=>FK f s.1 s.2) (0,0)=some b:=h1;rw [h1',h2];rfl
theorem lE:∀(l:List Block) (c:Nat) (x y:Block),l[c]?=some x->((l.set c y).map Kd).sum+Kd x=(l.map Kd).sum+Kd y
 |[],c,x,y,h=>by simp at h
 |b::l,0,x,y,h=>by
  simp only [Cw,Aj]at h;rw [CW,B8,E7,B8,E7,h];omega
 |b::l,c+1,x,y,h=>by
  have:=lE l c x y (by simpa using h);rw [GP,B8,E7,B8,E7];omega
theorem YT {b l:Int} {t:ByteArray} (h:BL f) (hm:Ye f b l t):Ju (prog f b l (Leaf.mk 1 t))+1=Ju f:=by
 obtain⟨x,x1,x2,rfl,x4,_⟩:=hm;obtain⟨k1,k2⟩:=D6 x1;obtain⟨c,rfl⟩:∃c:Nat,b=(c:Int):=⟨_,(Bq k1).symm⟩;rw [Ba]at k2;have hP:=h.blk x (A6 k2);unfold prog Ju;rw [x1];simp only [Ey];have hs:=lE f.Blocks c x (Block.mk x.Bad x.Wear (x.Leaves.set (Hb x.Leaves) (Leaf.mk 1 t))) k2;have j:Kd x=4-Hb x.Leaves:=by unfold Kd;rw [x2];rfl
 have n:Kd (Block.mk x.Bad x.Wear (x.Leaves.set (Hb x.Leaves) (Leaf.mk 1 t)))=4-(Hb x.Leaves+1):=by
  unfold Kd;simp only [x2];rw [Ax (by simp)];congr 1;have d:Hb x.Leaves<x.Leaves.length:=by rw [hP.four];exact x4
  have g:∀(l:List Leaf) (y:Leaf),y.Is≠0->Hb l<l.length->Y3 l->Hb (l.set (Hb l) y)=Hb l+1:=by
   intro l
   induction l with
   |nil=>intro y _ h;simp at h
   |cons a l ih=>
    intro y hy i ht;by_cases e:a.Is=0
    ·have h0:Hb (a::l)=0:=by unfold Hb;rw [List.takeWhile_cons_of_neg (by simp [e])];rfl
     rw [h0,CW];unfold Hb;rw [List.takeWhile_cons_of_pos (by simpa using hy)]
     cases l with
     |nil=>rfl
     |cons z m=>
      have hz:=ht 0 a z rfl rfl e;rw [List.takeWhile_cons_of_neg (by simp [hz])];rfl
    have h0:Hb (a::l)=Hb l+1:=by unfold Hb;rw [List.takeWhile_cons_of_pos (by simp [e])];rfl
    rw [h0,GP];have h1:Hb (a::l.set (Hb l) y)=Hb (l.set (Hb l) y)+1:=by unfold Hb;rw [List.takeWhile_cons_of_pos (by simp [e])];rfl
    rw [h1,ih y hy (by rw [h0,Az]at i;omega) λk u v hu hv=>ht (k+1) u v (by simpa using hu) (by simpa using hv)]
  exact g x.Leaves (Leaf.mk 1 t) (by simp) d hP.turn
 omega
theorem pO {l:List Block} (h:∀b∈l,b.Bad=false->Hb b.Leaves=4):(l.map Kd).sum=0:=by
 induction l with
 |nil=>rfl
 |cons b l ih=>
  rw [B8,E7,ih λx hx=>h x (by simp [hx])];unfold Kd;split
  ·rfl
  rename_i e;rw [h b (by simp) (by simpa using e)]
theorem eM (hg:BL g) (h:FV f ss ps g) (hs:ss.length<=1000) (hp:GS p) (hr:0<Ju g):∃s g',Gr g ss p=some (g',ss++ [s],true)/\FV f (ss++ [s]) (ps++ [p]) g'/\BL g'/\Ju g'+1=Ju g:=by
 obtain⟨t,t1,t2,t3,t4⟩:=YZ hp;obtain⟨b,l,room,p1,p2,p3⟩:=UH hg
 cases room with
 |false=>
  have:=pO (p3 rfl);unfold Ju at hr;omega
 |true=>
  obtain⟨x,a1,a2,a3,a4⟩:=p2 rfl;have hm:Ye g b l t:=⟨x,a1,a2,a3,a4,t2,t3⟩
  rcases RL hg ss (by omega) p t1 (λ_=>⟨t2,t3⟩)with⟨_,b',l',q1,q3,q2⟩|q
  ·rw [p1]at q3
   injection q3 with q3
   obtain⟨rfl,rfl⟩:b=b'/\l=l':=by injection q3 with e1 e2;injection e2 with e2 _;exact⟨e1,e2⟩
   exact⟨_,_,q2,Sn h hm t4,(OD hg hm).1,YT hg hm⟩
  exfalso;unfold Gr at q;rw [t1,p1]at q;simp only [Aa,Ak,Ac]at q;have hd:=RN hg (BY.mk 1 b l t)
  rcases hd with⟨_,e⟩|⟨e,_⟩
  ·rw [e]at q;simp only [Aa]at q;rw [Cq (by simp;omega)]at q;simp at q
  exact e (.inl ⟨rfl,hm⟩)
theorem nY {ss0:List BY} (ps:List Page) (e:ps.length<=9) (c:∀p∈ps,GS p) {a:List Page} {g0:Flash} (h:FV f ss0 a g0) (hg:BL g0) (h1:ss0.length<=1) (hr:ps.length<=Ju g0):∃ss,Av (λs:List BY×Bool×Int×List Block=>Ds (ps,true) s.1 s.2.1 s.2.2.1 s.2.2.2) (ss0,true,0,g0.Blocks)=some (ss,true):=by
 obtain⟨b,q1,ss,q2⟩:=Bf (body:=λs:List BY×Bool×Int×List Block=>Ds (ps,true) s.1 s.2.1 s.2.2.1 s.2.2.2) (λ(o:List BY×Flash) i=>(o.1,true,i,o.2.Blocks)) ps.length
  (λi o=>FV f o.1 (a++ps.take i) o.2/\BL o.2/\o.1.length<=i+1/\Ju o.2+i=Ju g0) (λb=>∃ss,b=(ss,true))
  (λo i hi hs=>by
   obtain⟨ss,g⟩:=o;obtain⟨k1,k2,k3,k4⟩:=hs;simp only at k1 k2 k3 k4;have hx:=Ab hi;have d:Flash.mk g.Blocks=g:=rfl;obtain⟨s,g',p1,p2,p3,p4⟩:=eM k2 k1 (by omega) (c _ (AC hi)) (by omega);simp only [Ds,AG,Ad hi,Af,AB,hx,Aa];rw [d,p1];simp only [Aa];rw [ad1 (by omega)]
   exact .inl ⟨(ss++ [s],g'),rfl,by rw [Ap hi,<-Ao];exact p2,p3,by simp;omega,by show Ju g'+(i+1)=_;omega⟩)
  (λo _=>⟨_,by simp only [Ds,AG,Aq,Aw,Ac,Aa],o.1,rfl⟩) (s:=(ss0,g0)) ⟨by rw [GO,A0];exact h,hg,by simpa using h1,by simp⟩
 exact⟨ss,by rw [<-q2];exact q1⟩
theorem i7 {T:List ByteArray} {seq tx:Int} (h1:1<=seq) (h2:seq+T.length-1<=1000000000) (h3:1<=tx) (h4:tx<=1000000000) (h9:T.length<=9) (ht:∀t∈T,(L t).length<=90):∀p∈Cd seq tx T,GS p:=by
 intro p hp;unfold Cd at hp;obtain⟨i,hi,rfl⟩:=AF hp;rw [DL]at hi;rw [List.getElem_mapIdx];have:=ht _ (AC hi);unfold GS;simp;omega
theorem gV (hf:BL d.Flash) (b:List Dk) (h:b≠ []) (hr:b.length<=8) (i:∀r∈b,Gk r=true) (a:ByteArray) (m:1<=d.Seq/\d.Seq<=999999900) (g:1<=d.Tx/\d.Tx<=1000000000) (j:L a≠ []->(L a).length<=90/\∀last,b[b.length-1]?=some last->1<=last.Chunk/\last.Chunk<=1000000000) (k:b.length+2<=Ju d.Flash):∃steps,Dh d b a=some (steps,true):=by
 have n:0<b.length:=Gg.2 h;obtain⟨last,c⟩:∃last,b[b.length-1]?=some last:=⟨_,Ab (by omega)⟩;unfold Dh;rw [show(ln b==0)=false by rw [Dz,BW];omega];simp only [Ac];have first:∃ss0 g0,(bif(!(seq a (bs [])))then(((gi b (sb (ln b) 1)).bind λx1=>(Gr d.Flash [] (Page.mk 1 d.Seq x1.Chunk 0 1 a)).bind λv1=>some (v1.2.1,v1.2.2,v1.1.Blocks):Option (List BY×Bool×List Block)).bind λj2=>some (j2.1,(ad d.Seq 1),j2.2.1,j2.2.2))else(some ([],d.Seq,true,d.Flash.Blocks)):Option (List BY×Int×Bool×List Block))=some (ss0,Fo d a,true,Flash.Blocks g0)/\FV d.Flash ss0 (C9 d last.Chunk a) g0/\BL g0/\ss0.length<=1/\Ju d.Flash<=Ju g0+1:=by
  by_cases ht:L a=[]
  ·have:seq a (bs [])=true:=by rw [ID,A7];exact Ij (by rw [ht,DP])
   rw [this];refine⟨[],d.Flash,?_,?_,hf,by simp,by omega⟩
   ·unfold Fo;rw [Au ht];rfl
   unfold C9;rw [Au ht];rfl
  have:seq a (bs [])=false:=by
   rw [ID,AX];intro e;exact ht (by rw [e,DP])
  obtain⟨hl,hc⟩:=j ht;have hc:=hc last c;rw [this];simp only [AH,Af];rw [BW,C5 (by omega) (by omega),show(b.length:Int)-1=((b.length-1:Nat):Int) by omega,AB,c];simp only [Aa];rw [Cx (by omega) (by omega)];have e1:Fo d a=d.Seq+1:=by unfold Fo;rw [Ax ht]
  have e2:C9 d last.Chunk a=[Page.mk 1 d.Seq last.Chunk 0 1 a]:=by unfold C9;rw [Ax ht]
  rw [e1,e2];obtain⟨s,g',q1,q2,q3,q4⟩:=eM (f:=d.Flash) (ss:=[]) (ps:=[]) hf rfl (by simp) (p:=Page.mk 1 d.Seq last.Chunk 0 1 a) (by unfold GS;simp;omega) (by omega);rw [q1];exact⟨_,g',rfl,q2,q3,by simp,by omega⟩
 obtain⟨ss0,g0,e0,h0,h1,h2,h3⟩:=first
 rw [e0];simp only [Aa];have l:1<=Fo d a/\Fo d a<=999999901:=by unfold Fo;split<;>omega
 obtain⟨T,t1,t2,t3,tl,t4⟩:=ZF (Fo d a) d.Tx b (by omega) i
 rcases t4 with⟨t4,t5,t6,t7,t8,t9⟩|⟨t4,t5⟩
 ·rw [t4];simp only [Aa];have o:(Cd (Fo d a) d.Tx T).length=T.length:=by unfold Cd;rw [DL]
  obtain⟨ss,q1⟩:=nY (Cd (Fo d a) d.Tx T) (by omega) (i7 t6 t7 t8 t9 t5 t3) h0 h1 h2 (by omega);rw [q1];exact⟨ss,rfl⟩
 exact absurd ⟨by omega,l.1,by omega,g.1,g.2⟩ t5
end Go.TI
