/- What sectors of a drawn device tell. No condition. -/
import Derived.Test.YtiemmklnnjembaaGreatROP1
namespace Go.TI
open Go
theorem kS (u:ByteArray) (hu:(L u).length<=20000) (a:Nat) (ha:a<=(L u).length):∃n c,DW (E7.mk u (a:Int) false)=some (n,c)/\c.text_=u/\(c.bad_=true\/c.bad_=false/\∃b:Nat,c.at_=b/\a<b/\b<=(L u).length)/\(c.bad_=true->c.at_=a):=by
 obtain⟨r,h1,_,h2⟩:=Kj u (a:Int) (by omega) ⟨by omega,by omega⟩;rw [IT u _ hu h1]
 rcases h2 with⟨e1,e2,e3⟩|⟨e1,a',b,n,k1,k2,k3,k4,k5,_⟩
 ·rw [e1];exact⟨_,_,rfl,rfl,.inl rfl,fun _=>rfl⟩
 ·rw [e1];refine⟨_,_,rfl,rfl,.inr ⟨rfl,b,k2,by omega,k5⟩,fun hh=>by cases hh⟩
theorem qJ (t:ByteArray) (ht:(L t).length<=20000):∀(n a:Nat) (out:List Dk),(L t).length-a<=n->a<=(L t).length->out.length<=a->∃r,A0 (fun s:List Dk×ByteArray×Int×Bool=>DF t s.1 s.2.1 s.2.2.1 s.2.2.2) (out,t,(a:Int),false)=some r/\(r= .inr ([],false)\/∃l:List Dk,r= .inl l/\l.length<=(L t).length)
 |n,a,out,hn,ha,ho=>by
  rw [AG];simp only [DF];rw [BJ];by_cases b:a<(L t).length
  ·rw [Ad (by omega:(a:Int)<((L t).length:Int))];simp only [Ag,Aa,Bk];rw [Fv t b,ad1 (by omega)];simp only [Aa];obtain⟨n1,c1,v1,t1,h1,z1⟩:=kS t ht (a+1) (by omega);rw [v1];simp only [Aa]
   rcases h1 with e1|⟨e1,b1,k1,k2,k3⟩
   ·
    have hz:=z1 e1;obtain⟨c1t,c1a,c1b⟩:=c1;simp only at t1 e1 hz;subst t1 e1 hz;rw [GI _ _ ht ⟨by omega,by omega⟩];exact⟨_,rfl,.inl rfl⟩
   ·obtain⟨c1t,c1a,c1b⟩:=c1;simp only at t1 e1 k1;subst t1 e1 k1;obtain⟨n2,c2,v2,t2,h2,z2⟩:=kS c1t ht b1 k3;rw [v2];simp only [Aa]
    rcases h2 with e2|⟨e2,b2,m1,m2,m3⟩
    ·rw [e2];exact⟨_,rfl,.inl rfl⟩
    ·rw [e2];simp only [Ae];rw [P9];simp only [Aa]
     cases HV _ with
     |false=>exact⟨_,rfl,.inl rfl⟩
     |true=>
      simp only [As,Ae];rw [CO (by simp;omega),t2,m1];simp only [Aa]
      match n,hn with
      |n+1,hn=>exact qJ c1t ht n b2 _ (by omega) m3 (by simp;omega)
      |0,hn=>omega
  ·rw [Af (by omega)];exact⟨_,rfl,.inr ⟨_,rfl,by omega⟩⟩
noncomputable def YR (t:ByteArray):Option (List Dk):=match I4 t with
 |some (l,true)=>some l
 |_=>none
theorem pH (t:ByteArray) (ht:(L t).length<=20000):∃l ok,I4 t=some (l,ok)/\YR t=(if ok=true then some l else none)/\l.length<=20000:=by
 obtain⟨r,h1,h2⟩:=qJ t ht (L t).length 0 [] (by omega) (by omega) (by simp);unfold YR I4;have h1':A0 (fun s:List Dk×ByteArray×Int×Bool=>DF t s.1 s.2.1 s.2.2.1 s.2.2.2) ([],t,0,false)=some r:=h1;rw [h1']
 rcases h2 with rfl|⟨l,rfl,h3⟩
 ·exact⟨[],false,rfl,rfl,by simp⟩
 ·exact⟨l,true,rfl,rfl,by omega⟩
def uE (t part cnt:Int) (y:Ar):Bool:=y.Page.Kind==2&&(y.Page.Tx==t&&(y.Page.Part==part&&(!decide (part>0)||y.Page.Count==cnt)))
def S4 (r:List Ar) (t part cnt:Int):Option Ar:=r.find? (uE t part cnt)
theorem rD {α:Type} (l:List α) (p:α->Bool) {i:Nat} (h:∀j x,j<i->l[j]?=some x->p x=false) {x:α} (hx:l[i]?=some x) (hp:p x=true):l.find? p=some x:=by
 obtain⟨h1,h2⟩:=I6 hx;rw [h1,List.find?_append];have:(l.take i).find? p=none:=by
  rw [EO];intro y hy;obtain⟨j,hj,rfl⟩:=AK hy;rw [AI]at hj;rw [IZ];rw [h j _ (by omega) (Ac _)];simp
 rw [this,Option.none_or,List.find?_cons_of_pos hp]
theorem AAu {α:Type} (l:List α) (p:α->Bool) (h:∀(j:Nat) x,l[j]?=some x->p x=false):l.find? p=none:=by
 rw [EO];intro y hy;obtain⟨j,hj,rfl⟩:=AK hy;rw [h j _ (Ac hj)];simp
structure I8 (r:List Ar):Prop where
 len:r.length<=1048576
 text:∀y∈r,(L y.Page.Text).length<=90
 seq:∀y∈r,1<=y.Page.Seq/\y.Page.Seq<=1000000000
 tx:∀y∈r,1<=y.Page.Tx/\y.Page.Tx<=1000000000
 cnt:∀y∈r,1<=y.Page.Count/\y.Page.Count<=9
 part:∀y∈r,0<=y.Page.Part/\y.Page.Part<y.Page.Count
def QC (part seq:Int) (y:Ar):Int:=if part=0\/y.Page.Seq<seq then y.Page.Seq else seq
theorem wN (r:List Ar) (hr:I8 r) (t part cnt:Int) (hp:0<=part) (text:ByteArray) (ht:(L text).length<=10000) (seq:Int):
  ∃text2,A0 (fun s:Int×ByteArray×Bool×Int×Int=>Hv r t part s.1 s.2.1 s.2.2.1 s.2.2.2.1 s.2.2.2.2) (cnt,text,false,0,seq)=some (match S4 r t part cnt with
   |none=>(cnt,text,false,seq)
   |some y=>(y.Page.Count,text2,true,QC part seq y))/\(∀y,S4 r t part cnt=some y->L text2=L text++L y.Page.Text):=by
 have f:=hr.len;obtain⟨b,h1,h2⟩:=Bw (body:=fun s:Int×ByteArray×Bool×Int×Int=>Hv r t part s.1 s.2.1 s.2.2.1 s.2.2.2.1 s.2.2.2.2) (fun(s:Int×ByteArray×Bool×Int) i=>(s.1,s.2.1,s.2.2.1,i,s.2.2.2)) r.length
  (fun i s=>(s=(cnt,text,false,seq)/\∀(j:Nat) x,j<i->r[j]?=some x->uE t part cnt x=false)\/∃y u,S4 r t part cnt=some y/\L u=L text++L y.Page.Text/\s=(y.Page.Count,u,true,QC part seq y))
  (fun b=>(b=(cnt,text,false,seq)/\S4 r t part cnt=none)\/∃y u,S4 r t part cnt=some y/\L u=L text++L y.Page.Text/\b=(y.Page.Count,u,true,QC part seq y))
  (fun s i hi hs=>by
   have hx:=Ac hi;have hm:r[i]∈r:=AP hi;simp only [Hv,Bb,Ad hi,Ag,Aa]
   rcases hs with⟨rfl,hs⟩|⟨y,u,f1,f2,rfl⟩
   ·simp only [Bk,Ag,AN,hx,Aa];have c:(bif(r[i].Page.Kind !=2)then(some true)else(bif(r[i].Page.Tx !=t)then(some true)else(bif(r[i].Page.Part !=part)then(some true)else(bif(decide (part>0))then(some (r[i].Page.Count !=cnt))else(some false)))):Option Bool)=some (!uE t part cnt r[i]):=by
     unfold uE;simp only [bne];cases r[i].Page.Kind==2<;>cases r[i].Page.Tx==t<;>cases r[i].Page.Part==part<;>cases decide (part>0)<;>cases r[i].Page.Count==cnt<;>rfl
    rw [c];simp only [Aa];rw [ad1 (by omega)]
    cases hM:uE t part cnt r[i]with
    |false=>
     refine .inl ⟨_,rfl,.inl ⟨rfl,fun j x hj a=>?_⟩⟩;by_cases e:j=i
     ·subst e;rw [hx]at a
      injection a with a
      rw [<-a];exact hM
     ·exact hs j x (by omega) a
    |true=>
     have g:=hr.text _ hm;simp only [As,Ae];rw [GN _ _ (by omega)];simp only [Aa];have hf:S4 r t part cnt=some r[i]:=rD r _ (fun j x hj a=>hs j x hj a) hx hM;have d:(bif(part==0)then(some true)else(some (decide (r[i].Page.Seq<seq))):Option Bool)=some (decide (part=0\/r[i].Page.Seq<seq)):=by
      by_cases e:part=0
      ·rw [show(part==0)=true by simpa using e,Ad (show part=0\/r[i].Page.Seq<seq from .inl e)];rfl
      ·rw [show(part==0)=false by simpa using e];simp only [Ae];by_cases e2:r[i].Page.Seq<seq
       ·rw [Ad e2,Ad (show part=0\/r[i].Page.Seq<seq from .inr e2)]
       ·rw [Af e2,Af (by rintro(h|h);exact e h;exact e2 h)]
     rw [d];simp only [Aa];refine .inl ⟨(r[i].Page.Count,text++r[i].Page.Text,true,QC part seq r[i]),?_,.inr ⟨r[i],_,hf,DA _ _,rfl⟩⟩;unfold QC;by_cases e:part=0\/r[i].Page.Seq<seq
     ·rw [Ad e,Az e];rfl
     ·rw [Af e,A5 e];rfl
   ·simp only [As,Ae]
    exact .inr ⟨_,rfl,.inr ⟨y,u,f1,f2,rfl⟩⟩)
  (fun s hs=>by
   refine⟨s,by simp only [Hv,Bb,A3,A8,Ae,Aa],?_⟩
   rcases hs with⟨rfl,hs⟩|hs
   ·exact .inl ⟨rfl,AAu r _ fun j x hx=>hs j x (Aj.1 hx).1 hx⟩
   ·exact .inr hs) (s:=(cnt,text,false,seq)) (.inl ⟨rfl,fun j x hj=>by omega⟩)
 have h1':A0 (fun s:Int×ByteArray×Bool×Int×Int=>Hv r t part s.1 s.2.1 s.2.2.1 s.2.2.2.1 s.2.2.2.2) (cnt,text,false,0,seq)=some b:=h1;rw [h1']
 rcases h2 with⟨rfl,h2⟩|⟨y,u,f1,f2,rfl⟩
 ·rw [h2];exact⟨text,rfl,fun y hy=>by cases hy⟩
 ·rw [f1];refine⟨u,rfl,fun z hz=>?_⟩
  injection hz with hz
  rw [<-hz];exact f2
def parts (r:List Ar) (t:Int):Nat->Int->Int->List UInt8->Int->Option (List UInt8×Int)
 |0,_,_,_,_=>none
 |n+1,part,cnt,text,seq=>if part=0\/part<cnt then(match S4 r t part cnt with
  |none=>none
  |some y=>parts r t n (part+1) y.Page.Count (text++L y.Page.Text) (QC part seq y))else some (text,seq)
theorem AAi {t part cnt:Int} {y:Ar} (h:uE t part cnt y=true) (hp:0<part):y.Page.Count=cnt:=by
 unfold uE at h;simp only [Aq,Db,Dq,AZ,CV]at h
 rcases h.2.2.2 with h|h
 ·omega
 ·exact h
theorem Wu {r:List Ar} {t part cnt:Int} {y:Ar} (h:S4 r t part cnt=some y):y∈r/\uE t part cnt y=true:=⟨K0 h,List.find?_some h⟩
theorem jK (r:List Ar) (hr:I8 r) (t:Int):∀(n:Nat) (part cnt:Int) (text:ByteArray) (seq:Int),part+n=11->0<=part->(part=0\/(part<=cnt/\cnt<=9))->(L text).length<=90*part.toNat->
  ∃b,A0 (fun s:Int×ByteArray×Int×Int=>LV r t s.1 s.2.1 s.2.2.1 s.2.2.2) (cnt,text,part,seq)=some b/\(match parts r t n part cnt (L text) seq with
   |none=>∃q,b= .inr (Tx.mk t q [],false)
   |some (x,q)=>∃u,b= .inl (u,q)/\L u=x/\(L u).length<=1000)
 |0,part,cnt,text,seq,hn,h0,hc,ht=>by omega
 |n+1,part,cnt,text,seq,hn,h0,hc,ht=>by
  rw [AG];simp only [LV,parts];have a:(bif(part==0)then(some true)else(some (decide (part<cnt))):Option Bool)=some (decide (part=0\/part<cnt)):=by
   by_cases e:part=0
   ·rw [show(part==0)=true by simpa using e,Ad (show part=0\/part<cnt from .inl e)];rfl
   ·rw [show(part==0)=false by simpa using e];simp only [Ae];by_cases e2:part<cnt
    ·rw [Ad e2,Ad (show part=0\/part<cnt from .inr e2)]
    ·rw [Af e2,Af (by rintro(h|h);exact e h;exact e2 h)]
  rw [a];simp only [Aa];by_cases e:part=0\/part<cnt
  ·rw [Ad e,Az e];simp only [Ag];obtain⟨text2,h1,h2⟩:=wN r hr t part cnt h0 text (by omega) seq;rw [h1]
   cases hf:S4 r t part cnt with
   |none=>
    simp only [Aa,Bk,Ag];exact⟨_,rfl,_,rfl⟩
   |some y=>
    simp only [Aa,As,Ae];have hy:=Wu hf;have hL:=h2 y hf;have c:=hr.text y hy.1;have d:=hr.cnt y hy.1;rw [C6 (by omega) (by omega),<-hL];refine jK r hr t n (part+1) y.Page.Count text2 _ (by omega) (by omega) (.inr ?_) ?_
    ·rcases e with e|e
     ·have:=hr.part y hy.1;omega
     ·by_cases e2:part=0
      ·omega
      ·have:=AAi hy.2 (by omega);omega
    ·rw [hL,Ai];omega
  ·rw [Af e,A5 e];simp only [Ae];exact⟨_,rfl,text,rfl,rfl,by omega⟩
noncomputable def Ih (r:List Ar) (t:Int):Option Tx:=match parts r t 11 0 0 [] 0 with
 |none=>none
 |some (x,q)=>(YR (bs x)).map fun l=>Tx.mk t q l
theorem ACP (u:ByteArray):bs (L u)=u:=If (by rw [Eh])
theorem YG (r:List Ar) (hr:I8 r) (t:Int):∃x ok,Ri r t=some (x,ok)/\Ih r t=(if ok=true then some x else none)/\x.Recs.length<=20000:=by
 obtain⟨b,h1,h2⟩:=jK r hr t 11 0 0 (bs []) 0 (by omega) (by omega) (.inl rfl) (by rw [Eh];simp);rw [Eh]at h2;unfold Ri Ih;rw [h1];simp only [Aa]
 cases hp:parts r t 11 0 0 [] 0 with
 |none=>
  rw [hp]at h2;obtain⟨z,rfl⟩:=h2;exact⟨_,_,rfl,rfl,by simp⟩
 |some w=>
  obtain⟨x,q⟩:=w;rw [hp]at h2;obtain⟨u,rfl,rfl,h4⟩:=h2;simp only [Cl];obtain⟨l,ok,r1,r2,r3⟩:=pH u (by omega);rw [r1,ACP,r2];simp only [Aa]
  cases ok with
  |true=>exact⟨_,_,rfl,rfl,r3⟩
  |false=>exact⟨_,_,rfl,rfl,r3⟩
end Go.TI
namespace Go.TI
open Go
theorem Ru {α:Type} {P:List α->Prop} (nil:P []) (app:∀l x,P l->P (l++ [x])) (l:List α):P l:=by
 rw [<-List.reverse_reverse l]
 induction l.reverse with
 |nil=>exact nil
 |cons x l ih=>rw [List.reverse_cons];exact app _ _ ih
def DK (r:List Ar):List Int:=r.foldl (fun ns y=>if y.Page.Kind=2 then wS ns y.Page.Tx else ns) []
theorem R0 (r:List Ar) (y:Ar):DK (r++ [y])=if y.Page.Kind=2 then wS (DK r) y.Page.Tx else DK r:=by unfold DK;rw [Hc];rfl
theorem HX (r:List Ar) (h:∀y∈r,1<=y.Page.Tx):asc (DK r)/\(∀x,x∈DK r↔∃y∈r,y.Page.Kind=2/\y.Page.Tx=x)/\(DK r).length<=r.length:=by
 have main:∀n,n<=r.length->asc (DK (r.take n))/\(∀x,x∈DK (r.take n)↔∃y∈r.take n,y.Page.Kind=2/\y.Page.Tx=x)/\(DK (r.take n)).length<=n:=by
  intro n
  induction n with
  |zero=>intro _;simp [DK,asc]
  |succ n ih=>
   intro hn;obtain⟨h1,h2,h3⟩:=ih (by omega);have et:r.take (n+1)=r.take n++ [r[n]'(by omega)]:=A4 (by omega);have hy:=h _ (AP (show n<r.length by omega));generalize r[n]'(by omega)=y at et hy;rw [et,R0]
   have a:∀z∈DK (r.take n),0<z:=fun z hz=>by
    obtain⟨w,hw,_,h5⟩:=(h2 z).1 hz;have:=h w (List.mem_of_mem_take hw);omega
   by_cases e:y.Page.Kind=2
   ·rw [Az e];refine⟨rB h1,fun x=>?_,by have:=Wj (DK (r.take n)) y.Page.Tx h1;omega⟩;rw [rA a,h2 x];simp only [Al,AA];constructor
    ·rintro(⟨w,hw,hk,ht⟩|⟨rfl,h0⟩)
     ·exact⟨w,.inl hw,hk,ht⟩
     ·exact⟨y,.inr rfl,e,rfl⟩
    ·rintro⟨w,hw|rfl,hk,ht⟩
     ·exact .inl ⟨w,hw,hk,ht⟩
     ·exact .inr ⟨ht.symm,by omega⟩
   ·rw [A5 e];refine⟨h1,fun x=>?_,by omega⟩;rw [h2 x];simp only [Al,AA];constructor
    ·rintro⟨w,hw,hk,ht⟩;exact⟨w,.inl hw,hk,ht⟩
    ·rintro⟨w,hw|rfl,hk,ht⟩
     ·exact⟨w,hw,hk,ht⟩
     ·exact absurd hk e
 have:=main r.length (AB _);rw [Bg]at this;exact this
theorem XH (r:List Ar) (hr:I8 r):A0 (fun s:List Int×Int=>H1 r s.1 s.2) ([],0)=some (DK r):=by
 have d:=hr.len;obtain⟨b,h1,h2⟩:=Bw (body:=fun s:List Int×Int=>H1 r s.1 s.2) (fun(o:List Int) i=>(o,i)) r.length (fun i o=>o=DK (r.take i)) (fun b=>b=DK r)
  (fun o i hi ho=>by
   have hx:=Ac hi;have hm:r[i]∈r:=AP hi;have f:=(hr.tx _ hm).1;have a:=HX (r.take i) (fun y hy=>(hr.tx y (List.mem_of_mem_take hy)).1);have g:o.length<=1048576:=by rw [ho];have:=a.2.2;rw [AI]at this;omega
   have et:r.take (i+1)=r.take i++ [r[i]]:=A4 hi;simp only [H1,Bb,Ad hi,Ag,AN,hx,Aa];rw [ad1 (by omega)];refine .inl ?_;by_cases e:r[i].Page.Kind=2
   ·rw [show(r[i].Page.Kind !=2)=false by simp [e]];simp only [Ae]
    rw [PO (body:=fun s:List Int×Int=>IQ o r[i] s.1 s.2) o (fun y=>decide (y<r[i].Page.Tx)) [] (by simp;omega)
     (fun u k x hk hu=>by
      have c:=(Aj.1 hk).1
      simp only [IQ,Bb,Ad c,Ag,AN,hk,Aa])
     (fun u=>by simp only [IQ,Bb,A3,A8,Ae])]
    simp only [Aa,A6];have h:=CI (fun y=>decide (y<r[i].Page.Tx)) o;rw [CO (by simp only [Ao];omega)];simp only [Aa]
    rw [PO (body:=fun s:List Int×Int=>IP o r[i] s.1 s.2) o (fun y=>decide (y>r[i].Page.Tx)) _ (by simp only [Ai,Ao];omega)
     (fun u k x hk hu=>by
      have c:=(Aj.1 hk).1
      simp only [IP,Bb,Ad c,Ag,AN,hk,Aa])
     (fun u=>by simp only [IP,Bb,A3,A8,Ae])]
    simp only [Aa];refine⟨_,rfl,?_⟩;rw [et,R0,Az e,<-ho];unfold wS;rw [Az (by omega)]
   ·rw [show(r[i].Page.Kind !=2)=true by simpa using e]
    exact⟨o,rfl,by rw [et,R0,A5 e,ho]⟩)
  (fun o ho=>⟨o,by simp only [H1,Bb,A3,A8,Ae],by rw [ho,Bg]⟩) (s:=[]) rfl
 rw [h2]at h1;exact h1
noncomputable def B4 (r:List Ar):List Tx:=(DK r).filterMap (Ih r)
theorem P5 {r:List Ar} (hr:I8 r) {t:Int} {x:Tx} (h:Ih r t=some x):x.Num=t/\x.Recs.length<=20000:=by
 obtain⟨z,ok,h1,h2,h3⟩:=YG r hr t;rw [h]at h2
 cases ok with
 |false=>cases h2
 |true=>
  rw [Az rfl]at h2
  injection h2 with h2
  subst h2;refine⟨?_,h3⟩;unfold Ih at h;split at h
  ·cases h
  ·obtain⟨l,_,rfl⟩:=AU.1 h;rfl
theorem SZ (r:List Ar) (hr:I8 r):Nn r=some (B4 r):=by
 have c:=hr.len;have a:=HX r (fun y hy=>(hr.tx y hy).1);have d:=a.2.2;unfold Nn;rw [XH r hr];simp only [Aa];obtain⟨b,h1,h2⟩:=Bw (body:=fun s:List Tx×Int=>H0 r (DK r) s.1 s.2) (fun(o:List Tx) i=>(o,i)) (DK r).length (fun i o=>o=((DK r).take i).filterMap (Ih r)) (fun b=>b=B4 r)
  (fun o i hi ho=>by
   have hx:=Ac hi;have et:(DK r).take (i+1)=(DK r).take i++ [(DK r)[i]]:=A4 hi;have e:o.length<=i:=by
    rw [ho];have:=List.length_filterMap_le (Ih r) ((DK r).take i);rw [AI]at this;omega
   simp only [H0,Bb,Ad hi,Ag,AN,hx,Aa];rw [ad1 (by omega)];obtain⟨z,ok,k1,k2,k3⟩:=YG r hr (DK r)[i];rw [k1];simp only [Aa];refine .inl ?_
   cases ok with
   |true=>
    simp only [Ag];rw [CO (by simp only [Ao];omega)];refine⟨_,rfl,?_⟩;rw [et,List.filterMap_append,ho];simp only [List.filterMap_cons,List.filterMap_nil,k2,Cg]
   |false=>
    refine⟨o,rfl,?_⟩;rw [et,List.filterMap_append,ho]
    simp [k2])
  (fun o ho=>⟨o,by simp only [H0,Bb,A3,A8,Ae],by rw [ho,Bg];rfl⟩) (s:=[]) rfl
 have h1':A0 (fun s:List Tx×Int=>H0 r (DK r) s.1 s.2) ([],0)=some b:=h1;rw [h1',h2];rfl
def jN (x:Tx):Bool:=match x.Recs with
 |[]=>false
 |r::_=>r.Kind==1
def uF (l:List Tx):Nat:=l.zipIdx.foldl (fun a z=>if jN z.1=true then z.2 else a) 0
def DQ (l:List Tx):List Tx:=l.drop (uF l)
theorem RS (l:List Tx) (x:Tx):uF (l++ [x])=if jN x=true then l.length else uF l:=by
 unfold uF;rw [List.zipIdx_append,Hc];simp
theorem yG (l:List Tx):uF l<=l.length:=by
 induction l using Ru with
 |nil=>simp [uF]
 |app l x ih=>
  rw [RS,Ai];split<;>simp<;>omega
theorem P7 (l:List Tx) (x:Tx):DQ (l++ [x])=if jN x=true then [x]else DQ l++ [x]:=by
 unfold DQ;rw [RS];by_cases e:jN x=true
 ·rw [Az e,Az e,EA rfl]
 ·rw [A5 e,A5 e,List.drop_append_of_le_length (yG l)]
theorem f0 (l:List Tx):∃A,l=A++DQ l/\(A≠ []->∃x B,DQ l=x::B/\jN x=true)/\∀x B,DQ l=x::B->∀y∈B,jN y=false:=by
 induction l using Ru with
 |nil=>exact⟨[],rfl,fun h=>absurd rfl h,fun x B h=>by cases h⟩
 |app l x ih=>
  obtain⟨A,h1,h2,h3⟩:=ih;rw [P7];by_cases e:jN x=true
  ·rw [Az e];exact⟨l,rfl,fun _=>⟨x,[],rfl,e⟩,fun y B h=>by injection h with _ h;subst h;intro z hz;cases hz⟩
  ·rw [A5 e];refine⟨A,by rw [<-Ap,<-h1],fun hA=>?_,fun y B h=>?_⟩
   ·obtain⟨y,B,h4,h5⟩:=h2 hA;exact⟨y,B++ [x],by rw [h4];rfl,h5⟩
   ·cases hs:DQ l with
    |nil=>
     rw [hs]at h
     injection h with _ h
     subst h;intro z hz;cases hz
    |cons w B'=>
     rw [hs]at h
     injection h with h4 h5
     subst h4 h5;intro z hz;have hz:z∈B'++ [x]:=hz;rw [Al,AA]at hz
     rcases hz with hz|rfl
     ·exact h3 w B' hs z hz
     ·simpa using e
theorem uY (A:List Tx):∀(B:List Tx),(A≠ []->∃x B',B=x::B'/\jN x=true)->(∀x B',B=x::B'->∀y∈B',jN y=false)->DQ (A++B)=B:=by
 intro B
 induction B using Ru with
 |nil=>
  intro h1 _
  cases A with
  |nil=>rfl
  |cons a A=>obtain⟨x,B',h,_⟩:=h1 (by simp);cases h
 |app B y ih=>
  intro h1 h2;rw [<-Ap,P7]
  cases B with
  |nil=>
   by_cases e:jN y=true
   ·rw [Az e];rfl
   ·rw [A5 e]
    cases A with
    |nil=>rfl
    |cons a A=>
     obtain⟨x,B',h,h3⟩:=h1 (by simp)
     injection h with h4 h5
     rw [h4]at e;exact absurd h3 e
  |cons b B=>
   have hy:jN y=false:=h2 b (B++ [y]) rfl y (by simp);rw [A5 (by rw [hy];simp),ih]
   ·intro hA;obtain⟨x,B',h,h3⟩:=h1 hA
    injection h with h4 h5
    exact⟨b,B,rfl,by rw [h4];exact h3⟩
   ·intro x B' h z hz
    injection h with h4 h5
    subst h4 h5;exact h2 b (B++ [y]) rfl z (by simp [hz])
theorem Vr (l:List Tx) (hl:l.length<=1048576) (hr:∀x∈l,x.Recs.length<=20000):K8 l=some (DQ l):=by
 unfold K8;obtain⟨b,h1,h2⟩:=Bw (body:=fun s:Int×Int=>EV l s.1 s.2) (fun(o:Int) i=>(o,i)) l.length (fun i o=>o=(uF (l.take i):Int)) (fun b=>b=(uF l:Int))
  (fun o i hi ho=>by
   have hx:=Ac hi;have et:l.take (i+1)=l.take i++ [l[i]]:=A4 hi;simp only [EV,Bb,Ad hi,Ag,AN,hx,Aa];rw [ad1 (by omega)];refine .inl ?_;have d:(l.take i).length=i:=by rw [AI];omega
   cases a:l[i].Recs with
   |nil=>
    refine⟨o,rfl,?_⟩;rw [et,RS,A5 (by unfold jN;rw [a];simp),ho]
   |cons q m=>
    have hg:gi (q::m) 0=some q:=AN (i:=0);rw [Ad (by rw [Cu,Ax];omega:ln (q::m)>0)];simp only [Ag,hg,Aa]
    cases hk:(q.Kind==1)with
    |true=>
     refine⟨(i:Int),rfl,?_⟩;rw [et,RS,Az (by unfold jN;rw [a];exact hk),d]
    |false=>
     refine⟨o,rfl,?_⟩
     rw [et,RS,A5 (by unfold jN;rw [a];simp only [];rw [hk];simp),ho])
  (fun o ho=>⟨o,by simp only [EV,Bb,A3,A8,Ae],by rw [ho,Bg]⟩) (s:=0) rfl
 have h1':A0 (fun s:Int×Int=>EV l s.1 s.2) (0,0)=some b:=h1;rw [h1',h2];simp only [Aa];have e:=yG l;obtain⟨c,q1,q2⟩:=R5 (body:=fun s:List Tx×Int=>Gj l s.1 s.2) (fun(o:List Tx) i=>(o,i)) l.length (fun i o=>o=(l.take i).drop (uF l)/\uF l<=i) (fun b=>b=DQ l)
  (fun o i hi hs=>by
   obtain⟨ho,f⟩:=hs;have hx:=Ac hi;have hm:l[i]∈l:=AP hi;have g:=hr _ hm;have et:l.take (i+1)=l.take i++ [l[i]]:=A4 hi;have h:o.length<=1048576:=by rw [ho,B6,AI];omega
   simp only [Gj,Bb,Ad hi,Ag,AN,hx,Aa];rw [Oz (by omega)];simp only [Aa];rw [CO (by simp only [Ao];omega)];simp only [Aa];rw [ad1 (by omega)];refine .inl ⟨_,rfl,?_,by omega⟩
   rw [et,List.drop_append_of_le_length (by rw [AI];omega),<-ho])
  (fun o hs=>⟨o,by simp only [Gj,Bb,A3,A8,Ae],by rw [hs.1,Bg];rfl⟩) (l.length-uF l) (uF l) [] (by omega) ⟨by rw [CA];rw [AI];omega,AB _⟩
 rw [q1,q2];rfl
def CE (l:Vs) (nx:Int) (recs:List Dk):Option (Vs×Int):=recs.foldl (fun o r=>o.bind fun p=>DR p.1 p.2 r) (some (l,nx))
theorem Pw (recs:List Dk):recs.foldl (fun(o:Option (Vs×Int)) r=>o.bind fun p=>DR p.1 p.2 r) none=none:=by
 induction recs with
 |nil=>rfl
 |cons r l ih=>rw [Lq];exact ih
theorem Fe (l:Vs) (nx:Int) (r:Dk) (recs:List Dk):CE l nx (r::recs)=(DR l nx r).bind fun p=>CE p.1 p.2 recs:=by
 unfold CE;rw [Lq];simp only [Aa]
 cases DR l nx r with
 |none=>exact Pw recs
 |some p=>rfl
theorem Kx (l:Vs) (nx:Int) (a b:List Dk):CE l nx (a++b)=(CE l nx a).bind fun p=>CE p.1 p.2 b:=by
 unfold CE;rw [Hc]
 cases a.foldl (fun(o:Option (Vs×Int)) r=>o.bind fun p=>DR p.1 p.2 r) (some (l,nx))with
 |none=>exact Pw b
 |some p=>rfl
def QE (s:Store) (recs:List Dk) (o:Option (Store×Bool)):Prop:=match CE (BW s) s.Next recs with
 |none=>o=some (s,false)
 |some (l,nx)=>∃t,o=some (t,true)/\DS t/\BW t=l/\t.Next=nx
theorem kH {s:Store} (h:DS s) (recs:List Dk) (hr:recs.length<=1048576):QE s recs (Mb s recs):=by
 have hl:=h.len;have d:=RQ h.ar (by have:=h.few;omega);have a:=Lv s d (by omega);unfold Mb;rw [a];simp only [Aa];obtain⟨b,h1,h2⟩:=Bw (body:=fun q:Int×List Vol×List BU×Int=>FR s recs q.1 q.2.1 q.2.2.1 q.2.2.2) (fun(t:Store) i=>(i,t.Vols,t.Arena.Knots,t.Next)) recs.length
  (fun i t=>DS t/\CE (BW s) s.Next (recs.take i)=some (BW t,t.Next))
  (fun b=>(b= .inr (s,false)/\CE (BW s) s.Next recs=none)\/∃t,b= .inl (t.Vols,t.Arena.Knots,t.Next)/\DS t/\CE (BW s) s.Next recs=some (BW t,t.Next))
  (fun t i hi hs=>by
   obtain⟨hP,he⟩:=hs;have hx:=Ac hi;obtain⟨e1,e2⟩:=I6 hx;have et:recs.take (i+1)=recs.take i++ [recs[i]]:=A4 hi;simp only [FR,Bb,Ad hi,Ag,AN,hx,Aa];have c:=xI hP recs[i];unfold Oi at c;have e:Store.mk t.Vols (Arena.mk t.Arena.Knots) t.Next=t:=rfl;rw [e]
   cases hv:DR (BW t) t.Next recs[i]with
   |none=>
    rw [hv]at c;rw [c];simp only [Aa,Bk,Ag];rw [a];refine .inr ⟨_,rfl,.inl ⟨rfl,?_⟩⟩;rw [e1,Kx,he];simp only [Aa];rw [Fe,hv];rfl
   |some p=>
    obtain⟨l,nx⟩:=p;rw [hv]at c;obtain⟨u,u1,u2,u3,u4⟩:=c;rw [u1];simp only [Aa,As,Ae];rw [ad1 (by omega)];refine .inl ⟨u,rfl,u2,?_⟩;rw [et,Kx,he];simp only [Aa];rw [Fe,hv];simp only [Aa];rw [u3,u4]
    rfl)
  (fun t hs=>⟨_,by simp only [FR,Bb,A3,A8,Ae],.inr ⟨t,rfl,hs.1,by rw [<-hs.2,Bg]⟩⟩) (s:=s) ⟨h,rfl⟩
 have h1':A0 (fun q:Int×List Vol×List BU×Int=>FR s recs q.1 q.2.1 q.2.2.1 q.2.2.2) (0,s.Vols,s.Arena.Knots,s.Next)=some b:=h1;rw [h1'];unfold QE
 rcases h2 with⟨rfl,h2⟩|⟨t,rfl,h2,h3⟩
 ·rw [h2];rfl
 ·rw [h3];exact⟨t,rfl,h2,rfl,rfl⟩
def ER (r:List Ar):Int:=r.foldl (fun m y=>if y.Page.Seq>=m then y.Page.Seq+1 else m) 1
def Gx (r:List Ar):Int:=r.foldl (fun m y=>if y.Page.Kind=2/\y.Page.Tx>=m then y.Page.Tx+1 else m) 1
def Ki (l:List Tx):Int:=match l with
 |[]=>0
 |x::_=>x.Num
def JW (l:List Tx):Vs×Int:=l.foldl (fun p x=>(CE p.1 p.2 x.Recs).getD p) ([],1)
theorem ZB (r:List Ar) (y:Ar):ER (r++ [y])=if y.Page.Seq>=ER r then y.Page.Seq+1 else ER r:=by unfold ER;rw [Hc];rfl
theorem Z5 (r:List Ar) (y:Ar):Gx (r++ [y])=if y.Page.Kind=2/\y.Page.Tx>=Gx r then y.Page.Tx+1 else Gx r:=by unfold Gx;rw [Hc];rfl
theorem Si (r:List Ar):(∀y∈r,y.Page.Seq<ER r)/\1<=ER r/\(∀b,1<=b->(∀y∈r,y.Page.Seq<b)->ER r<=b):=by
 induction r using Ru with
 |nil=>exact⟨fun y hy=>(by cases hy),by simp [ER],fun b hb _=>by simpa [ER]using hb⟩
 |app r x ih=>
  obtain⟨h1,h2,h3⟩:=ih;rw [ZB];refine⟨fun y hy=>?_,?_,fun b hb a=>?_⟩
  ·rw [Al,AA]at hy
   rcases hy with hy|rfl
   ·have:=h1 y hy;split<;>omega
   ·split<;>omega
  ·split<;>omega
  ·have:=h3 b hb (fun y hy=>a y (by simp [hy]));have:=a x (by simp);split<;>omega
theorem uI (r:List Ar):(∀y∈r,y.Page.Kind=2->y.Page.Tx<Gx r)/\1<=Gx r/\(∀b,1<=b->(∀y∈r,y.Page.Kind=2->y.Page.Tx<b)->Gx r<=b):=by
 induction r using Ru with
 |nil=>exact⟨fun y hy=>(by cases hy),by simp [Gx],fun b hb _=>by simpa [Gx]using hb⟩
 |app r x ih=>
  obtain⟨h1,h2,h3⟩:=ih;rw [Z5];refine⟨fun y hy hk=>?_,?_,fun b hb a=>?_⟩
  ·rw [Al,AA]at hy
   rcases hy with hy|rfl
   ·have:=h1 y hy hk;split<;>omega
   ·split
    ·omega
    ·rename_i h;have:¬y.Page.Tx>=Gx r:=fun hh=>h ⟨hk,hh⟩;omega
  ·split<;>omega
  ·have:=h3 b hb (fun y hy=>a y (by simp [hy]));split
   ·rename_i h;have:=a x (by simp) h.1;omega
   ·omega
end Go.TI
namespace Go.TI
open Go
theorem YW {f:Flash} {r:List Ar} (h:yM f r) (hf:Cf f):I8 r:=by
 have key:∀y∈r,(1<=y.Page.Seq/\y.Page.Seq<=1000000000)/\(1<=y.Page.Tx/\y.Page.Tx<=1000000000)/\(1<=y.Page.Count/\y.Page.Count<=9)/\(0<=y.Page.Part/\y.Page.Part<y.Page.Count):=by
  intro y hy;obtain⟨b,x,g1,g2,_,g3⟩:=h.page y hy;obtain⟨_,k1⟩:=E8 g1;obtain⟨_,k2⟩:=E8 g2;have hx:=hf.text b (AM k1) x (AM k2);obtain⟨p,ok,m1,_,_,m2⟩:=IV x.Text (by omega);rw [g3]at m1
  injection m1 with m1
  injection m1 with m1 m3
  have hp:=m2 m3.symm;obtain⟨v,q1,_,q2⟩:=SF p;rw [hp]at q1
  injection q1 with q1
  obtain⟨_,a1,a2,a3,a4,_⟩:=q2 q1.symm;rw [m1];exact⟨a1,a2,a3,a4⟩
 exact⟨h.len,h.text,fun y hy=>(key y hy).1,fun y hy=>(key y hy).2.1,fun y hy=>(key y hy).2.2.1,fun y hy=>(key y hy).2.2.2⟩
theorem bQ (r:List Ar) (hr:I8 r):A0 (fun s:Int×Int×Int=>FQ r s.1 s.2.1 s.2.2) (0,1,1)=some (ER r,Gx r):=by
 have c:=hr.len;obtain⟨b,h1,h2⟩:=Bw (body:=fun s:Int×Int×Int=>FQ r s.1 s.2.1 s.2.2) (fun(o:Int×Int) i=>(i,o.1,o.2)) r.length (fun i o=>o=(ER (r.take i),Gx (r.take i))) (fun b=>b=(ER r,Gx r))
  (fun o i hi ho=>by
   subst ho;have hx:=Ac hi;have hm:r[i]∈r:=AP hi;have hs:=hr.seq _ hm;have ht:=hr.tx _ hm;have et:r.take (i+1)=r.take i++ [r[i]]:=A4 hi;simp only [FQ,Bb,Ad hi,Ag,AN,hx,Aa];rw [et,ZB,Z5,ad1 (by omega)];have a:(bif(decide (r[i].Page.Seq>=ER (r.take i)))then(some (ad r[i].Page.Seq 1))else(some (ER (r.take i))):Option Int)=some (if r[i].Page.Seq>=ER (r.take i)then r[i].Page.Seq+1 else ER (r.take i)):=by
    by_cases e:r[i].Page.Seq>=ER (r.take i)
    ·rw [Ad e,Az e,C6 (by omega) (by omega)];rfl
    ·rw [Af e,A5 e];rfl
   rw [a];simp only [Aa];refine .inl ?_;by_cases e:r[i].Page.Kind=2
   ·rw [show(r[i].Page.Kind==2)=true by simpa using e];simp only [Ag,Aa];by_cases e2:r[i].Page.Tx>=Gx (r.take i)
    ·rw [Ad e2,Az (show r[i].Page.Kind=2/\r[i].Page.Tx>=Gx (r.take i)from⟨e,e2⟩),C6 (by omega) (by omega)];exact⟨(_,_),rfl,rfl⟩
    ·rw [Af e2,A5 (show¬(r[i].Page.Kind=2/\r[i].Page.Tx>=Gx (r.take i))from fun hh=>e2 hh.2)];exact⟨(_,_),rfl,rfl⟩
   ·rw [show(r[i].Page.Kind==2)=false by simpa using e,A5 (show¬(r[i].Page.Kind=2/\r[i].Page.Tx>=Gx (r.take i))from fun hh=>e hh.1)]
    exact⟨(_,_),rfl,rfl⟩)
  (fun o ho=>⟨o,by simp only [FQ,Bb,A3,A8,Ae],by rw [ho,Bg]⟩) (s:=(1,1)) rfl
 rw [h2]at h1;exact h1
theorem rV:DS (Store.mk [] (Arena.mk []) 1):=by
 refine⟨⟨by simp,rfl,by simp,by simp,by simp,by simp [Ce],by simp [Ce],by simp⟩,by simp⟩
theorem Wa (l:List Tx) (x:Tx):JW (l++ [x])=(CE (JW l).1 (JW l).2 x.Recs).getD (JW l):=by unfold JW;rw [Hc];rfl
theorem VH (l:List Tx) (hl:l.length<=1048576) (hr:∀x∈l,x.Recs.length<=20000):∃t,A0 (fun s:Int×List Vol×List BU×Int×Int=>FP l s.1 s.2.1 s.2.2.1 s.2.2.2.1 s.2.2.2.2) (0,[],[],1,0)=some (t.Vols,t.Arena.Knots,t.Next,Ki l)/\DS t/\(BW t,t.Next)=JW l:=by
 obtain⟨b,h1,t,h2,h3,h4⟩:=Bw (body:=fun s:Int×List Vol×List BU×Int×Int=>FP l s.1 s.2.1 s.2.2.1 s.2.2.2.1 s.2.2.2.2) (fun(o:Store×Int) i=>(i,o.1.Vols,o.1.Arena.Knots,o.1.Next,o.2)) l.length
  (fun i o=>DS o.1/\(BW o.1,o.1.Next)=JW (l.take i)/\o.2=Ki (l.take i)) (fun b=>∃t,b=(t.Vols,t.Arena.Knots,t.Next,Ki l)/\DS t/\(BW t,t.Next)=JW l)
  (fun o i hi hs=>by
   obtain⟨t,bs0⟩:=o;obtain⟨hP,hv,hb⟩:=hs;simp only at hP hv hb;have hx:=Ac hi;have hm:l[i]∈l:=AP hi;have j:=hr _ hm;have et:l.take (i+1)=l.take i++ [l[i]]:=A4 hi;simp only [FP,Bb,Ad hi,Ag,AN,hx,Aa];have g:(bif((i:Int)==0)then(some l[i].Num)else(some bs0):Option Int)=some (Ki (l.take (i+1))):=by
    by_cases e:i=0
    ·subst e;rw [et];simp [Ki]
    ·rw [show((i:Int)==0)=false by simp;omega,hb,et];simp only [Ae]
     cases h5:l.take i with
     |nil=>
      have:=Dn List.length h5;rw [AI,Bm]at this;omega
     |cons a m=>rfl
   rw [g];simp only [Aa];have d:=kH hP l[i].Recs (by omega);unfold QE at d;have h:Store.mk t.Vols (Arena.mk t.Arena.Knots) t.Next=t:=rfl;have e1:BW t=(JW (l.take i)).1:=Dn Prod.fst hv;have e2:t.Next=(JW (l.take i)).2:=Dn Prod.snd hv;rw [h,ad1 (by omega)];refine .inl ?_;have f:=Wa (l.take i) l[i];rw [<-et]at f
   cases c:CE (BW t) t.Next l[i].Recs with
   |none=>
    rw [c]at d;rw [d];refine⟨(t,Ki (l.take (i+1))),rfl,hP,?_,rfl⟩;rw [f,<-e1,<-e2,c,Option.getD_none];exact hv
   |some p=>
    obtain⟨lv,nx⟩:=p;rw [c]at d;obtain⟨u,u1,u2,u3,u4⟩:=d;rw [u1];refine⟨(u,Ki (l.take (i+1))),rfl,u2,?_,rfl⟩;rw [f,<-e1,<-e2,c,Bx];show(BW u,u.Next)=(lv,nx)
    rw [u3,u4])
  (fun o hs=>⟨(o.1.Vols,o.1.Arena.Knots,o.1.Next,o.2),by simp only [FP,Bb,A3,A8,Ae],o.1,by rw [hs.2.2,Bg],hs.1,by rw [hs.2.1,Bg]⟩) (s:=(Store.mk [] (Arena.mk []) 1,0)) ⟨rV,rfl,rfl⟩
 exact⟨t,by rw [<-h2];exact h1,h3,h4⟩
structure Lb (d:AH) (r:List Ar):Prop where
 fl:Cf d.Flash
 scan:yM d.Flash r
 sr:SR (L0 0 d.Flash.Blocks) r
 st:DS d.Store
 ab:(BW d.Store,d.Store.Next)=JW (DQ (B4 r))
 seq:d.Seq=ER r
 tx:d.Tx=Gx r
 base:d.Base=Ki (DQ (B4 r))
theorem Lb.pages {d:AH} {r:List Ar} (h:Lb d r):I8 r:=YW h.scan h.fl
theorem Wr {r:List Ar} (hr:I8 r):(B4 r).length<=1048576/\∀x∈B4 r,x.Recs.length<=20000:=by
 have b:=hr.len;have a:=HX r (fun y hy=>(hr.tx y hy).1);have:=List.length_filterMap_le (Ih r) (DK r);refine⟨by unfold B4;omega,fun x hx=>?_⟩;obtain⟨t,_,ht⟩:=List.mem_filterMap.1 hx;exact(P5 hr ht).2
theorem YD (l:List Tx):(DQ l).length<=l.length/\∀x∈DQ l,x∈l:=⟨by unfold DQ;rw [B6];omega,fun x hx=>List.mem_of_mem_drop hx⟩
theorem Rq {f:Flash} (hf:Cf f):∃d r,E4 f=some (d,true)/\Lb d r/\d.Flash=f:=by
 obtain⟨r,hs,a⟩:=ABw hf;have hr:=YW hs hf;obtain⟨g1,g2⟩:=Wr hr;obtain⟨b1,b2⟩:=YD (B4 r);obtain⟨t,t1,t2,t3⟩:=VH (DQ (B4 r)) (by omega) (fun x hx=>g2 x (b2 x hx));refine⟨AH.mk f t (ER r) (Gx r) (Ki (DQ (B4 r))),r,?_,⟨hf,hs,a,t2,t3,rfl,rfl,rfl⟩,rfl⟩;unfold E4;rw [PV hf,hs.s,GL f hf.cap];unfold NQ;simp only [Aa,As,Ae];rw [bQ r hr,SZ r hr];simp only [Aa];rw [Vr _ g1 g2];simp only [Aa];rw [t1];rfl
theorem f9 (a b:List Int) (ha:a.length<=1048576):Im a b=some (decide (a=b)):=by
 unfold Im;by_cases hl:a.length=b.length
 ·rw [show(ln a !=ln b)=false by simp [ln,hl]];simp only [Ae]
  rw [rE (body:=fun s:Int=>EK a b s) a b (fun x y=>x==y) hl (by omega)
   (fun i x y hx hy=>by
    have hi:=(Aj.1 hx).1;simp only [EK,Bb,Ad hi,Ag,AN,hx,hy,Aa];rw [ad1 (by omega)]
    cases c:x==y<;>simp [bne,c])
   (by simp only [EK,Bb,A3,A8,Ae])]
  have:=pT (p:=fun x y:Int=>x==y) (a:=a) (b:=b) (fun x _ y _=>by simp) hl
  cases hz:(a.zip b).all (fun z=>z.1==z.2)with
  |true=>rw [Ad (this.1 hz)];rfl
  |false=>rw [Af (fun hh=>by rw [this.2 hh]at hz;cases hz)];rfl
 ·rw [show(ln a !=ln b)=true by simp [ln];omega,Af (fun hh=>hl (by rw [hh]))];rfl
theorem kX {a b:Store} (ha:DS a) (hb:DS b):K9 a b=some (decide (BW a=BW b/\a.Next=b.Next)):=by
 have d:=ha.len;have e:=hb.len;have f:=ha.few;have g:=hb.few;unfold K9;by_cases hl:a.Vols.length=b.Vols.length
 ·rw [show(ln a.Vols !=ln b.Vols)=false by simp [ln,hl]];simp only [Ae,Aa];by_cases hn:a.Next=b.Next
  ·rw [show(a.Next !=b.Next)=false by simp [hn]];simp only [Ae]
   rw [rE (body:=fun s:Int=>Gk a b s) a.Vols b.Vols (fun v w=>v.Id==w.Id&&decide (EN a.Arena.Knots v.Root=EN b.Arena.Knots w.Root)) hl (by omega)
    (fun i x y hx hy=>by
     have hi:=(Aj.1 hx).1;simp only [Gk,Bb,Ad hi,Ag,AN,hx,hy,Aa];rw [NV _ (by omega) ha.ar (ha.root _ (AR.2 ⟨x,AM hx,rfl⟩)),NV _ (by omega) hb.ar (hb.root _ (AR.2 ⟨y,AM hy,rfl⟩))];simp only [Aa];rw [f9 _ _ (by unfold EN;simp)];simp only [Aa];rw [ad1 (by omega)]
     cases c:x.Id==y.Id with
     |false=>simp [bne,c]
     |true=>
      simp only [bne,c,As,Ae,CS]
      cases decide (EN a.Arena.Knots x.Root=EN b.Arena.Knots y.Root)<;>rfl)
    (by simp only [Gk,Bb,A3,A8,Ae])]
   have key:(a.Vols.zip b.Vols).all (fun z=>z.1.Id==z.2.Id&&decide (EN a.Arena.Knots z.1.Root=EN b.Arena.Knots z.2.Root))=decide (BW a=BW b):=by
    unfold BW;generalize a.Vols=l at hl;generalize b.Vols=m at hl
    induction l generalizing m with
    |nil=>cases m with
     |nil=>simp
     |cons y m=>simp at hl
    |cons x l ih=>
     cases m with
     |nil=>simp at hl
     |cons y m=>
      rw [List.zip_cons_cons,En,ih m (by simpa using hl),FI];simp only [Aq,CV,AD,BT,OH,Bz]
   rw [key]
   cases hd:decide (BW a=BW b)with
   |true=>rw [Ad ⟨IY hd,hn⟩];rfl
   |false=>rw [Af (fun hh=>of_decide_eq_false hd hh.1)];rfl
  ·rw [show(a.Next !=b.Next)=true by simpa using hn,Af (fun hh=>hn hh.2)];rfl
 ·rw [show(ln a.Vols !=ln b.Vols)=true by simp [ln];omega,Af (fun hh=>hl (by have:=Dn List.length hh.1;rwa [NA,NA]at this))];rfl
theorem SP {d:AH} {r:List Ar} (h:Lb d r):L7 d=some d:=by
 have:=h.st.len;unfold L7;rw [GL _ h.fl.cap,Lv _ (RQ h.st.ar (by have:=h.st.few;omega)) (by omega)];rfl
theorem Lb.uniq {d d':AH} {r r':List Ar} (h:Lb d r) (h':Lb d' r') (e:d.Flash=d'.Flash):r=r':=by
 have h1:=h.sr;have h2:=h'.sr;rw [<-e]at h2;exact h1.uniq h2
theorem cE {d:AH} {r:List Ar} (h:Lb d r):Md d=some true:=by
 obtain⟨m,r',h1,h2,h3⟩:=Rq h.fl;obtain rfl:=h.uniq h2 h3.symm;unfold Md;rw [h1];simp only [Aa,Ag];have e:=h2.ab.trans h.ab.symm
 injection e with e1 e2
 rw [kX h2.st h.st,Ad ⟨e1,e2⟩];simp only [Aa,Ag];rw [h2.seq,h.seq,h2.tx,h.tx,h2.base,h.base];simp only [BEq.rfl,Ag];rw [SY h.st];rfl
end Go.TI
namespace Go.TI
open Go
theorem Wv {α β:Type} {l:List α} {f g:α->Option β} (h:∀x∈l,f x=g x):l.filterMap f=l.filterMap g:=by
 induction l with
 |nil=>rfl
 |cons a l ih=>rw [List.filterMap_cons,List.filterMap_cons,h a (by simp),ih (fun x hx=>h x (by simp [hx]))]
theorem oX {α:Type} {l:List α} {p q:α->Bool} (h:∀x∈l,p x=q x):l.find? p=l.find? q:=by
 induction l with
 |nil=>rfl
 |cons a l ih=>rw [List.find?_cons,List.find?_cons,h a (by simp),ih (fun x hx=>h x (by simp [hx]))]
theorem Tf {r r':List Ar} {t:Int} (h:∀part cnt,S4 r' t part cnt=S4 r t part cnt):∀(n:Nat) (part cnt:Int) (x:List UInt8) (q:Int),parts r' t n part cnt x q=parts r t n part cnt x q
 |0,_,_,_,_=>rfl
 |n+1,part,cnt,x,q=>by
  simp only [parts,h];split
  ·split
   ·rfl
   ·exact Tf h n _ _ _ _
  ·rfl
theorem Qp {r r':List Ar} {t:Int} (h:∀part cnt,S4 r' t part cnt=S4 r t part cnt):Ih r' t=Ih r t:=by
 unfold Ih;rw [Tf h]
theorem S3 {t part cnt:Int} {y:Ar} (h:uE t part cnt y=true):y.Page.Kind=2/\y.Page.Tx=t/\y.Page.Part=part:=by
 unfold uE at h;simp only [Aq,CV]at h;exact⟨h.1,h.2.1,h.2.2.1⟩
theorem eP (r m:List Ar) (t part cnt:Int):S4 (r++m) t part cnt=(S4 r t part cnt).or (S4 m t part cnt):=by unfold S4;rw [List.find?_append]
theorem RI {r:List Ar} {t part cnt:Int} (h:∀y∈r,y.Page.Kind=2->y.Page.Tx≠t):S4 r t part cnt=none:=by
 unfold S4;rw [EO];intro y hy hm;obtain⟨h1,h2,_⟩:=S3 hm;exact h y hy h1 h2
theorem rO {r:List Ar} {t:Int} (h:∀y∈r,y.Page.Kind=2->y.Page.Tx≠t):Ih r t=none:=by
 unfold Ih;have:parts r t 11 0 0 [] 0=none:=by
  simp only [parts];rw [Az (.inl trivial),RI h]
 rw [this]
theorem sQ (r:List Ar) {y:Ar} (hy:y.Page.Kind≠2):DK (r++ [y])=DK r:=by rw [R0,A5 hy]
theorem Th (r:List Ar) {y:Ar} (hy:y.Page.Kind≠2):B4 (r++ [y])=B4 r:=by
 unfold B4;rw [sQ r hy];congr 1;funext t
 refine Qp fun part cnt=>?_
 rw [eP,RI (r:=[y]) (fun z hz hk=>by
  rw [AA]at hz;rw [hz]at hk
  exact absurd hk hy),Option.or_none]
structure Zy (m:List Ar) (t:Int) (n:Nat) (texts:List ByteArray):Prop where
 len:m.length<=n
 pos:1<=n/\n<=9
 tl:texts.length=n
 at_:∀(i:Nat) y,m[i]?=some y->y.Page.Kind=2/\y.Page.Tx=t/\y.Page.Part=i/\y.Page.Count=n/\texts[i]?=some y.Page.Text
theorem Zy.all {m:List Ar} {t:Int} {n:Nat} {texts:List ByteArray} (h:Zy m t n texts) {y:Ar} (hy:y∈m):y.Page.Kind=2/\y.Page.Tx=t:=by
 obtain⟨i,hi,rfl⟩:=AK hy;obtain⟨h1,h2,_⟩:=h.at_ i _ (Ac hi);exact⟨h1,h2⟩
theorem wB (r:List Ar) (hr:∀y∈r,1<=y.Page.Tx) {t:Int} (ht:∀y∈r,y.Page.Kind=2->y.Page.Tx<t) (h0:1<=t):∀(m:List Ar),m≠ []->(∀y∈m,y.Page.Kind=2/\y.Page.Tx=t)->DK (r++m)=DK r++ [t]:=by
 intro m hm a
 have h1:=HX (r++m) (fun y hy=>by
  rcases Al.1 hy with hy|hy
  ·exact hr y hy
  ·rw [(a y hy).2];exact h0)
 have h2:=HX r hr
 refine eZ h1.1 ?_ fun x=>?_
 ·unfold asc;rw [Bv];refine⟨h2.1,LJ _ _,fun x hx z hz=>?_⟩;rw [AA]at hz;obtain⟨y,hy,hk,rfl⟩:=(h2.2.1 x).1 hx;rw [hz];exact ht y hy hk
 ·rw [h1.2.1,Al,AA,h2.2.1];constructor
  ·rintro⟨y,hy,hk,rfl⟩
   rcases Al.1 hy with hy|hy
   ·exact .inl ⟨y,hy,hk,rfl⟩
   ·exact .inr (a y hy).2
  ·rintro(⟨y,hy,hk,rfl⟩|rfl)
   ·exact⟨y,Al.2 (.inl hy),hk,rfl⟩
   ·cases m with
    |nil=>exact absurd rfl hm
    |cons y m=>exact⟨y,by simp,(a y (by simp)).1,(a y (by simp)).2⟩
theorem AAt {m:List Ar} {t:Int} {n:Nat} {texts:List ByteArray} (h:Zy m t n texts) {part:Nat} {cnt:Int} (hc:part=0\/cnt=n):S4 m t part cnt=m[part]? :=by
 cases hy:m[part]? with
 |none=>
  unfold S4;rw [EO];intro y a hm;obtain⟨i,hi,rfl⟩:=AK a;obtain⟨_,_,h3,_⟩:=h.at_ i _ (Ac hi);have:=(S3 hm).2.2;rw [List.getElem?_eq_none_iff]at hy;omega
 |some y=>
  obtain⟨h1,h2,h3,h4,_⟩:=h.at_ part y hy;refine rD m _ (fun j x hj hx=>?_) hy ?_
  ·obtain⟨_,_,k3,_⟩:=h.at_ j x hx;rw [Bool.eq_false_iff];intro hm;have:=(S3 hm).2.2;omega
  ·unfold uE;rw [h1,h2,h3,h4];simp only [BEq.rfl,CS,Db,Dq,AZ,CV]
   rcases hc with hc|hc
   ·left;omega
   ·right;omega
def Nc (l:List ByteArray):List UInt8:=l.flatMap L
theorem YV {r m:List Ar} {t:Int} {n:Nat} {texts:List ByteArray} (hr:∀y∈r,y.Page.Kind=2->y.Page.Tx≠t) (h:Zy m t n texts):∀(k part:Nat) (cnt:Int) (x:List UInt8) (q:Int) (fuel:Nat),part+k=n->(part=0\/cnt=n)->k<fuel->
  (m.length=n->∃q',parts (r++m) t fuel part cnt x q=some (x++Nc (texts.drop part),q'))/\(m.length<n->part<=m.length->parts (r++m) t fuel part cnt x q=none)
 |k,part,cnt,x,q,0,hk,hc,hf=>by omega
 |0,part,cnt,x,q,fuel+1,hk,hc,hf=>by
  have hp:=h.pos;simp only [parts];rw [A5 (by omega)];refine⟨fun _=>⟨q,?_⟩,fun h1 h2=>by omega⟩;rw [CA (by have:=h.tl;omega)];simp [Nc]
 |k+1,part,cnt,x,q,fuel+1,hk,hc,hf=>by
  have hp:=h.pos;simp only [parts];rw [Az (by omega),eP,RI hr,Option.none_or,AAt h hc]
  cases hy:m[part]? with
  |none=>
   rw [List.getElem?_eq_none_iff]at hy;exact⟨fun h1=>by omega,fun _ _=>rfl⟩
  |some y=>
   obtain⟨h1,h2,h3,h4,h5⟩:=h.at_ part y hy;have a:=(Aj.1 hy).1;simp only [];obtain⟨k1,k2⟩:=YV hr h k (part+1) y.Page.Count (x++L y.Page.Text) (QC part q y) fuel (by omega) (.inr h4) (by omega);rw [show((part+1:Nat):Int)=(part:Int)+1 from rfl]at k1 k2;refine⟨fun h6=>?_,fun h6 h7=>k2 h6 (by omega)⟩;obtain⟨q',k3⟩:=k1 h6;refine⟨q',?_⟩;rw [k3]
   rw [show texts.drop part=y.Page.Text::texts.drop (part+1) by
    have h8:=(Aj.1 h5)
    rw [Bs h8.1,h8.2]]
   simp only [Nc,Hd,Ap]
theorem oS (r:List Ar) (hr:∀y∈r,1<=y.Page.Tx) {t:Int} (ht:∀y∈r,y.Page.Kind=2->y.Page.Tx<t) (h0:1<=t) {m:List Ar} {n:Nat} {texts:List ByteArray} (h:Zy m t n texts):
  (m.length<n->B4 (r++m)=B4 r)/\(m.length=n->∀recs,YR (bs (Nc texts))=some recs->∃q,B4 (r++m)=B4 r++ [Tx.mk t q recs]):=by
 have c:∀y∈r,y.Page.Kind=2->y.Page.Tx≠t:=fun y hy hk=>by have:=ht y hy hk;omega
 have old:∀x∈DK r,Ih (r++m) x=Ih r x:=by
  intro x hx;have:=HX r hr;obtain⟨y,hy,hk,rfl⟩:=(this.2.1 x).1 hx;have:=ht y hy hk
  refine Qp fun part cnt=>?_
  rw [eP,RI (r:=m) (fun z hz d=>by rw [(h.all hz).2];omega),Option.or_none]
 have oldG:(DK r).filterMap (Ih (r++m))=B4 r:=by
  unfold B4;exact Wv old
 by_cases hm:m=[]
 ·subst hm;have:=h.pos;refine⟨fun _=>by rw [Aw],fun h1=>by simp at h1;omega⟩
 ·have a:=wB r hr ht h0 m hm (fun y hy=>h.all hy);have hg:B4 (r++m)=B4 r++(match Ih (r++m) t with|some x=>[x]|none=>[]):=by
   have:B4 (r++m)=(DK (r++m)).filterMap (Ih (r++m)):=rfl;rw [this,a,List.filterMap_append,oldG];congr 1
   cases hx:Ih (r++m) t with
   |none=>simp [hx]
   |some x=>simp [hx]
  have hp:=h.pos;obtain⟨p1,p2⟩:=YV c h n 0 0 [] 0 11 (by omega) (.inl rfl) (by omega);refine⟨fun h1=>?_,fun h1 recs b=>?_⟩
  ·have:Ih (r++m) t=none:=by
    unfold Ih;have:=p2 h1 (by omega);rw [show((0:Nat):Int)=0 from rfl]at this;rw [this]
   rw [hg,this,Aw]
  ·obtain⟨q,p3⟩:=p1 h1;rw [show((0:Nat):Int)=0 from rfl]at p3;have:Ih (r++m) t=some (Tx.mk t q recs):=by
    unfold Ih;rw [p3];simp only [A6,List.drop_zero];rw [b];rfl
   exact⟨q,by rw [hg,this]⟩
structure lC (r:List Ar):Prop where
 uniq:∀y∈r,∀z∈r,y.Page.Kind=2->z.Page.Kind=2->y.Page.Tx=z.Page.Tx->y.Page.Part=z.Page.Part->y=z
theorem oW {r:List Ar} (h:lC r) (p:Ar->Bool) {t part cnt:Int} {y:Ar} (hf:S4 (r.filter p) t part cnt=some y):S4 r t part cnt=some y:=by
 obtain⟨h1,h2⟩:=Wu hf;have h3:=(AY.1 h1).1
 cases hz:S4 r t part cnt with
 |none=>
  unfold S4 at hz;rw [EO]at hz;exact absurd h2 (hz y h3)
 |some z=>
  obtain⟨k1,k2⟩:=Wu hz;obtain⟨a1,a2,a3⟩:=S3 h2;obtain⟨b1,b2,b3⟩:=S3 k2;rw [h.uniq z k1 y h3 b1 a1 (by rw [a2,b2]) (by rw [a3,b3])]
theorem Ry {r:List Ar} (h:lC r) (p:Ar->Bool) {t:Int}:∀(n:Nat) (part cnt:Int) (x:List UInt8) (q:Int) (w:List UInt8×Int),parts (r.filter p) t n part cnt x q=some w->parts r t n part cnt x q=some w
 |0,_,_,_,_,_,hw=>by cases hw
 |n+1,part,cnt,x,q,w,hw=>by
  simp only [parts]at hw⊢;split
  ·rename_i hc;rw [Az hc]at hw
   cases hf:S4 (r.filter p) t part cnt with
   |none=>rw [hf]at hw;cases hw
   |some y=>
    rw [hf]at hw;rw [oW h p hf];exact Ry h p n _ _ _ _ w hw
  ·rename_i hc;rw [A5 hc]at hw;exact hw
theorem fV {r:List Ar} (h:lC r) (p:Ar->Bool) {t:Int} {x:Tx} (hx:Ih (r.filter p) t=some x):Ih r t=some x:=by
 unfold Ih at hx⊢
 cases hp:parts (r.filter p) t 11 0 0 [] 0 with
 |none=>rw [hp]at hx;cases hx
 |some w=>
  rw [hp]at hx;rw [Ry h p _ _ _ _ _ w hp];exact hx
theorem oT (r:List Ar) (hr:I8 r):(B4 r).Pairwise fun x y=>x.Num<y.Num:=by
 have h1:=(HX r (fun y hy=>(hr.tx y hy).1)).1;unfold B4;rw [List.pairwise_filterMap];refine List.Pairwise.imp ?_ h1;intro a b c x hx y hy;rw [(P5 hr hx).1,(P5 hr hy).1];exact c
theorem RK {α β:Type} (l:List α) (f:α->Option β) (q:β->Bool):(l.filterMap f).filter q=l.filterMap (fun a=>(f a).filter q):=by
 induction l with
 |nil=>rfl
 |cons a l ih=>
  cases h:f a with
  |none=>simp [h,ih]
  |some b=>
   cases hq:q b with
   |true=>simp [h,hq,ih,Option.filter]
   |false=>simp [h,hq,ih,Option.filter]
theorem Z8 (r:List Ar) (hr:I8 r) (h:lC r) (p:Ar->Bool) (hp:∀y∈r,y.Page.Kind=2->Ki (DQ (B4 r))<=y.Page.Tx->p y=true):DQ (B4 (r.filter p))=DQ (B4 r):=by
 have hr':I8 (r.filter p):=⟨by have:=CI p r;have:=hr.len;omega,fun y hy=>hr.text y (AY.1 hy).1,fun y hy=>hr.seq y (AY.1 hy).1,fun y hy=>hr.tx y (AY.1 hy).1,fun y hy=>hr.cnt y (AY.1 hy).1,fun y hy=>hr.part y (AY.1 hy).1⟩;have s1:=HX r (fun y hy=>(hr.tx y hy).1);have s2:=HX (r.filter p) (fun y hy=>(hr'.tx y hy).1);have e1:B4 (r.filter p)=(DK r).filterMap (Ih (r.filter p)):=by
  have hn:DK (r.filter p)=(DK r).filter (fun t=>decide (t∈DK (r.filter p))):=by
   refine eZ s2.1 (List.Pairwise.filter _ s1.1) fun x=>?_
   rw [AY,AD];refine⟨fun hx=>⟨?_,hx⟩,fun hx=>hx.2⟩;obtain⟨y,hy,hk,rfl⟩:=(s2.2.1 x).1 hx;exact(s1.2.1 _).2 ⟨y,(AY.1 hy).1,hk,rfl⟩
  unfold B4
  conv=>lhs;rw [hn]
  rw [List.filterMap_filter]
  refine Wv fun t ht=>?_
  by_cases e:t∈DK (r.filter p)
  ·rw [Az (by simpa using e)]
  ·rw [A5 (by simpa using e)];symm
   refine rO fun y hy hk f=>e ((s2.2.1 t).2 ⟨y,hy,hk,f⟩)
 have keep:∀t,Ki (DQ (B4 r))<=t->Ih (r.filter p) t=Ih r t:=by
  intro t ht
  refine Qp fun part cnt=>?_
  unfold S4;rw [List.find?_filter]
  refine oX fun y hy=>?_
  cases hm:uE t part cnt y with
  |false=>simp
  |true=>
   obtain⟨a1,a2,_⟩:=S3 hm;rw [hp y hy a1 (by omega)];rfl
 have e2:B4 (r.filter p)=(B4 r).filter fun x=>(Ih (r.filter p) x.Num).isSome:=by
  rw [e1];unfold B4;rw [RK]
  refine Wv fun t ht=>?_
  cases hx:Ih (r.filter p) t with
  |some x=>
   have h1:=fV h p hx;rw [h1];have h2:=(P5 hr h1).1;simp only [Option.filter,h2,hx,Option.isSome_some,Cg]
  |none=>
   cases hy:Ih r t with
   |none=>rfl
   |some x=>
    have h2:=(P5 hr hy).1;simp only [Option.filter,h2,hx,L4,Cs,Jz]
 obtain⟨A,h1,h2,h3⟩:=f0 (B4 r);have a:=oT r hr;have hB:(DQ (B4 r)).filter (fun x=>(Ih (r.filter p) x.Num).isSome)=DQ (B4 r):=by
  rw [FY];intro x hx;have g:=(YD (B4 r)).2 x hx;obtain⟨t,_,ht⟩:=List.mem_filterMap.1 g;have hn:=(P5 hr ht).1;have i:Ki (DQ (B4 r))<=x.Num:=by
   rw [h1,Bv]at a
   cases hb:DQ (B4 r)with
   |nil=>rw [hb]at hx;cases hx
   |cons b B=>
    have c:=a.2.1;rw [hb,CD]at c;rw [hb,BL]at hx;simp only [Ki]
    rcases hx with rfl|hx
    ·exact Il _
    ·have:=c.1 x hx;omega
  rw [keep _ i,hn,ht];rfl
 rw [e2]
 conv=>lhs;rw [h1]
 rw [Bf,hB];refine uY _ _ (fun d=>h2 fun hA=>?_) h3;rw [hA]at d;exact d rfl
end Go.TI
namespace Go.TI
open Go
theorem S7:∀n:Nat,∃ds x,Cp n=ds++ [x]/\(∀d∈ds,128<=d.toNat)/\x.toNat<128/\EI (Cp n)=n
 |n=>by
  by_cases h:n<=127
  ·rw [Kd h];have:(UInt8.ofNat n).toNat=n:=by rw [Gu];omega
   exact⟨[],_,rfl,by simp,by omega,by simp only [EI];omega⟩
  ·obtain⟨ds,x,h1,h2,h3,h4⟩:=S7 (n/128);rw [RL h];have e:(UInt8.ofNat (n %128+128)).toNat=n %128+128:=by rw [Gu];omega
   refine⟨UInt8.ofNat (n %128+128)::ds,x,by rw [h1];rfl,?_,h3,?_⟩
   ·intro d hd
    rcases BL.1 hd with rfl|hd
    ·omega
    ·exact h2 d hd
   ·simp only [EI];rw [h4,e];omega
termination_by n=>n
decreasing_by omega
theorem HB {n:Nat} (h:n<=1000000000):1<=(Cp n).length/\(Cp n).length<=5:=by
 have key:∀(k n:Nat),n<128^(k+1)->(Cp n).length<=k+1:=by
  intro k
  induction k with
  |zero=>intro n hn;rw [Kd (by omega)];simp
  |succ k ih=>
   intro n hn;by_cases h:n<=127
   ·rw [Kd h];simp
   ·rw [RL h,Ax];have:=ih (n/128) (by rw [TW]at hn;omega);omega
 refine⟨?_,key 4 n (by omega)⟩;obtain⟨ds,x,h1,_⟩:=S7 n;rw [h1];simp
theorem kY (t:ByteArray) (ht:(L t).length<=20000) (a n:Nat) (hn:n<=1000000000) (rest:List UInt8) (h:(L t).drop a=Cp n++rest):HQ t (a:Int)=some ((n:Int),((a+(Cp n).length:Nat):Int),true):=by
 obtain⟨ds,x,hD,u,hx,hv⟩:=S7 n;obtain⟨h0,h1⟩:=HB hn;have z:(L t).length-a=(Cp n).length+rest.length:=by
  have:=Dn List.length h;rw [B6,Ai]at this;exact this
 have h2:(Cp n).length=ds.length+1:=by rw [hD];simp
 have f:∀k,k<=(Cp n).length->((L t).drop a).take k=(Cp n).take k:=fun k hk=>by rw [h,Ik hk]
 have key:∀(m k:Nat),k+m=ds.length->A0 (fun s:Int×Int×Int=>Df t (a:Int) s.1 s.2.1 s.2.2) (((EI ((Cp n).take k):Nat):Int),((128^k:Nat):Int),((a+k:Nat):Int))=some (.inr ((n:Int),((a+(Cp n).length:Nat):Int),true)):=by
  intro m
  induction m with
  |zero=>
   intro k hk;have g:k=ds.length:=by omega
   suffices d:Df t (a:Int) ((EI ((Cp n).take k):Nat):Int) ((128^k:Nat):Int) ((a+k:Nat):Int)=some (.inr (.inr ((n:Int),((a+(Cp n).length:Nat):Int),true))) by
    rw [AG];simp only [d]
   simp only [Df];have e:a+k<(L t).length:=by omega
   rw [C6 (b:=5) (by omega) (by omega),BJ,Ad (by omega:((a+k:Nat):Int)<(a:Int)+5),Ad (by omega:((a+k:Nat):Int)<((L t).length:Int))];simp only [Ag,Aa,Fv t e];have hb:(L t)[a+k]=x:=by
    have:((L t).drop a)[k]?=some x:=by
     rw [h,hD,AT (by simp;omega),g,AW (AB _),P2];rfl
    rw [BY,Ac e]at this;injection this
   rw [hb];have c:=M6 ds [x];rw [<-hD,hv]at c;have v:(Cp n).take k=ds:=by rw [hD,g,OG rfl]
   rw [v];simp only [EI,Nat.mul_zero,Fl]at c;have hp:=cT k (by omega);have hw:IntKind.i64.wrap (x.toNat:Int)=x.toNat:=Ng (by omega) (by omega);have l:x.toNat %128*128^k<=127*268435456:=Yx (by omega) hp;have emul:ml ((x.toNat %128:Nat):Int) ((128^k:Nat):Int)=((x.toNat %128*128^k:Nat):Int):=by
    have ec:((x.toNat %128:Nat):Int)*((128^k:Nat):Int)=((x.toNat %128*128^k:Nat):Int):=by norm_cast
    rw [Nq (by rw [ec];omega) (by rw [ec];omega),ec]
   have i:=Uc ds;rw [<-g]at i c;have enew:ad ((EI ds:Nat):Int) ((x.toNat %128*128^k:Nat):Int)=(n:Int):=by
    rw [C6 (by omega) (by omega),c,pJ (128^k)];omega
   rw [hw,Z6,emul,enew,Ad (by omega:(x.toNat:Int)<128),Af (by omega:¬(n:Int)>1000000000),ad1 (by omega)];simp only [Ag,Ae];obtain⟨s,w,y⟩:=IU n (by omega);rw [Fo t (by omega) (by omega),w];simp only [Aa];have o:seq s (t.extract a (a+k+1))=true:=by
    rw [OS,y,HD,show a+k+1-a=k+1 by omega,f _ (by omega),Bc (by omega)];simp
   rw [o];simp only [As,Ae];rw [show a+k+1=a+(Cp n).length by omega]
  |succ m ih=>
   intro k hk;suffices d:Df t (a:Int) ((EI ((Cp n).take k):Nat):Int) ((128^k:Nat):Int) ((a+k:Nat):Int)=some (.inl (((EI ((Cp n).take (k+1)):Nat):Int),((128^(k+1):Nat):Int),((a+(k+1):Nat):Int))) by
    rw [AG];simp only [d];exact ih (k+1) (by omega)
   simp only [Df];have e:a+k<(L t).length:=by omega
   rw [C6 (b:=5) (by omega) (by omega),BJ,Ad (by omega:((a+k:Nat):Int)<(a:Int)+5),Ad (by omega:((a+k:Nat):Int)<((L t).length:Int))];simp only [Ag,Aa,Fv t e];have j:k<ds.length:=by omega
   have p:(Cp n)[k]?=some ds[k]:=by rw [hD,AT j,Ac j]
   have hb:(L t)[a+k]=ds[k]:=by
    have:((L t).drop a)[k]?=some ds[k]:=by
     rw [h,AT (by omega),p]
    rw [BY,Ac e]at this;injection this
   rw [hb];have h128:=u _ (AP j);have hx:=fU ds[k];have q:(Cp n).take (k+1)=(Cp n).take k++ [ds[k]]:=by rw [Eo,p];rfl
   have r:((Cp n).take k).length=k:=by rw [AI];omega
   have c:=M6 ((Cp n).take k) [ds[k]];rw [<-q,r]at c;have i:=Uc ((Cp n).take k);rw [r]at i;have hp:=cT k (by omega);generalize ds[k]=x at hx q c h128;simp only [EI,Nat.mul_zero,Fl]at c;have hw:IntKind.i64.wrap (x.toNat:Int)=x.toNat:=Ng (by omega) (by omega);have l:x.toNat %128*128^k<=127*268435456:=Yx (by omega) hp;have emul:ml ((x.toNat %128:Nat):Int) ((128^k:Nat):Int)=((x.toNat %128*128^k:Nat):Int):=by
    have ec:((x.toNat %128:Nat):Int)*((128^k:Nat):Int)=((x.toNat %128*128^k:Nat):Int):=by norm_cast
    rw [Nq (by rw [ec];omega) (by rw [ec];omega),ec]
   have enew:ad (((EI ((Cp n).take k):Nat)):Int) ((x.toNat %128*128^k:Nat):Int)=((EI ((Cp n).take (k+1)):Nat):Int):=by
    rw [C6 (by omega) (by omega),c,pJ (128^k)];omega
   have e1:ml ((128^k:Nat):Int) 128=((128^(k+1):Nat):Int):=by
    rw [Nq (by omega) (by omega),TW];norm_cast
   rw [hw,Z6,emul,enew,Af (by omega:¬(x.toNat:Int)<128),e1,ad1 (by omega)];rfl
 unfold HQ;rw [BJ,Ek,Ad (by omega)];simp only [Aa,As,Ae];have k0:=key ds.length 0 (by omega);simp only [Ib,EI,Nat.pow_zero,Fl]at k0;rw [show((0:Nat):Int)=0 from rfl,show((1:Nat):Int)=1 from rfl]at k0;rw [k0];rfl
theorem JX (t:ByteArray) (ht:(L t).length<=20000) (a n:Nat) (hn:n<=1000000000) (rest:List UInt8) (h:(L t).drop a=Cp n++rest):DW (E7.mk t (a:Int) false)=some ((n:Int),E7.mk t ((a+(Cp n).length:Nat):Int) false):=by
 rw [IT t _ ht (kY t ht a n hn rest h)];rfl
def nR (r:Dk):List UInt8:=UInt8.ofNat (16*r.Kind+r.Vol).toNat::(Cp r.Arg.toNat++Cp r.Chunk.toNat)
theorem cR {r:Dk} (h:HV r=true):1<=r.Kind/\r.Kind<=5/\0<=r.Vol/\r.Vol<=9/\0<=r.Arg/\r.Arg<=1000000000/\0<=r.Chunk/\r.Chunk<=1000000000:=by
 unfold HV at h
 cases k1:(r.Kind==1)with
 |true=>
  have e1:r.Kind=1:=by simpa using k1
  rw [k1]at h;simp at h;omega
 |false=>
  rw [k1]at h;cases k2:(r.Kind==2)<;>cases k3:(r.Kind==3)<;>cases k4:(r.Kind==4)<;>rw [k2,k3,k4]at h<;>simp at h k2 k3 k4<;>omega
theorem aY {r:Dk} (h:HV r=true):∃t,Nm r=some (t,true)/\L t=nR r:=by
 obtain⟨h1,h2,h3,h4,h5,h6,h7,h8⟩:=cR h;obtain⟨sa,a1,a2⟩:=IU r.Arg.toNat (by omega);obtain⟨sc,c1,c2⟩:=IU r.Chunk.toNat (by omega);rw [B5 h5]at a1;rw [B5 h7]at c1;unfold Nm L8;rw [P9,h];simp only [Aa,As,Ae];rw [Nq (by omega) (by omega),C6 (by omega) (by omega),a1];simp only [Aa];have l1:=(HB (show r.Arg.toNat<=1000000000 by omega)).2;have l2:=(HB (show r.Chunk.toNat<=1000000000 by omega)).2;have hb:∀x,(L (Hh [x])).length=1:=UM;rw [GN _ _ (by rw [hb,a2];omega),c1];simp only [Aa];rw [GN _ _ (by rw [DA,Ai,hb,a2,c2];omega)];simp only [Aa];refine⟨_,rfl,?_⟩;rw [DA,DA,IA,a2,c2];unfold nR;have hw:IntKind.u8.wrap (16*r.Kind+r.Vol)=16*r.Kind+r.Vol:=by
  rw [IntKind.wrap_u8];omega
 simp only [BT,pK,hw,Cd,BB,A6]
def G3 (l:List Dk):List UInt8:=l.flatMap nR
theorem vI {r:Dk} (h:HV r=true):3<=(nR r).length/\(nR r).length<=11:=by
 obtain⟨h1,h2,h3,h4,h5,h6,h7,h8⟩:=cR h;have l1:=HB (show r.Arg.toNat<=1000000000 by omega);have l2:=HB (show r.Chunk.toNat<=1000000000 by omega);unfold nR;rw [Ax,Ai];omega
theorem YQ (t:ByteArray) (ht:(L t).length<=20000):∀(l:List Dk) (a:Nat) (out:List Dk),(∀r∈l,HV r=true)->(L t).drop a=G3 l->a<=(L t).length->out.length<=a->A0 (fun s:List Dk×ByteArray×Int×Bool=>DF t s.1 s.2.1 s.2.2.1 s.2.2.2) (out,t,(a:Int),false)=some (.inl (out++l))
 |[],a,out,hl,h,ha,ho=>by
  have:(L t).length=a:=by
   have:=Dn List.length h;rw [B6]at this;simp [G3]at this;omega
  rw [AG];simp only [DF];rw [BJ,Af (by omega),Aw];rfl
 |r::l,a,out,hl,h,ha,ho=>by
  have hr:=hl r (by simp);obtain⟨h1,h2,h3,h4,h5,h6,h7,h8⟩:=cR hr;have h':(L t).drop a=UInt8.ofNat (16*r.Kind+r.Vol).toNat::(Cp r.Arg.toNat++(Cp r.Chunk.toNat++G3 l)):=by
   rw [h];simp only [G3,Hd,nR,BB,Ap]
  have b:a<(L t).length:=by
   have:=Dn List.length h';rw [B6,Ax]at this;omega
  have c:=Bs b;rw [h']at c
  injection c with hx hd
  rw [AG];simp only [DF];rw [BJ,Ad (by omega)];simp only [Ag,Aa,Bk];rw [Fv t b,ad1 (by omega)];simp only [Aa];rw [JX t ht (a+1) r.Arg.toNat (by omega) _ hd.symm];simp only [Aa];have d:(L t).drop (a+1+(Cp r.Arg.toNat).length)=Cp r.Chunk.toNat++G3 l:=by
   rw [<-Cz,<-hd,EA rfl]
  rw [JX t ht _ r.Chunk.toNat (by omega) _ d];simp only [Aa,Ae];have hw:IntKind.i64.wrap (((L t)[a]).toNat:Int)=16*r.Kind+r.Vol:=by
   rw [<-hx,Gu];rw [Ng (by omega) (by omega)];omega
  have e1:qu (IntKind.i64.wrap (((L t)[a]).toNat:Int)) 16=r.Kind:=by
   rw [hw];unfold qu;rw [Int.tdiv_eq_ediv_of_nonneg (by omega),Ng (by omega) (by omega)];omega
  have e2:Int.tmod (IntKind.i64.wrap (((L t)[a]).toNat:Int)) 16=r.Vol:=by
   rw [hw,J4 (by omega)];omega
  rw [e1,e2,B5 h5,B5 h7];have e:Dk.mk r.Kind r.Vol r.Arg r.Chunk=r:=rfl;rw [e,P9,hr];simp only [Aa,As,Ae];rw [CO (by simp only [Ao];omega)];simp only [Aa];have l1:=HB (show r.Arg.toNat<=1000000000 by omega);have l2:=HB (show r.Chunk.toNat<=1000000000 by omega);have f:(L t).drop (a+1+(Cp r.Arg.toNat).length+(Cp r.Chunk.toNat).length)=G3 l:=by
   rw [<-Cz,d,EA rfl]
  have g:a+1+(Cp r.Arg.toNat).length+(Cp r.Chunk.toNat).length<=(L t).length:=by
   have h9:=Dn List.length h';rw [B6,Ax,Ai,Ai]at h9;omega
  have:=YQ t ht l _ (out++ [r]) (fun x hx=>hl x (by simp [hx])) f g (by simp;omega);rw [Ap,Cd]at this;exact this
theorem nQ {l:List Dk} (hl:∀r∈l,HV r=true) (a:(G3 l).length<=20000):YR (bs (G3 l))=some l:=by
 have h:=YQ (bs (G3 l)) (by rw [Eh];exact a) l 0 [] hl (by rw [Eh];rfl) (by omega) (by simp);unfold YR I4;have h':A0 (fun s:List Dk×ByteArray×Int×Bool=>DF (bs (G3 l)) s.1 s.2.1 s.2.2.1 s.2.2.2) ([],bs (G3 l),0,false)=some (.inl ([]++l)):=h;rw [h',A6];rfl
end Go.TI
namespace Go.TI
open Go
theorem pC (u:ByteArray) (hu:(L u).length<=20000) {v:Int} (hv:Lx u=some v):I2 (u++four v)=some (u,true):=by
 have a:(L (u++four v)).length=(L u).length+4:=by rw [DA,Ai,RH]
 have e4:sb (FZ (u++four v)) 4=((L u).length:Int):=by rw [BJ,a,C3 (by omega) (by omega)];omega
 unfold I2;rw [e4,Af (by omega),Af (by omega)];simp only [Ae];have c:sub (u++four v) 0 ((L u).length:Int)=some u:=by
  rw [show(0:Int)=((0:Nat):Int)from rfl,Fo _ (by omega) (by omega)];congr 1;apply If;rw [HD,DA];simp
 have b:sub (u++four v) ((L u).length:Int) (FZ (u++four v))=some (four v):=by
  rw [BJ,Fo _ (by omega) (by omega)];congr 1;apply If;rw [HD,a,DA,EA rfl,Bc (by rw [RH];omega)]
 rw [c,b];simp only [Aa];rw [hv];have h3:JQ v=some (four v):=rfl;simp only [Aa,h3];have:seq (four v) (four v)=true:=by rw [Iy];simp
 rw [this];rfl
def IS (p:Page):Prop:=(p.Kind=1\/p.Kind=2)/\(1<=p.Seq/\p.Seq<=1000000000)/\(1<=p.Tx/\p.Tx<=1000000000)/\(1<=p.Count/\p.Count<=9)/\(0<=p.Part/\p.Part<p.Count)/\(L p.Text).length<=90/\(p.Kind=2\/p.Count=1)
theorem V3 (p:Page):∃v,Io p=some v/\(v=true↔IS p):=by
 unfold Io IS;rw [Ek,Ek,Ek,Ek,BJ];simp only [Aa];by_cases h1:1<=p.Kind/\p.Kind<=2
 ·rw [Ad h1];by_cases h2:1<=p.Seq/\p.Seq<=1000000000
  ·rw [Ad h2];by_cases h3:1<=p.Tx/\p.Tx<=1000000000
   ·rw [Ad h3];by_cases h4:1<=p.Count/\p.Count<=9
    ·rw [Ad h4];simp only [As,Ae];rw [C3 (by omega) (by omega),Ek];simp only [Aa];by_cases h5:0<=p.Part/\p.Part<=p.Count-1
     ·rw [Ad h5];simp only [As,Ae,Aa];by_cases h6:((L p.Text).length:Int)>90
      ·rw [Ad h6];exact⟨_,rfl,by simp only [Cs,PP];omega⟩
      ·rw [Af h6];simp only [Ae];by_cases h7:p.Kind=2
       ·rw [show(p.Kind==2)=true by simpa using h7];exact⟨_,rfl,by simp only [true_iff];omega⟩
       ·rw [show(p.Kind==2)=false by simpa using h7];refine⟨_,rfl,?_⟩;rw [CV];omega
     ·rw [Af h5];exact⟨_,rfl,by simp only [Cs,PP];omega⟩
    ·rw [Af h4];exact⟨_,rfl,by simp only [Cs,PP];omega⟩
   ·rw [Af h3];exact⟨_,rfl,by simp only [Cs,PP];omega⟩
  ·rw [Af h2];exact⟨_,rfl,by simp only [Cs,PP];omega⟩
 ·rw [Af h1];exact⟨_,rfl,by simp only [Cs,PP];omega⟩
theorem vS {p:Page} (h:IS p):Io p=some true:=by
 obtain⟨v,h1,h2⟩:=V3 p;rw [h1,h2.2 h]
theorem sL {p:Page} (h:IS p):∃t,E0 p=some (t,true)/\1<=(L t).length/\(L t).length<=120/\Ez t=some (p,true):=by
 obtain⟨h1,h2,h3,h4,h5,h6,h7⟩:=h
 let k:UInt8:=UInt8.ofNat p.Kind.toNat
 have hk:(k.toNat:Int)=p.Kind:=by
  show((UInt8.ofNat p.Kind.toNat).toNat:Int)=p.Kind;rw [Gu];omega
 let u:=bs ([k]++Cp p.Seq.toNat++Cp p.Tx.toNat++Cp p.Part.toNat++Cp p.Count.toNat++L p.Text)
 have hu:L u=[k]++Cp p.Seq.toNat++Cp p.Tx.toNat++Cp p.Part.toNat++Cp p.Count.toNat++L p.Text:=Eh _;have l1:=HB (show p.Seq.toNat<=1000000000 by omega);have l2:=HB (show p.Tx.toNat<=1000000000 by omega);have l3:=HB (show p.Part.toNat<=1000000000 by omega);have l4:=HB (show p.Count.toNat<=1000000000 by omega);have e:(L u).length=1+(Cp p.Seq.toNat).length+(Cp p.Tx.toNat).length+(Cp p.Part.toNat).length+(Cp p.Count.toNat).length+(L p.Text).length:=by
  rw [hu];simp only [Ai,Ao]
 have l5:(L u).length<=116:=by omega
 obtain⟨v,hv,hs⟩:=(SD u).2 (by omega);have c:=vS ⟨h1,h2,h3,h4,h5,h6,h7⟩;have a:=Ts p u k p.Seq.toNat p.Tx.toNat p.Part.toNat p.Count.toNat c hk.symm (by omega) (by omega) (by omega) (by omega) (by omega) (by omega) (by omega) (by omega) (by omega) hu;rw [hs]at a;refine⟨u++four v,a,by rw [DA,Ai];omega,by rw [DA,Ai,RH];omega,?_⟩;unfold Ez;rw [pC u (by omega) hv];simp only [Aa,As,Ae];rw [BJ,Af (by omega)];have d0:(L u).drop 1=Cp p.Seq.toNat++(Cp p.Tx.toNat++(Cp p.Part.toNat++(Cp p.Count.toNat++L p.Text))):=by
  rw [hu];simp only [Ap,Cd,BB,List.drop_succ_cons,List.drop_zero,A6]
 rw [show(1:Int)=((1:Nat):Int)from rfl,JX u (by omega) 1 p.Seq.toNat (by omega) _ d0];simp only [Aa];have d1:(L u).drop (1+(Cp p.Seq.toNat).length)=Cp p.Tx.toNat++(Cp p.Part.toNat++(Cp p.Count.toNat++L p.Text)):=by rw [<-Cz,d0,EA rfl]
 rw [JX u (by omega) _ p.Tx.toNat (by omega) _ d1];simp only [Aa];have d2:(L u).drop (1+(Cp p.Seq.toNat).length+(Cp p.Tx.toNat).length)=Cp p.Part.toNat++(Cp p.Count.toNat++L p.Text):=by rw [<-Cz,d1,EA rfl]
 rw [JX u (by omega) _ p.Part.toNat (by omega) _ d2];simp only [Aa];have d3:(L u).drop (1+(Cp p.Seq.toNat).length+(Cp p.Tx.toNat).length+(Cp p.Part.toNat).length)=Cp p.Count.toNat++L p.Text:=by rw [<-Cz,d2,EA rfl]
 rw [JX u (by omega) _ p.Count.toNat (by omega) _ d3];simp only [Aa,Ae];have d4:(L u).drop (1+(Cp p.Seq.toNat).length+(Cp p.Tx.toNat).length+(Cp p.Part.toNat).length+(Cp p.Count.toNat).length)=L p.Text:=by rw [<-Cz,d3,EA rfl]
 have d:sx u 0=some ((k.toNat:Nat):Int):=by
  rw [show(0:Int)=((0:Nat):Int)from rfl,Fv u (by omega)];have:(L u)[0]?=some k:=by rw [hu];simp
  rw [Ac (by omega)]at this
  injection this with this
  rw [this]
 rw [d];simp only [Aa];have b:sub u ((1+(Cp p.Seq.toNat).length+(Cp p.Tx.toNat).length+(Cp p.Part.toNat).length+(Cp p.Count.toNat).length:Nat):Int) ((L u).length:Int)=some p.Text:=by
  rw [Fo u (by omega) (by omega)];congr 1;apply If;rw [HD,d4,Bc (by omega)]
 rw [b];simp only [Aa];rw [Ng (by omega) (by omega),hk,B5 (by omega),B5 (by omega),B5 (by omega),B5 (by omega)];have hp:Page.mk p.Kind p.Seq p.Tx p.Part p.Count p.Text=p:=rfl;rw [hp,a];simp only [Aa,As,Ae];have:seq (u++four v) (u++four v)=true:=by rw [Iy];simp
 rw [this];rfl
theorem vR {p:Page} (h:¬IS p):E0 p=some (bs [],false):=by
 obtain⟨v,h1,h2⟩:=V3 p;unfold E0;rw [h1]
 cases v with
 |true=>exact absurd (h2.1 rfl) h
 |false=>rfl
end Go.TI
namespace Go.TI
open Go
theorem r6 (s:ByteArray) (f a:Nat) (hf:f<a) (ha:a<=(L s).length) (hs:(L s).length<=64):∃k:Nat,JP s (f:Int) (a:Int)=some (k:Int)/\k<=31/\a+k<=(L s).length/\∀j,j<k->(L s)[f+j]?=(L s)[a+j]? :=by
 obtain⟨b,h1,k,rfl,h2,h3,h4⟩:=Bw (body:=fun n:Int=>FN s (f:Int) (a:Int) n) (fun(_:Unit) i=>i) 31 (fun i _=>a+i<=(L s).length/\∀j,j<i->(L s)[f+j]?=(L s)[a+j]?) (fun b=>∃k:Nat,b=(k:Int)/\k<=31/\a+k<=(L s).length/\∀j,j<k->(L s)[f+j]?=(L s)[a+j]?)
  (fun _ i hi hs=>by
   simp only [FN];rw [Ad (by omega:(i:Int)<31),Ag,C6 (by omega) (by omega),C6 (by omega) (by omega),BJ];by_cases c:a+i<(L s).length
   ·rw [Ad (by omega:((a:Int)+(i:Int))<((L s).length:Int)),Ag];have e1:((f:Int)+(i:Int))=((f+i:Nat):Int):=by omega
    have e2:((a:Int)+(i:Int))=((a+i:Nat):Int):=by omega
    rw [e1,e2,Fv s (by omega),Fv s c];simp only [Aa]
    cases hq:((((L s)[f+i]).toNat:Int)==(((L s)[a+i]).toNat:Int))with
    |true=>
     simp only [Ag];rw [ad1 (by omega)];refine .inl ⟨(),rfl,by omega,fun j hj=>?_⟩;by_cases e:j=i
     ·subst e;rw [Ac (by omega),Ac c];congr 1;apply UInt8.toNat_inj.1;have:(((L s)[f+j]).toNat:Int)=(((L s)[a+j]).toNat:Int):=by simpa using hq
      omega
     ·exact hs.2 j (by omega)
    |false=>exact .inr ⟨_,rfl,i,rfl,by omega,hs.1,hs.2⟩
   ·rw [Af (by omega:¬((a:Int)+(i:Int))<((L s).length:Int)),Ae]
    exact .inr ⟨_,rfl,i,rfl,by omega,hs.1,hs.2⟩)
  (fun _ hs=>by
   simp only [FN];rw [Af (by omega:¬((31:Nat):Int)<31),Ae]
   exact⟨_,rfl,31,rfl,by omega,hs.1,hs.2⟩) (s:=()) ⟨by omega,fun j hj=>by omega⟩
 refine⟨k,?_,h2,h3,h4⟩;unfold JP;have h1':A0 (fun n:Int=>FN s (f:Int) (a:Int) n) 0=some (k:Int):=h1;rw [h1'];rfl
def yE (s:ByteArray) (a z b:Nat):Prop:=z<=31/\a+z<=(L s).length/\(z=0\/(4<=z/\1<=b/\b<=a/\∀j,j<z->(L s)[a-b+j]?=(L s)[a+j]?))
theorem u7 (s:ByteArray) (a:Nat) (ha:a<=(L s).length) (hs:(L s).length<=64):∃z b:Nat,A0 (fun q:Int×Int×Int=>DE s (a:Int) q.1 q.2.1 q.2.2) (0,0,(sb (a:Int) 1))=some ((z:Int),(b:Int))/\yE s a z b:=by
 rw [C3 (by omega) (by omega)];obtain⟨r,h1,z,b,rfl,h2⟩:=Bw (body:=fun q:Int×Int×Int=>DE s (a:Int) q.1 q.2.1 q.2.2) (fun(q:Nat×Nat) i=>((q.1:Int),(q.2:Int),(a:Int)-1-i)) a (fun i q=>yE s a q.1 q.2) (fun r=>∃z b:Nat,r=((z:Int),(b:Int))/\yE s a z b)
  (fun q i hi hq=>by
   obtain⟨k,m1,m2,m3,m4⟩:=r6 s (a-1-i) a (by omega) ha hs;have e1:((a:Int)-1-(i:Int))=((a-1-i:Nat):Int):=by omega
   simp only [DE,e1];rw [Ad (by omega:(((a-1-i:Nat)):Int)>=0),Ag,m1];simp only [Aa];rw [C3 (by omega) (by omega),C3 (by omega) (by omega)];refine .inl ?_;have e2:(((a-1-i:Nat):Int)-1)=(a:Int)-1-((i+1:Nat):Int):=by omega
   have e3:((a:Int)-((a-1-i:Nat):Int))=((1+i:Nat):Int):=by omega
   rw [e2,e3];by_cases h4:4<=k
   ·rw [Ad (by omega:(k:Int)>=4),Ag];by_cases h5:q.1<k
    ·rw [Ad (by omega:(k:Int)>(q.1:Int))];exact⟨(k,1+i),rfl,m2,m3,.inr ⟨h4,by omega,by omega,fun j hj=>by rw [show a-(1+i)=a-1-i by omega];exact m4 j hj⟩⟩
    ·rw [Af (by omega:¬(k:Int)>(q.1:Int))];exact⟨q,rfl,hq⟩
   ·rw [Af (by omega:¬(k:Int)>=4),Ae]
    exact⟨q,rfl,hq⟩)
  (fun q hq=>by
   simp only [DE];rw [Af (by omega:¬((a:Int)-1-(a:Int))>=0),Ae]
   exact⟨_,rfl,q.1,q.2,rfl,hq⟩) (s:=(0,0)) ⟨by omega,by omega,.inl rfl⟩
 have e0:(((0:Nat):Int),((0:Nat):Int),(a:Int)-1-0)=((0:Int),(0:Int),(a:Int)-1):=by simp
 simp only [e0]at h1;exact⟨z,b,h1,h2⟩
def RN:Nat->Nat->List UInt8->List UInt8
 |0,_,out=>out
 |n+1,b,out=>RN n b (out++ [(out[out.length-b]?).getD 0])
def S5 (out:List UInt8) (t:AO):List UInt8:=if t.Back=0 then out++L t.Text else RN t.Size.toNat t.Back.toNat out
def Fd (l:List AO):List UInt8:=l.foldl S5 []
def okT (out:List UInt8) (t:AO):Prop:=(t.Back=0/\t.Size=0/\1<=(L t.Text).length/\(L t.Text).length<=31)\/(1<=t.Back/\t.Back<=(out.length:Int)/\1<=t.Size/\t.Size<=31/\L t.Text=[])
def wA (l:List AO):Prop:=∀(i:Nat) t,l[i]?=some t->okT (Fd (l.take i)) t
theorem No (l:List AO) (t:AO):Fd (l++ [t])=S5 (Fd l) t:=by unfold Fd;rw [Hc];rfl
theorem cY {l:List AO} {t:AO} (h:wA l) (ht:okT (Fd l) t):wA (l++ [t]):=by
 intro i x hx;by_cases e:i<l.length
 ·rw [AT e]at hx;rw [Ik (by omega)];exact h i x hx
 ·have hi:=(Aj.1 hx).1;rw [Ai,Ao]at hi;obtain rfl:i=l.length:=by omega
  rw [AW (AB _),P2]at hx;simp only [Du,An]at hx;rw [OG rfl,<-hx];exact ht
theorem vZ {l:List AO} {t:AO} (h:wA (l++ [t])):wA l/\okT (Fd l) t:=by
 refine⟨fun i x hx=>?_,?_⟩
 ·have hi:=(Aj.1 hx).1;have:=h i x (by rw [AT hi];exact hx);rw [Ik (by omega)]at this;exact this
 ·have:=h l.length t (by rw [AW (AB _),P2];rfl);rw [OG rfl]at this;exact this
theorem Zo (S:List UInt8):∀(n a b:Nat),a+n<=S.length->1<=b->b<=a->(∀j,j<n->S[a-b+j]?=S[a+j]?)->RN n b (S.take a)=S.take (a+n)
 |0,a,b,_,_,_,_=>rfl
 |n+1,a,b,h1,h2,h3,h4=>by
  rw [RN];have hl:(S.take a).length=a:=by rw [AI];omega
  have e:((S.take a)[(S.take a).length-b]?).getD 0=S[a]'(by omega):=by
   rw [hl,List.getElem?_take_of_lt (by omega)];have:=h4 0 (by omega);rw [Fl,Fl]at this;rw [this,Ac (by omega)];rfl
  rw [e,<-A4 (by omega),Zo S n (a+1) b (by omega) h2 (by omega) (fun j hj=>by
   have:=h4 (j+1) (by omega);rw [show a+1-b+j=a-b+(j+1) by omega,this];congr 1
   omega)]
  congr 1;omega
theorem kI:∀(n b:Nat) (out:List UInt8),(RN n b out).length=out.length+n
 |0,_,_=>rfl
 |n+1,b,out=>by rw [RN,kI];simp;omega
theorem QY (s:ByteArray) (hs:(L s).length<=64):∀(n a:Nat) (out:List AO),(L s).length-a<=n->a<=(L s).length->out.length<=a->wA out->Fd out=(L s).take a->∃l,A0 (fun q:List AO×Int=>Ci s q.1 q.2) (out,(a:Int))=some l/\wA l/\Fd l=L s/\l.length<=64
 |n,a,out,hn,ha,g,f,c=>by
  by_cases h:a<(L s).length
  ·obtain⟨z,b,h1,h2,h3,h4⟩:=u7 s a ha hs
   match n,hn with
   |0,hn=>omega
   |n+1,hn=>
   have i:((L s).take a).length=a:=by rw [AI];omega
   rcases h4 with rfl|⟨h4,h5,h6,h7⟩
   ·
    have d:sub s (a:Int) ((a+1:Nat):Int)=some (s.extract a (a+1)):=Fo s (by omega) (by omega);have hx:L (s.extract a (a+1))=[(L s)[a]]:=by
     rw [HD,show a+1-a=1 by omega,Bs h];rfl
    have fresh:∃l,A0 (fun q:List AO×Int=>Ci s q.1 q.2) (out++ [AO.mk 0 0 (s.extract a (a+1))],((a+1:Nat):Int))=some l/\wA l/\Fd l=L s/\l.length<=64:=
     QY s hs n (a+1) _ (by omega) (by omega) (by simp;omega) (cY f (.inl ⟨rfl,rfl,by rw [hx];simp,by rw [hx];simp⟩)) (by
      rw [No];unfold S5
      rw [Az rfl,c,hx,A4 h])
    rcases G7 out with e|⟨out0,t0,e⟩
    ·subst e;obtain⟨l,f1,f2⟩:=fresh;refine⟨l,?_,f2⟩;rw [AG];have hb:Ci s [] (a:Int)=some (.inl ([AO.mk 0 0 (s.extract a (a+1))],((a+1:Nat):Int))):=by
      simp only [Ci];rw [BJ,Ad (by omega),Ag,h1];simp only [Aa];rw [show decide ((((0:Nat):Int))>0)=false from rfl,Ae,ad1 (by omega),d,show decide ((sb (ln ([]:List AO)) 1)>=0)=false from rfl];simp only [Ae,Aa];rw [CO (by simp)];rfl
     simp only [hb];exact f1
    ·rw [G8]at e;subst e;obtain⟨ok0,okt0⟩:=vZ f;have hol':out0.length+1<=a:=by simpa using g
     have o:ln (out0++ [t0])=((out0.length+1:Nat):Int):=by rw [Cu];simp
     have j:sb (ln (out0++ [t0])) 1=(out0.length:Int):=by rw [o,C3 (by omega) (by omega)];omega
     have k:gi (out0++ [t0]) (out0.length:Int)=some t0:=G5 _ _;by_cases hm:t0.Back=0/\(L t0.Text).length<31
     ·have m:SA t0.Text (s.extract a (a+1))=some (t0.Text++s.extract a (a+1)):=GN _ _ (by rw [hx];simp;omega);have hb:Ci s (out0++ [t0]) (a:Int)=some (.inl (out0++ [AO.mk t0.Back t0.Size (t0.Text++s.extract a (a+1))],((a+1:Nat):Int))):=by
       simp only [Ci];rw [BJ,Ad (by omega),Ag,h1];simp only [Aa];rw [show decide ((((0:Nat):Int))>0)=false from rfl,Ae,ad1 (by omega),d,j,Ad (by omega),Ag,k];simp only [Aa];rw [show(t0.Back==0)=true by simpa using hm.1,Ag,BJ,Ad (by omega)];simp only [Aa,Ag];rw [m];simp only [Aa];rw [IE]
      have hX:L (t0.Text++s.extract a (a+1))=L t0.Text++ [(L s)[a]]:=by rw [DA,hx]
      obtain⟨l,f1,f2⟩:=QY s hs n (a+1) (out0++ [AO.mk t0.Back t0.Size (t0.Text++s.extract a (a+1))]) (by omega) (by omega) (by simp at g⊢;omega) (cY ok0 (by
       rcases okt0 with⟨k1,k2,k3,k4⟩|⟨k1,_⟩
       ·exact .inl ⟨k1,k2,by rw [hX];simp,by rw [hX];simp;omega⟩
       ·omega)) (by
       rw [No]at c⊢;unfold S5 at c⊢;rw [Az hm.1]at c⊢
       rw [hX,<-Ap,c,A4 h])
      refine⟨l,?_,f2⟩;rw [AG];simp only [hb];exact f1
     ·have hb:Ci s (out0++ [t0]) (a:Int)=some (.inl (out0++ [t0]++ [AO.mk 0 0 (s.extract a (a+1))],((a+1:Nat):Int))):=by
       simp only [Ci];rw [BJ,Ad (by omega),Ag,h1];simp only [Aa];rw [show decide ((((0:Nat):Int))>0)=false from rfl,Ae,ad1 (by omega),d,j,Ad (by omega),Ag,k];simp only [Aa];have hj:(bif t0.Back==0 then some (decide (FZ t0.Text<31))else some false:Option Bool)=some false:=by
        by_cases e0:t0.Back=0
        ·rw [show(t0.Back==0)=true by simpa using e0,Ag,BJ,Af (by
         intro hh;exact hm ⟨e0,by omega⟩)]
        ·rw [show(t0.Back==0)=false by simpa using e0];rfl
       rw [hj];simp only [Aa,Ae];rw [CO (by simp at g⊢;omega)];rfl
      obtain⟨l,f1,f2⟩:=fresh;refine⟨l,?_,f2⟩;rw [AG];simp only [hb];exact f1
   ·have hb:Ci s out (a:Int)=some (.inl (out++ [AO.mk (b:Int) (z:Int) (bs [])],((a+z:Nat):Int))):=by
     simp only [Ci];rw [BJ,Ad (by omega),Ag,h1];simp only [Aa];rw [Ad (by omega),Ag,CO (by simp;omega),C6 (by omega) (by omega)];simp only [Aa];congr 3
    obtain⟨l,f1,f2⟩:=QY s hs n (a+z) (out++ [AO.mk (b:Int) (z:Int) (bs [])]) (by omega) h3 (by simp;omega) (cY f (.inr ⟨by simp;omega,by rw [c,i];simp;omega,by simp;omega,by simp;omega,Eh _⟩)) (by
     rw [No];unfold S5;rw [A5 (by simp;omega),c];simp only [B7]
     exact Zo (L s) z a b h3 h5 h6 h7)
    refine⟨l,?_,f2⟩;rw [AG];simp only [hb];exact f1
  ·have ea:a=(L s).length:=by omega
   refine⟨out,?_,f,by rw [c,ea,Bg],by omega⟩;rw [AG];have hb:Ci s out (a:Int)=some (.inr out):=by
    simp only [Ci];rw [BJ,Af (by omega),Ae]
   simp only [hb]
theorem yL (s:ByteArray) (hs:(L s).length<=64):∃l,I3 s=some l/\wA l/\Fd l=L s/\l.length<=64:=by
 obtain⟨l,h1,h2⟩:=QY s hs (L s).length 0 [] (by omega) (by omega) (by simp) (fun i t h=>by simp at h) (by simp [Fd]);refine⟨l,?_,h2⟩;unfold I3;rw [BJ,Af (by omega),Ae];have h1':A0 (fun q:List AO×Int=>Ci s q.1 q.2) ([],0)=some l:=h1;rw [h1'];rfl
end Go.TI
namespace Go.TI
open Go
def KY (t:AO):List UInt8:=if t.Back=0 then UInt8.ofNat (L t.Text).length::L t.Text else [UInt8.ofNat (128+t.Size).toNat,UInt8.ofNat t.Back.toNat]
theorem qO {out:List UInt8} {t:AO} (h:okT out t) (ho:out.length<=64):(KY t).length<=32:=by
 unfold KY
 rcases h with⟨h1,h2,h3,h4⟩|⟨h1,h2,h3,h4,h5⟩
 ·rw [Az h1,Ax];omega
 ·rw [A5 (by omega)];simp
theorem AAv {out:List UInt8} {t:AO} (h:okT out t):out.length<=(S5 out t).length:=by
 unfold S5;split
 ·simp
 ·rw [kI];omega
theorem Mi {l:List AO} (h:wA l):∀i,i<=l.length->(Fd (l.take i)).length<=(Fd l).length:=by
 have step:∀i,i<l.length->(Fd (l.take i)).length<=(Fd (l.take (i+1))).length:=fun i hi=>by
  rw [A4 hi,No];exact AAv (h i _ (Ac hi))
 intro i hi;have:∀k,i+k<=l.length->(Fd (l.take i)).length<=(Fd (l.take (i+k))).length:=by
  intro k
  induction k with
  |zero=>intro _;exact AB _
  |succ k ih=>
   intro hk;exact Kl (ih (by omega)) (step (i+k) (by omega))
 have:=this (l.length-i) (by omega);rw [show i+(l.length-i)=l.length by omega,Bg]at this;exact this
theorem ABC (s:ByteArray) (hs:(L s).length<=64):∃l,wA l/\Fd l=L s/\l.length<=64/\((Ea s=some (bs (122::l.flatMap KY),true))\/Ea s=some (bs (114::L s),true)):=by
 obtain⟨l,h1,h2,h3,h4⟩:=yL s hs;refine⟨l,h2,h3,h4,?_⟩;unfold Ea;rw [BJ,Af (by omega),Ae,h1];simp only [Aa];obtain⟨b,q1,q2⟩:=Bw (body:=fun q:ByteArray×Int=>DG l q.1 q.2) (fun z i=>(z,i)) l.length (fun i z=>L z=122::(l.take i).flatMap KY/\(L z).length<=1+32*i) (fun z=>L z=122::l.flatMap KY/\(L z).length<=3000)
  (fun z i hi hz=>by
   have hx:=Ac hi;have c:=h2 i _ hx;have a:=Mi h2 i (by omega);rw [h3]at a;have d:=qO c (by omega);have et:(l.take (i+1)).flatMap KY=(l.take i).flatMap KY++KY l[i]:=by rw [A4 hi,OJ];simp
   simp only [DG,Bb,Ad hi,Ag,AN,hx,Aa];rw [ad1 (by omega)];refine .inl ?_
   rcases c with⟨k1,k2,k3,k4⟩|⟨k1,k2,k3,k4,k5⟩
   ·rw [show(l[i].Back==0)=true by simpa using k1,Ag,GN _ _ (by rw [UM];omega)];simp only [Aa];rw [GN _ _ (by rw [DA,Ai,UM];omega)];have hL:L (z++Hh [IntKind.u8.wrap (FZ l[i].Text)]++l[i].Text)=L z++KY l[i]:=by
     rw [DA,DA,IA];unfold KY;rw [Az k1,BJ];have:IntKind.u8.wrap ((L l[i].Text).length:Int)=((L l[i].Text).length:Int):=by rw [IntKind.wrap_u8];omega
     rw [this];simp
    refine⟨_,rfl,?_,?_⟩
    ·rw [hL,hz.1,et];rfl
    ·rw [hL,Ai];omega
   ·rw [show(l[i].Back==0)=false by simp;omega,Ae,C6 (by omega) (by omega),GN _ _ (by rw [LO];simp;omega)];have hL:L (z++Hh [IntKind.u8.wrap (128+l[i].Size),IntKind.u8.wrap l[i].Back])=L z++KY l[i]:=by
     rw [DA,IA];unfold KY;rw [A5 (by omega)];have e1:IntKind.u8.wrap (128+l[i].Size)=128+l[i].Size:=by rw [IntKind.wrap_u8];omega
     have e2:IntKind.u8.wrap l[i].Back=l[i].Back:=by rw [IntKind.wrap_u8];omega
     rw [e1,e2];rfl
    refine⟨_,rfl,?_,?_⟩
    ·rw [hL,hz.1,et];rfl
    ·rw [hL,Ai];omega)
  (fun z hz=>⟨z,by simp only [DG,Bb,A3,A8,Ae],by rw [hz.1,Bg],by omega⟩) (s:=bs [122]) ⟨by rw [Eh];rfl,by rw [Eh];simp⟩
 have q1':A0 (fun q:ByteArray×Int=>DG l q.1 q.2) (bs [122],0)=some b:=q1;rw [q1'];simp only [Aa];have hb:b=bs (122::l.flatMap KY):=If (by rw [q2.1,Eh])
 cases decide (ad ((L s).length:Int) 1<=FZ b)with
 |false=>left;rw [hb];rfl
 |true=>
  right;simp only [Ag];rw [GN _ _ (by rw [Eh];simp;omega)];simp only [Aa];have e:bs [114]++s=bs (114::L s):=If (by rw [DA,Eh,Eh];rfl);rw [e]
theorem Sd (t:ByteArray) (ht:(L t).length<=10000):∀(l:List AO) (a:Nat) (out:List AO),(∀x∈l,∃o:List UInt8,okT o x/\o.length<=64)->(L t).drop a=l.flatMap KY->a<=(L t).length->out.length<=a->A0 (fun q:List AO×Int=>BR t q.1 q.2) (out,(a:Int))=some (.inl (out++l))
 |[],a,out,hl,h,ha,ho=>by
  have:(L t).length=a:=by
   have:=Dn List.length h;rw [B6]at this;simp at this;omega
  rw [AG];have hb:BR t out (a:Int)=some (.inr (.inl out)):=by
   simp only [BR];rw [BJ,Af (by omega),Ae]
  simp only [hb];rw [Aw]
 |x::l,a,out,hl,h,ha,ho=>by
  obtain⟨o,k,n⟩:=hl x (by simp);rw [Hd]at h;have c:=Dn List.length h;rw [B6,Ai]at c
  rcases k with⟨k1,k2,k3,k4⟩|⟨k1,k2,k3,k4,k5⟩
  ·have he:KY x=UInt8.ofNat (L x.Text).length::L x.Text:=by unfold KY;rw [Az k1]
   rw [he]at h c;rw [Ax]at c;have e:a<(L t).length:=by omega
   have d:=Bs e;rw [h,BB]at d
   injection d with hx hd
   have g:(((L t)[a]).toNat:Int)=((L x.Text).length:Int):=by rw [<-hx,Gu];omega
   have j:sub t ((a+1:Nat):Int) ((a+1+(L x.Text).length:Nat):Int)=some x.Text:=by
    rw [Fo t (by omega) (by omega)];congr 1;apply If;rw [HD,<-hd,show a+1+(L x.Text).length-(a+1)=(L x.Text).length by omega,OG rfl]
   have hb:BR t out (a:Int)=some (.inl (out++ [AO.mk 0 0 x.Text],((a+1+(L x.Text).length:Nat):Int))):=by
    simp only [BR];rw [BJ,Ad (by omega),Ag,Fv t e];simp only [Aa];rw [g,Ng (by omega) (by omega),Af (by omega),Ae,ad1 (by omega),C6 (by omega) (by omega),Af (by omega),Ae];rw [show((a+1:Nat):Int)+((L x.Text).length:Int)=((a+1+(L x.Text).length:Nat):Int) by omega,j];simp only [Aa];rw [CO (by simp;omega)];rfl
   have i:AO.mk 0 0 x.Text=x:=by
    cases x with
    |mk b z u=>simp only at k1 k2;rw [k1,k2]
   rw [i]at hb;rw [AG];simp only [hb];have:=Sd t ht l (a+1+(L x.Text).length) (out++ [x]) (fun y hy=>hl y (by simp [hy])) (by rw [<-Cz,<-hd,EA rfl]) (by omega) (by simp;omega);rw [Ap,Cd]at this;exact this
  ·have he:KY x=[UInt8.ofNat (128+x.Size).toNat,UInt8.ofNat x.Back.toNat]:=by unfold KY;rw [A5 (by omega)]
   rw [he]at h c;simp only [Ax,Bm]at c;have e:a<(L t).length:=by omega
   have d:=Bs e;rw [h]at d;simp only [BB,A6]at d
   injection d with hx hd
   have f:=Bs (show a+1<(L t).length by omega);rw [<-hd]at f
   injection f with hx2 hd2
   have g:(((L t)[a]).toNat:Int)=128+x.Size:=by rw [<-hx,Gu];omega
   have m:(((L t)[a+1]'(by omega)).toNat:Int)=x.Back:=by rw [<-hx2,Gu];omega
   have hb:BR t out (a:Int)=some (.inl (out++ [AO.mk x.Back x.Size (bs [])],((a+2:Nat):Int))):=by
    simp only [BR];rw [BJ,Ad (by omega),Ag,Fv t e];simp only [Aa];rw [g,Ng (by omega) (by omega),Ad (by omega),Ag,C6 (b:=2) (by omega) (by omega),Af (by omega),Ae,ad1 (by omega),Fv t (by omega)];simp only [Aa];rw [m,Ng (by omega) (by omega),C3 (by omega) (by omega),CO (by simp;omega)];simp only [Aa];rw [show 128+x.Size-128=x.Size by omega];rfl
   have i:AO.mk x.Back x.Size (bs [])=x:=by
    cases x with
    |mk b z u=>simp only at k5⊢;rw [show bs []=u from If (by rw [k5,Eh])]
   rw [i]at hb;rw [AG];simp only [hb];have:=Sd t ht l (a+2) (out++ [x]) (fun y hy=>hl y (by simp [hy])) (by rw [show a+2=a+1+1 by omega];exact hd2.symm) (by omega) (by simp;omega);rw [Ap,Cd]at this;exact this
def G4 (l:List UInt8):List Int:=l.map fun c=>(c.toNat:Int)
theorem sP (l:List UInt8):L (Hh (G4 l))=l:=by
 rw [IA,G4,Ep];have:((fun n:Int=>UInt8.ofNat n.toNat)∘fun c:UInt8=>(c.toNat:Int))=id:=by
  funext c;simp
 rw [this,QO]
theorem u6 (b:ByteArray):mG b=G4 (L b):=rfl
theorem VT (x:AO) (a:1<=x.Back) (hs:0<=x.Size/\x.Size<=31):∀(n k:Nat) (out:List UInt8),(k:Int)+n=x.Size->x.Back<=(out.length:Int)->out.length+n<=1000->A0 (fun q:List Int×Int=>Dy x q.1 q.2) (G4 out,(k:Int))=some (G4 (RN n x.Back.toNat out))
 |0,k,out,hk,b,ho=>by
  rw [AG];have hb:Dy x (G4 out) (k:Int)=some (.inr (G4 out)):=by
   simp only [Dy];rw [Af (by omega),Ae]
  simp only [hb];rfl
 |n+1,k,out,hk,b,ho=>by
  have c:ln (G4 out)=(out.length:Int):=by rw [Cu,G4,B9]
  have d:gi (G4 out) ((out.length:Int)-x.Back)=some (((out[out.length-x.Back.toNat]?).getD 0).toNat:Int):=by
   rw [show(out.length:Int)-x.Back=((out.length-x.Back.toNat:Nat):Int) by omega,AN,G4,Bh,Ac (by omega)];rfl
  have hb:Dy x (G4 out) (k:Int)=some (.inl (G4 (out++ [(out[out.length-x.Back.toNat]?).getD 0]),((k+1:Nat):Int))):=by
   simp only [Dy];rw [Ad (by omega),Ag,c,C3 (by omega) (by omega),d];simp only [Aa];rw [CO (by simp [G4];omega),ad1 (by omega)];simp only [Aa,G4,C8,BT,pK]
  rw [AG];simp only [hb];rw [RN];exact VT x a hs n (k+1) _ (by omega) (by simp;omega) (by simp;omega)
theorem nT (l:List AO) (hl:l.length<=64) (a:wA l) (h64:(Fd l).length<=64):A0 (fun q:List Int×Int=>Dz l q.1 q.2) ([],0)=some (.inl (G4 (Fd l))):=by
 obtain⟨b,h1,h2⟩:=Bw (body:=fun q:List Int×Int=>Dz l q.1 q.2) (fun(o:List UInt8) i=>(G4 o,i)) l.length (fun i o=>o=Fd (l.take i)) (fun b=>b= .inl (G4 (Fd l)))
  (fun o i hi ho=>by
   have hx:=Ac hi;have hk:=a i _ hx;have hm:=Mi a i (by omega);have d:=Mi a (i+1) (by omega);have et:Fd (l.take (i+1))=S5 o l[i]:=by rw [A4 hi,No,ho]
   rw [<-ho]at hk hm;rw [et]at d
   have c:∀q:List UInt8,ln (G4 q)=(q.length:Int):=fun q=>by rw [Cu,G4,B9]
   simp only [Dz,Bb,Ad hi,Ag,AN,hx,Aa];refine .inl ⟨S5 o l[i],?_,et.symm⟩
   rcases hk with⟨k1,k2,k3,k4⟩|⟨k1,k2,k3,k4,k5⟩
   ·rw [show(l[i].Back==0)=true by simpa using k1,Ag,BJ,Ek,Ad (by omega)];simp only [Aa,As,Ae];rw [show(l[i].Size !=0)=false by simp [k2],u6];simp only [Ae];have e1:ap 1 (G4 o) (G4 (L l[i].Text))=some (G4 (S5 o l[i])):=by
     rw [CO (by simp [G4];omega)];unfold S5;rw [Az k1];simp [G4]
    rw [e1];simp only [Aa,Cl];rw [c,Af (by omega),Ae,ad1 (by omega)]
   ·rw [show(l[i].Back==0)=false by simp;omega,Ae,c,Ek,Ad (by omega)];simp only [Aa,As,Ae];rw [Ek,Ad (by omega)];simp only [Aa,As,Ae];have e:seq l[i].Text (bs [])=true:=by rw [Iy,AD];exact If (by rw [k5,Eh])
    rw [e];simp only [As,Ae];have e1:=VT l[i] k1 ⟨by omega,k4⟩ l[i].Size.toNat 0 o (by omega) k2 (by omega);rw [show((0:Nat):Int)=0 from rfl]at e1;rw [e1];have e2:RN l[i].Size.toNat l[i].Back.toNat o=S5 o l[i]:=by unfold S5;rw [A5 (by omega)]
    rw [e2];simp only [Aa,Cl]
    rw [c,Af (by omega),Ae,ad1 (by omega)])
  (fun o ho=>⟨.inl (G4 o),by simp only [Dz,Bb,A3,A8,Ae],by rw [ho,Bg]⟩) (s:=[]) rfl
 rw [<-h2];exact h1
theorem yK (s:ByteArray) (hs:(L s).length<=64):∃z,Ea s=some (z,true)/\EE z=some (s,true)/\1<=(L z).length:=by
 obtain⟨l,h1,h2,h3,h4⟩:=ABC s hs;have fin:∀z:ByteArray,Ea s=some (z,true)->((Ea s).bind fun v3=>(bif(!v3.2)then(some true)else(some (!(seq v3.1 z))):Option (Bool)).bind fun j2=>bif j2 then(some ((bs []),false))else(some (s,true)))=some (s,true):=by
  intro z hz;rw [hz];have:seq z z=true:=by rw [Iy];simp
  simp only [Aa,As,Ae,this]
 rcases h4 with h4|h4
 ·refine⟨_,h4,?_,by rw [Eh];simp⟩;have hf:=fin _ h4;generalize hz:bs (122::l.flatMap KY)=z at h4 hf;have hL:L z=122::l.flatMap KY:=by rw [<-hz,Eh]
  have d:(L z).length<=3000:=by
   have:∀m:List AO,(∀x∈m,∃o:List UInt8,okT o x/\o.length<=64)->(m.flatMap KY).length<=32*m.length:=by
    intro m
    induction m with
    |nil=>intro _;simp
    |cons x m ih=>
     intro hm;obtain⟨o,f,g⟩:=hm x (by simp);have:=qO f g;have:=ih (fun y hy=>hm y (by simp [hy]));rw [Hd,Ai,Ax];omega
   have:=this l (fun x hx=>by
    obtain⟨i,hi,rfl⟩:=AK hx;have hm:=Mi h1 i (by omega);rw [h2]at hm
    exact⟨_,h1 i _ (Ac hi),by omega⟩)
   rw [hL,Ax];omega
  unfold EE;have a:1<=(L z).length:=by rw [hL];simp
  rw [BJ,show(((L z).length:Int)==0)=false by rw [Di];omega,Ae];have b:sub z 1 ((L z).length:Int)=some (bs (l.flatMap KY)):=by
   rw [show(1:Int)=((1:Nat):Int)from rfl,Fo z a (AB _)];congr 1;apply If;rw [HD,Eh,Bc (by rw [B6];omega),hL];rfl
  have c:sx z 0=some 122:=by
   rw [show(0:Int)=((0:Nat):Int)from rfl,Fv z (i:=0) a];have:(L z)[0]?=some 122:=by rw [hL];rfl
   rw [Ac (by omega)]at this
   injection this with this
   rw [this];rfl
  rw [b,c];simp only [Aa];rw [show((122:Int)==122)=true from rfl];simp only [Ag];have h:(L (bs (l.flatMap KY))).length<=10000:=by rw [Eh];rw [hL,Ax]at d;omega
  have e:=Sd (bs (l.flatMap KY)) h l 0 [] (fun x hx=>by
    obtain⟨i,hi,rfl⟩:=AK hx;have hm:=Mi h1 i (by omega);rw [h2]at hm
    exact⟨_,h1 i _ (Ac hi),by omega⟩) (by rw [Eh];rfl) (by omega) (by simp)
  rw [show((0:Nat):Int)=0 from rfl,A6]at e;have ht:Hw (bs (l.flatMap KY))=some (l,true):=by
   unfold Hw;rw [e];rfl
  have hp:EM l=some (s,true):=by
   unfold EM;rw [nT l h3 h1 (by rw [h2];omega),h2];simp only [Aa,Cl];congr 2;apply If;rw [sP]
  rw [ht];simp only [Aa];rw [hp];simp only [Aa,As,Ae,Cl];exact hf
 ·refine⟨_,h4,?_,by rw [Eh];simp⟩;have hf:=fin _ h4;generalize hz:bs (114::L s)=z at h4 hf;have hL:L z=114::L s:=by rw [<-hz,Eh]
  unfold EE;have a:1<=(L z).length:=by rw [hL];simp
  rw [BJ,show(((L z).length:Int)==0)=false by rw [Di];omega,Ae];have b:sub z 1 ((L z).length:Int)=some s:=by
   rw [show(1:Int)=((1:Nat):Int)from rfl,Fo z a (AB _)];congr 1;apply If;rw [HD,Bc (by rw [B6];omega),hL];rfl
  have c:sx z 0=some 114:=by
   rw [show(0:Int)=((0:Nat):Int)from rfl,Fv z (i:=0) a];have:(L z)[0]?=some 114:=by rw [hL];rfl
   rw [Ac (by omega)]at this
   injection this with this
   rw [this];rfl
  rw [b,c];simp only [Aa];rw [show((114:Int)==122)=false from rfl];simp only [Ae,Aa,Cl];exact hf
end Go.TI
namespace Go.TI
open Go
theorem RP (a b:List ByteArray):Nc (a++b)=Nc a++Nc b:=by unfold Nc;rw [OJ]
theorem sH (a b:List Dk):G3 (a++b)=G3 a++G3 b:=by unfold G3;rw [OJ]
def Dg (seq tx:Int) (T:List ByteArray):List Page:=T.mapIdx fun i t=>Page.mk 2 (seq+i) tx i T.length t
theorem tT (recs:List Dk) (hr:recs.length<=1048576) (g:∀r∈recs,HV r=true):∃T:List ByteArray,A0 (fun s:List ByteArray×Int=>GB recs s.1 s.2) ([(bs [])],0)=some (.inl T)/\1<=T.length/\T.length<=1+recs.length/\Nc T=G3 recs/\∀t∈T,(L t).length<=90:=by
 obtain⟨b,h1,T,h2,h3⟩:=Bw (body:=fun s:List ByteArray×Int=>GB recs s.1 s.2) (fun(o:List ByteArray) i=>(o,i)) recs.length
  (fun i T=>1<=T.length/\T.length<=1+i/\Nc T=G3 (recs.take i)/\∀t∈T,(L t).length<=90)
  (fun b=>∃T:List ByteArray,b= .inl T/\1<=T.length/\T.length<=1+recs.length/\Nc T=G3 recs/\∀t∈T,(L t).length<=90)
  (fun T i hi hT=>by
   obtain⟨h,j,d,f⟩:=hT;have hx:=Ac hi;obtain⟨t,t1,t2⟩:=aY (g _ (AP hi));have k:=vI (g _ (AP hi));rw [<-t2]at k;have et:G3 (recs.take (i+1))=G3 (recs.take i)++L t:=by rw [A4 hi,sH,t2];simp [G3]
   rcases G7 T with e|⟨T0,last,e⟩
   ·subst e;simp at h
   rw [G8]at e;subst e;have l:ln (T0++ [last])=((T0.length+1:Nat):Int):=by rw [Cu];simp
   rw [Ai,Ao]at h j;have m:sb (ln (T0++ [last])) 1=(T0.length:Int):=by rw [l,C3 (by omega) (by omega)];omega
   have n:gi (T0++ [last]) (T0.length:Int)=some last:=G5 _ _;have p:=f last (by simp);rw [RP]at d;simp only [GB,Bb,Ad hi,Ag,AN,hx,Aa];rw [t1];simp only [Aa,As,Ae];rw [m,n];simp only [Aa];rw [BJ,BJ,C6 (by omega) (by omega),ad1 (by omega)];refine .inl ?_;by_cases c:((L last).length:Int)+((L t).length:Int)>90
   ·rw [Ad c,Ag,CO (by simp;omega)];refine⟨T0++ [last]++ [t],rfl,by simp,by simp;omega,?_,fun x a=>?_⟩
    ·rw [RP,RP,et,d];simp [Nc]
    ·rw [Al,AA]at a
     rcases a with a|rfl
     ·exact f x a
     ·omega
   ·rw [Af c,Ae,GN _ _ (by omega)];simp only [Aa];rw [IE];refine⟨T0++ [last++t],rfl,by simp,by simp;omega,?_,fun x a=>?_⟩
    ·rw [RP,et,<-d];simp [Nc,DA]
    ·rw [Al,AA]at a
     rcases a with a|rfl
     ·exact f x (by simp [a])
     ·rw [DA,Ai];omega)
  (fun T hT=>⟨_,by simp only [GB,Bb,A3,A8,Ae],T,rfl,hT.1,hT.2.1,by rw [hT.2.2.1,Bg],hT.2.2.2⟩) (s:=[bs []]) ⟨by simp,by simp,by simp [Nc,G3,Eh],fun t ht=>by rw [AA]at ht;rw [ht,Eh];simp⟩
 subst h2;exact⟨T,h1,h3⟩
theorem tU (seq tx:Int) (recs:List Dk) (hr:recs.length<=1000) (a:∀r∈recs,HV r=true):∃T:List ByteArray,1<=T.length/\Nc T=G3 recs/\(∀t∈T,(L t).length<=90)/\
  ((LA seq tx recs=some (Dg seq tx T,true)/\T.length<=9/\1<=seq/\seq+T.length-1<=1000000000/\1<=tx/\tx<=1000000000)\/LA seq tx recs=some ([],false)):=by
 obtain⟨T,h1,h2,h2',h3,h4⟩:=tT recs (by omega) a;refine⟨T,h2,h3,h4,?_⟩;unfold LA;rw [h1];simp only [Aa,Cl];rw [Cu];by_cases h9:(T.length:Int)>9
 ·rw [Ad h9];exact .inr rfl
 ·rw [Af h9];simp only [Ae];rw [C3 (by omega) (by omega),C6 (by omega) (by omega),Ek,Ek];simp only [Aa];by_cases hs:1<=seq/\seq<=1000000000-(T.length:Int)+1
  ·rw [Ad hs];simp only [As,Ae];by_cases ht:1<=tx/\tx<=1000000000
   ·rw [Ad ht];simp only [As,Ae,Aa];left;obtain⟨b,q1,q2⟩:=Bw (body:=fun s:List Page×Int=>GA seq tx T s.1 s.2) (fun(o:List Page) i=>(o,i)) T.length (fun i o=>o=(Dg seq tx T).take i) (fun b=>b=Dg seq tx T)
     (fun o i hi ho=>by
      have hx:=Ac hi;have d:o.length<=i:=by rw [ho,AI];omega
      simp only [GA,Bb,Ad hi,Ag,AN,hx,Aa];rw [C6 (by omega) (by omega),Cu,CO (by simp;omega)];simp only [Aa];rw [ad1 (by omega)];refine .inl ⟨_,rfl,?_⟩;have c:(Dg seq tx T)[i]?=some (Page.mk 2 (seq+i) tx i T.length T[i]):=by unfold Dg;rw [J0,hx];rfl
      rw [Eo,c,ho]
      rfl)
     (fun o ho=>⟨o,by simp only [GA,Bb,A3,A8,Ae],by rw [ho,Bc];unfold Dg;rw [L6];exact AB _⟩) (s:=[]) rfl
    have q1':A0 (fun s:List Page×Int=>GA seq tx T s.1 s.2) ([],0)=some b:=q1;rw [q1',q2];exact⟨rfl,by omega,by omega,by omega,ht.1,ht.2⟩
   ·rw [Af ht];exact .inr rfl
  ·rw [Af hs];exact .inr rfl
def Steps:Flash->List BI->Flash->Prop
 |f,[],g=>g=f
 |f,s::ss,g=>Qs f s/\Steps (LP f s) ss g
theorem Zw:∀(f:Flash) (a b:List BI) (g:Flash),Steps f (a++b) g↔∃m,Steps f a m/\Steps m b g
 |f,[],b,g=>⟨fun h=>⟨f,rfl,h⟩,fun⟨m,h1,h2⟩=>by rw [h1]at h2;exact h2⟩
 |f,s::a,b,g=>by
  rw [BB];simp only [Steps,Zw];constructor
  ·rintro⟨h1,m,h2,h3⟩;exact⟨m,⟨h1,h2⟩,h3⟩
  ·rintro⟨m,⟨h1,h2⟩,h3⟩;exact⟨h1,m,h2,h3⟩
theorem Us:∀{f:Flash} {a:List BI} {g:Flash},Cf f->Steps f a g->Cf g
 |f,[],g,hf,h=>by rw [h];exact hf
 |f,s::a,g,hf,h=>Us (zG hf h.1) h.2
theorem pF {f:Flash} {a:List BI} {m:Flash} {s:BI} (h:Steps f a m) (hs:Qs m s):Steps f (a++ [s]) (LP m s):=(Zw f a [s] _).2 ⟨m,h,hs,rfl⟩
theorem iT {f g:Flash} {a:List BI} (hf:Cf f) (h:Steps f a g) (ha:a.length<=1048576):JR f a=some (g,(a.length:Int)):=by
 unfold JR;rw [GL f hf.cap];simp only [Aa];obtain⟨b,h1,h2⟩:=Bw (body:=fun s:Int×List Block=>EF a s.1 s.2) (fun(o:List Block) i=>(i,o)) a.length (fun i o=>Steps f (a.take i) (Flash.mk o)/\Steps (Flash.mk o) (a.drop i) g) (fun b=>b= .inl g.Blocks)
  (fun o i hi hs=>by
   have hx:=Ac hi;obtain⟨s1,s2⟩:=hs;rw [Bs hi]at s2;simp only [EF,Bb,Ad hi,Ag,AN,hx,Aa];have hP:=Us hf s1
   rcases Qz hP a[i]with⟨k1,k2⟩|⟨k1,k2⟩
   ·rw [k2];simp only [Aa,As,Ae];rw [ad1 (by omega)];refine .inl ⟨(LP (Flash.mk o) a[i]).Blocks,rfl,?_,s2.2⟩;rw [A4 hi];exact pF s1 k1
   ·exact absurd s2.1 k1)
  (fun o hs=>⟨.inl o,by simp only [EF,Bb,A3,A8,Ae],by
   have:=hs.2;rw [List.drop_length]at this
   rw [show g=Flash.mk o from this]⟩) (s:=f.Blocks) ⟨rfl,h⟩
 have h1':A0 (fun s:Int×List Block=>EF a s.1 s.2) (0,f.Blocks)=some b:=h1;rw [h1',h2];rfl
def IW:Flash->List BI->List Page->Flash->Prop
 |f,[],[],g=>g=f
 |f,s::ss,p::ps,g=>s.Kind=1/\jG f s.Block s.Leaf s.Text/\Ez s.Text=some (p,true)/\IW (LP f s) ss ps g
 |_,_,_,_=>False
theorem FG:∀{f:Flash} {ss:List BI} {ps:List Page} {g:Flash},IW f ss ps g->Steps f ss g/\ss.length=ps.length
 |f,[],[],g,h=>⟨h,rfl⟩
 |f,s::ss,p::ps,g,h=>⟨⟨.inl ⟨h.1,h.2.1⟩,(FG h.2.2.2).1⟩,by rw [Ax,Ax,(FG h.2.2.2).2]⟩
 |f,[],p::ps,g,h=>h.elim
 |f,s::ss,[],g,h=>h.elim
theorem WF:∀{f:Flash} {ss:List BI} {ps:List Page} {g:Flash} {b l:Int} {t:ByteArray} {p:Page},IW f ss ps g->jG g b l t->Ez t=some (p,true)->IW f (ss++ [BI.mk 1 b l t]) (ps++ [p]) (prog g b l (Leaf.mk 1 t))
 |f,[],[],g,b,l,t,p,h,h1,h2=>by
  have:g=f:=h;subst this;exact⟨rfl,h1,h2,by unfold LP;rfl⟩
 |f,s::ss,q::ps,g,b,l,t,p,h,h1,h2=>⟨h.1,h.2.1,h.2.2.1,WF h.2.2.2 h1 h2⟩
 |f,[],q::ps,g,b,l,t,p,h,h1,h2=>h.elim
 |f,s::ss,[],g,b,l,t,p,h,h1,h2=>h.elim
def C1 (ss:List BI) (ps:List Page):List Ar:=List.zipWith (fun s p=>Ar.mk s.Block s.Leaf p) ss ps
def FE:Int->List Page->Prop
 |_,[]=>True
 |n,p::ps=>n<=p.Seq/\FE (p.Seq+1) ps
theorem WG:∀{f:Flash} {ss:List BI} {ps:List Page} {g:Flash} {r:List Ar} {n:Int},Cf f->SR (L0 0 f.Blocks) r->IW f ss ps g->(∀y∈r,y.Page.Seq<n)->FE n ps->SR (L0 0 g.Blocks) (r++C1 ss ps)
 |f,[],[],g,r,n,hf,a,h,hn,ha=>by
  have:g=f:=h;subst this;unfold C1;simpa using a
 |f,s::ss,p::ps,g,r,n,hf,a,h,hn,ha=>by
  obtain⟨h1,h2,h3,h4⟩:=h;obtain⟨k1,_,A,B,k2,k3,_⟩:=Q8 hf h2;have c:LP f s=prog f s.Block s.Leaf (Leaf.mk 1 s.Text):=by unfold LP;rw [Az h1]
  rw [c]at h4;have b:SR (L0 0 (prog f s.Block s.Leaf (Leaf.mk 1 s.Text)).Blocks) (r++ [Ar.mk s.Block s.Leaf p]):=by
   rw [k3 p (i6 h3)]
   refine SR.add (by rw [<-k2];exact a) fun x hx=>?_
   have:=hn x hx;have:=ha.1;show x.Page.Seq<p.Seq;omega
  have:=WG k1 b h4 (n:=p.Seq+1) (fun y hy=>by
   rw [Al,AA]at hy
   rcases hy with hy|rfl
   ·have:=hn y hy;have:=ha.1;omega
   ·show p.Seq<p.Seq+1;omega) ha.2
  rw [Ap]at this;exact this
 |f,[],q::ps,g,r,n,hf,a,h,hn,ha=>h.elim
 |f,s::ss,[],g,r,n,hf,a,h,hn,ha=>h.elim
theorem QM:∀{f:Flash} {ss:List BI} {ps:List Page} {g:Flash} (k:Nat),IW f ss ps g->∃m,IW f (ss.take k) (ps.take k) m
 |f,[],[],g,k,h=>⟨f,by simp [IW]⟩
 |f,s::ss,p::ps,g,0,h=>⟨f,rfl⟩
 |f,s::ss,p::ps,g,k+1,h=>by
  obtain⟨m,hm⟩:=QM k h.2.2.2;exact⟨m,h.1,h.2.1,h.2.2.1,hm⟩
 |f,[],q::ps,g,k,h=>h.elim
 |f,s::ss,[],g,k,h=>h.elim
theorem vO {f g:Flash} {ss:List BI} {ps:List Page} (hg:Cf g) (h:IW f ss ps g) (hs:ss.length<=1000) (p:Page):
  (∃s g',Ht g ss p=some (g',ss++ [s],true)/\IW f (ss++ [s]) (ps++ [p]) g'/\Cf g'/\IS p/\Q9 g s.Block s.Leaf)\/Ht g ss p=some (g,ss,false):=by
 by_cases hp:IS p
 ·obtain⟨t,t1,t2,t3,t4⟩:=sL hp
  rcases UP hg ss (by omega) p t1 (fun _=>⟨t2,t3⟩)with⟨_,b,l,q1,_,q2⟩|q
  ·left;have hm:jG g b l t:=by
    obtain⟨x,a1,a2,a3,a4⟩:=q1;exact⟨x,a1,a2,a3,a4,t2,t3⟩
   exact⟨_,_,q2,WF h hm t4,(Q8 hg hm).1,hp,q1⟩
  ·exact .inr q
 ·rcases UP hg ss (by omega) p (vR hp) (fun hh=>by cases hh)with⟨hh,_⟩|q
  ·cases hh
  ·exact .inr q
end Go.TI
namespace Go.TI
open Go
theorem VV {f:Flash} (hf:Cf f) (ps:List Page) (rt:Bool) (a:ps.length<=9) (pre:List Page) (ss0:List BI) (g0:Flash) (ok0:Bool) (h0:ok0=true->IW f ss0 pre g0/\Cf g0/\ss0.length<=1):
  ∃ss ok,A0 (fun s:List BI×Bool×Int×List Block=>Et (ps,rt) s.1 s.2.1 s.2.2.1 s.2.2.2) (ss0,ok0,0,g0.Blocks)=some (ss,ok)/\(ok=true->ok0=true/\∃g,IW f ss (pre++ps) g/\Cf g/\∀p∈ps,IS p):=by
 obtain⟨b,h1,h2⟩:=Bw (body:=fun s:List BI×Bool×Int×List Block=>Et (ps,rt) s.1 s.2.1 s.2.2.1 s.2.2.2) (fun(o:List BI×Bool×List Block) i=>(o.1,o.2.1,i,o.2.2)) ps.length
  (fun i o=>o.2.1=true->ok0=true/\IW f o.1 (pre++ps.take i) (Flash.mk o.2.2)/\Cf (Flash.mk o.2.2)/\o.1.length<=i+1/\∀p∈ps.take i,IS p)
  (fun b=>b.2=true->ok0=true/\∃g,IW f b.1 (pre++ps) g/\Cf g/\∀p∈ps,IS p)
  (fun o i hi hs=>by
   obtain⟨ss,ok,bl⟩:=o;have hx:=Ac hi;simp only [Et,Bb,Ad hi,Ag,Aa]
   cases ok with
   |false=>
    simp only [Ae];exact .inr ⟨_,rfl,fun hh=>by cases hh⟩
   |true=>
    obtain⟨k0,k1,k2,k3,k4⟩:=hs rfl;simp only at k1 k2 k3;simp only [Ag,AN,hx,Aa];refine .inl ?_
    rcases vO k2 k1 (by omega) ps[i]with⟨s,g',q1,q2,q3,q4,_⟩|q
    ·rw [q1];simp only [Aa];rw [ad1 (by omega)];refine⟨(ss++ [s],true,g'.Blocks),rfl,fun _=>⟨k0,?_,q3,by simp;omega,fun p hp=>?_⟩⟩
     ·rw [A4 hi,<-Ap];exact q2
     ·rw [A4 hi,Al,AA]at hp
      rcases hp with hp|rfl
      ·exact k4 p hp
      ·exact q4
    ·rw [q];simp only [Aa];rw [ad1 (by omega)]
     exact⟨(ss,false,bl),rfl,fun hh=>by cases hh⟩)
  (fun o hs=>⟨(o.1,o.2.1),by simp only [Et,Bb,A3,A8,Ae,Aa],fun hh=>by
   obtain⟨k0,k1,k2,_,k4⟩:=hs hh;rw [Bg]at k1 k4
   exact⟨k0,_,k1,k2,k4⟩⟩) (s:=(ss0,ok0,g0.Blocks)) (fun hh=>by
    obtain⟨a1,a2,a3⟩:=h0 hh
    exact⟨hh,by rw [Ib,Aw];exact a1,a2,by simpa using a3,fun p hp=>by simp at hp⟩)
 exact⟨b.1,b.2,h1,h2⟩
def E9 (d:AH) (c:Int) (text:ByteArray):List Page:=if L text=[]then []else [Page.mk 1 d.Seq c 0 1 text]
def MU (d:AH) (text:ByteArray):Int:=if L text=[]then d.Seq else d.Seq+1
theorem RU {d:AH} (hf:Cf d.Flash) (h:0<=d.Seq/\d.Seq<=1000000001) (recs:List Dk) (b:recs≠ []) (hr:recs.length<=1000) (c:∀r∈recs,HV r=true) (text:ByteArray):
  Ee d recs text=some ([],false)\/∃steps T g last,recs[recs.length-1]?=some last/\Ee d recs text=some (steps,true)/\1<=T.length/\T.length<=9/\Nc T=G3 recs/\(∀t∈T,(L t).length<=90)/\
   IW d.Flash steps (E9 d last.Chunk text++Dg (MU d text) d.Tx T) g/\Cf g/\∀p∈E9 d last.Chunk text++Dg (MU d text) d.Tx T,IS p:=by
 have i:0<recs.length:=HF.2 b;obtain⟨last,a⟩:∃last,recs[recs.length-1]?=some last:=⟨_,Ac (by omega)⟩;unfold Ee;rw [show(ln recs==0)=false by rw [Di,Cu];omega];simp only [Ae];have first:∃ss0 g0 ok0,(bif(!(seq text (bs [])))then(((gi recs (sb (ln recs) 1)).bind fun x1=>(Ht d.Flash [] (Page.mk 1 d.Seq x1.Chunk 0 1 text)).bind fun v1=>some (v1.2.1,v1.2.2,v1.1.Blocks):Option (List BI×Bool×List Block)).bind fun j2=>some (j2.1,(ad d.Seq 1),j2.2.1,j2.2.2))else(some ([],d.Seq,true,d.Flash.Blocks)):Option (List BI×Int×Bool×List Block))=some (ss0,MU d text,ok0,Flash.Blocks g0)/\(ok0=true->IW d.Flash ss0 (E9 d last.Chunk text) g0/\Cf g0/\ss0.length<=1/\∀p∈E9 d last.Chunk text,IS p):=by
  by_cases ht:L text=[]
  ·have:seq text (bs [])=true:=by rw [Iy,AD];exact If (by rw [ht,Eh])
   rw [this];refine⟨[],d.Flash,true,?_,fun _=>⟨?_,hf,by simp,?_⟩⟩
   ·unfold MU;rw [Az ht];rfl
   ·unfold E9;rw [Az ht];rfl
   ·unfold E9;rw [Az ht];intro p hp;cases hp
  ·have:seq text (bs [])=false:=by
    rw [Iy,AZ];intro e;exact ht (by rw [e,Eh])
   rw [this];simp only [Bk,Ag];rw [Cu,C3 (by omega) (by omega),show(recs.length:Int)-1=((recs.length-1:Nat):Int) by omega,AN,a];simp only [Aa];rw [C6 (by omega) (by omega)];have e1:MU d text=d.Seq+1:=by unfold MU;rw [A5 ht]
   have e2:E9 d last.Chunk text=[Page.mk 1 d.Seq last.Chunk 0 1 text]:=by unfold E9;rw [A5 ht]
   rw [e1,e2]
   rcases vO (f:=d.Flash) (ss:=[]) (ps:=[]) hf rfl (by simp) (Page.mk 1 d.Seq last.Chunk 0 1 text)with⟨s,g',q1,q2,q3,q4,_⟩|q
   ·rw [q1];refine⟨_,g',true,rfl,fun _=>⟨q2,q3,by simp,fun p hp=>?_⟩⟩;rw [AA]at hp;rw [hp];exact q4
   ·rw [q];exact⟨_,d.Flash,false,rfl,fun hh=>by cases hh⟩
 obtain⟨ss0,g0,ok0,e0,h0⟩:=first
 rw [e0];simp only [Aa];obtain⟨T,t1,t2,t3,t4⟩:=tU (MU d text) d.Tx recs hr c
 rcases t4 with⟨t4,t5,t6,t7,t8,t9⟩|t4
 ·rw [t4];simp only [Aa];obtain⟨ss,ok,q1,q2⟩:=VV hf (Dg (MU d text) d.Tx T) true (by unfold Dg;rw [L6];exact t5) (E9 d last.Chunk text) ss0 g0 ok0 (fun hh=>⟨(h0 hh).1,(h0 hh).2.1,(h0 hh).2.2.1⟩);rw [q1];simp only [Aa]
  cases ok with
  |false=>exact .inl rfl
  |true=>
   obtain⟨k0,g,k1,k2,k3⟩:=q2 rfl;refine .inr ⟨ss,T,g,last,a,rfl,t1,t5,t2,t3,k1,k2,fun p hp=>?_⟩
   rcases Al.1 hp with hp|hp
   ·exact(h0 k0).2.2.2 p hp
   ·exact k3 p hp
 ·rw [t4];simp only [Aa];obtain⟨ss,ok,q1,q2⟩:=VV hf [] false (by simp) (E9 d last.Chunk text) ss0 g0 ok0 (fun hh=>⟨(h0 hh).1,(h0 hh).2.1,(h0 hh).2.2.1⟩);rw [q1];simp only [Aa];cases ok<;>exact .inl rfl
end Go.TI
namespace Go.TI
open Go
def KJ (r:List Ar) (c:Int):Option Ar:=(r.filter (Js c)).getLast?
noncomputable def Sb (t:ByteArray):Option ByteArray:=match EE t with
 |some (s,true)=>some s
 |_=>none
noncomputable def Dx (r:List Ar) (c:Int):Option ByteArray:=(KJ r c).bind fun y=>Sb y.Page.Text
theorem R9 {c:Int} {y:Ar}:Js c y=true↔y.Page.Kind=1/\y.Page.Tx=c:=by
 unfold Js;rw [Aq,CV,CV]
theorem R1 {r:List Ar} {c:Int} {y:Ar} (h:KJ r c=some y):y∈r/\y.Page.Kind=1/\y.Page.Tx=c:=by
 have:=List.mem_of_getLast? h;rw [AY,R9]at this;exact this
theorem Mm (r:List Ar) (y:Ar) (c:Int):KJ (r++ [y]) c=if y.Page.Kind=1/\y.Page.Tx=c then some y else KJ r c:=by
 unfold KJ;rw [Bf];by_cases e:y.Page.Kind=1/\y.Page.Tx=c
 ·rw [Az e,Cb (R9.2 e),GZ,O3]
 ·rw [A5 e,Cr (fun hh=>e (R9.1 hh)),GZ,Aw]
theorem sU (r m:List Ar) (h:∀y∈m,y.Page.Kind≠1) (c:Int):KJ (r++m) c=KJ r c:=by
 unfold KJ;rw [Bf,Cw.2 (fun y hy hh=>h y hy (R9.1 hh).1),Aw]
theorem Wq {α:Type} (l:List α) (p:α->Bool) {y:α} (h:l.getLast? =some y) (hp:p y=true):(l.filter p).getLast? =some y:=by
 rcases G7 l with e|⟨m,x,e⟩
 ·rw [e]at h;cases h
 ·rw [G8]at e;rw [e,O3]at h
  injection h with h
  subst h;rw [e,Bf,Cb hp,GZ,O3]
theorem jD {r:List Ar} {c:Int} {y:Ar} (p:Ar->Bool) (h:KJ r c=some y) (hp:p y=true):KJ (r.filter p) c=some y:=by
 unfold KJ at h⊢;rw [Gw];have:r.filter (fun a=>Js c a&&p a)=(r.filter (Js c)).filter p:=by
  rw [Gw];congr 1;funext a;exact Bool.and_comm _ _
 rw [this];exact Wq _ p h hp
theorem VY {r:List Ar} {c:Int} {o:Option Nat} (h:O9 c r r.length o):KJ r c=o.bind fun j=>r[j]? :=by
 cases o with
 |none=>
  unfold KJ;have:r.filter (Js c)=[]:=by
   rw [Cw];intro y hy;obtain⟨j,hj,rfl⟩:=AK hy;have:=h j r[j] hj (Ac hj);rw [this];simp
  rw [this];rfl
 |some j=>
  obtain⟨h1,⟨y,h2,h3⟩,h4⟩:=h;simp only [Aa,h2];unfold KJ;obtain⟨e1,e2⟩:=I6 h2;rw [e1,Bf,Cb h3];have:(r.drop (j+1)).filter (Js c)=[]:=by
   rw [Cw];intro z hz;obtain⟨k,hk,rfl⟩:=AK hz;rw [B6]at hk;rw [QP];have:=h4 (j+1+k) _ (by omega) (by omega) (Ac (by omega));rw [this];simp
  rw [this,O3]
theorem nE {r:List Ar} (hr:r.length<=1048576) (c:Int):∃y ok,IF r c=some (y,ok)/\KJ r c=(if ok=true then some y else none):=by
 obtain⟨o,h1,h2⟩:=YZ r hr c;have h3:=VY h2
 cases o with
 |none=>exact⟨_,false,h1,h3⟩
 |some j=>
  obtain⟨_,⟨y,k1,_⟩,_⟩:=h2;refine⟨y,true,?_,by rw [h3];simp only [Aa,k1];rfl⟩;rw [h1];simp only [Kc,k1,Bx];rfl
theorem Vp {r:List Ar} (hr:I8 r) (c:Int):∃u ok,HH r c=some (u,ok)/\Dx r c=(if ok=true then some u else none):=by
 obtain⟨y,ok,h1,h2⟩:=nE hr.len c;unfold HH Dx;rw [h1,h2]
 cases ok with
 |false=>exact⟨_,_,rfl,rfl⟩
 |true=>
  have hy:=(R1 (by rw [h2];rfl)).1;obtain⟨u,ok2,k1,_,_⟩:=Qo y.Page.Text (by have:=hr.text y hy;omega);simp only [Aa,As,Ae,Cg];rw [k1];unfold Sb;rw [k1]
  cases ok2 with
  |false=>exact⟨_,_,rfl,rfl⟩
  |true=>exact⟨_,_,rfl,rfl⟩
structure Iu (r:List Ar):Prop where
 pages:I8 r
 inc:r.Pairwise fun x y=>x.Page.Seq<y.Page.Seq
 mu:lC r
def FB (l:Vs) (c:Int):Prop:=0<c/\∃p∈l,c∈p.2
structure Gs (r:List Ar) (P:Int->Prop):Prop where
 data:∀c,P c->∃s,Dx r c=some s
 dist:∀c c',P c->P c'->Dx r c=Dx r c'->c=c'
theorem Gs.mono {r:List Ar} {P Q:Int->Prop} (h:Gs r P) (hq:∀c,Q c->P c):Gs r Q:=⟨fun c hc=>h.data c (hq c hc),fun c c' hc hc'=>h.dist c c' (hq c hc) (hq c' hc')⟩
theorem Gs.congr {r r':List Ar} {P:Int->Prop} (h:Gs r P) (he:∀c,P c->Dx r' c=Dx r c):Gs r' P:=⟨fun c hc=>by rw [he c hc];exact h.data c hc,fun c c' hc hc' e=>h.dist c c' hc hc' (by rw [<-he c hc,<-he c' hc'];exact e)⟩
theorem Gs.metas {r m:List Ar} {P:Int->Prop} (h:Gs r P) (hm:∀y∈m,y.Page.Kind≠1):Gs (r++m) P:=h.congr fun c _=>by unfold Dx;rw [sU r m hm]
theorem lH {r:List Ar} {P:Int->Prop} (h:Gs r P) {y:Ar} (hy:¬P y.Page.Tx):Gs (r++ [y]) P:=h.congr fun c hc=>by
 unfold Dx;rw [Mm,A5 (fun hh=>hy (by rw [hh.2];exact hc))]
theorem lI {r:List Ar} {P:Int->Prop} (h:Gs r P) {y:Ar} (hy:Sb y.Page.Text=Dx r y.Page.Tx):Gs (r++ [y]) P:=h.congr fun c hc=>by
 by_cases e:y.Page.Kind=1/\y.Page.Tx=c
 ·have:Dx (r++ [y]) c=Sb y.Page.Text:=by unfold Dx;rw [Mm,Az e];rfl
  rw [this,hy,e.2]
 ·unfold Dx;rw [Mm,A5 e]
theorem uD {r:List Ar} {P:Int->Prop} (h:Gs r P) {y:Ar} {s:ByteArray} (hk:y.Page.Kind=1) (hn:¬P y.Page.Tx) (ht:Sb y.Page.Text=some s) (hs:∀c,P c->Dx r c≠some s):Gs (r++ [y]) (fun c=>P c\/c=y.Page.Tx):=by
 have b:Dx (r++ [y]) y.Page.Tx=some s:=by unfold Dx;rw [Mm,Az ⟨hk,rfl⟩];exact ht
 have a:∀c,P c->Dx (r++ [y]) c=Dx r c:=fun c hc=>by unfold Dx;rw [Mm,A5 (fun hh=>hn (by rw [hh.2];exact hc))]
 refine⟨fun c hc=>?_,fun c c' hc hc' e=>?_⟩
 ·rcases hc with hc|rfl
  ·rw [a c hc];exact h.data c hc
  ·exact⟨s,b⟩
 ·rcases hc with hc|rfl<;>rcases hc' with hc'|rfl
  ·exact h.dist c c' hc hc' (by rw [<-a c hc,<-a c' hc'];exact e)
  ·rw [a c hc,b]at e;exact absurd e (hs c hc)
  ·rw [a c' hc',b]at e;exact absurd e.symm (hs c' hc')
  ·rfl
theorem Iu.filter {r:List Ar} (h:Iu r) (p:Ar->Bool):Iu (r.filter p):=by
 refine⟨⟨by have:=CI p r;have:=h.pages.len;omega,fun y hy=>h.pages.text y (AY.1 hy).1,fun y hy=>h.pages.seq y (AY.1 hy).1,fun y hy=>h.pages.tx y (AY.1 hy).1,fun y hy=>h.pages.cnt y (AY.1 hy).1,fun y hy=>h.pages.part y (AY.1 hy).1⟩,h.inc.filter _,⟨fun y hy z hz=>h.mu.uniq y (AY.1 hy).1 z (AY.1 hz).1⟩⟩
theorem Iu.add {r:List Ar} (h:Iu r) {y:Ar} (hl:r.length<=1000000) (hb:IS y.Page) (hs:ER r<=y.Page.Seq) (hm:y.Page.Kind=2->∀z∈r,z.Page.Kind=2->z.Page.Tx=y.Page.Tx->z.Page.Part≠y.Page.Part):Iu (r++ [y]):=by
 obtain⟨b1,b2,b3,b4,b5,b6,b7⟩:=hb
 have all:∀{P:Ar->Prop},(∀z∈r,P z)->P y->∀z∈r++ [y],P z:=fun h1 h2 z hz=>by
  rw [Al,AA]at hz
  rcases hz with hz|rfl
  ·exact h1 z hz
  ·exact h2
 refine⟨⟨by simp;omega,all h.pages.text b6,all h.pages.seq b2,all h.pages.tx b3,all h.pages.cnt b4,all h.pages.part b5⟩,?_,⟨fun u hu v hv k1 k2 e1 e2=>?_⟩⟩
 ·rw [Bv];refine⟨h.inc,LJ _ _,fun u hu v hv=>?_⟩;rw [AA]at hv;rw [hv];have:=(Si r).1 u hu;omega
 ·rw [Al,AA]at hu hv
  rcases hu with hu|rfl<;>rcases hv with hv|rfl
  ·exact h.mu.uniq u hu v hv k1 k2 e1 e2
  ·exact absurd e2 (hm k2 u hu k1 e1)
  ·exact absurd e2.symm (hm k1 v hv k2 e1.symm)
  ·rfl
theorem YF {r:List Ar} {y:Ar} (h:ER r<=y.Page.Seq):ER (r++ [y])=y.Page.Seq+1:=by rw [ZB,Az h]
theorem Iu.metas {r:List Ar} (h:Iu r) {t:Int} (ht:∀y∈r,y.Page.Kind=2->y.Page.Tx<t):∀(m:List Ar) (k:Nat),r.length+m.length<=1000000->(∀(i:Nat) y,m[i]?=some y->y.Page.Kind=2/\y.Page.Tx=t/\y.Page.Part=i/\y.Page.Seq=ER r+i/\IS y.Page)->k<=m.length->Iu (r++m.take k)/\ER (r++m.take k)=ER r+k
 |m,0,_,_,_=>by simpa using h
 |m,k+1,hl,hm,hk=>by
  obtain⟨ih1,ih2⟩:=Iu.metas h ht m k hl hm (by omega);have hx:m[k]?=some m[k]:=Ac (by omega);obtain⟨k1,k2,k3,k4,k5⟩:=hm k _ hx;rw [A4 (by omega),<-Ap];refine⟨Iu.add ih1 (by simp;omega) k5 (by rw [ih2,k4];omega) (fun _ z hz a b=>?_),?_⟩
  ·rcases Al.1 hz with hz|hz
   ·have:=ht z hz a;omega
   ·obtain⟨j,hj,rfl⟩:=AK hz;rw [AI]at hj;rw [IZ];obtain⟨_,_,q3,_⟩:=hm j _ (Ac (by omega));omega
  ·rw [YF (by rw [ih2,k4];omega),k4];omega
end Go.TI
namespace Go.TI
open Go
theorem qL (i:Int):∀(k:Int) (l:List Leaf),(Te i k l).length<=l.length
 |_,[]=>AB _
 |k,x::l=>by
  rw [Te,Ai,Ax];have:=qL i (k+1) l;have:(pg i k x).length<=1:=by
   unfold pg;split
   ·split<;>simp
   ·simp
  omega
theorem qM:∀(i:Int) (l:List Block),(L0 i l).length<=nl l
 |_,[]=>AB _
 |i,b::l=>by
  rw [L0,Ai];have:=qM (i+1) l;have:=qL i 0 b.Leaves;unfold nl at*;rw [BT,KZ];omega
theorem ABA {f:Flash} {r:List Ar} (hf:Cf f) (h:SR (L0 0 f.Blocks) r):r.length<=40:=by
 have h1:=qM 0 f.Blocks;have h2:=hf.few;have h3:=h.2.len;omega
theorem Kb:∀{ss:List BI} {ps:List Page} {i:Nat} {y:Ar},(C1 ss ps)[i]?=some y->ps[i]?=some y.Page
 |[],_,i,y,h=>by simp [C1]at h
 |s::ss,[],i,y,h=>by simp [C1]at h
 |s::ss,p::ps,0,y,h=>by
  simp only [C1,List.zipWith_cons_cons,Du,An]at h;rw [<-h];rfl
 |s::ss,p::ps,i+1,y,h=>by
  simp only [C1,List.zipWith_cons_cons,List.getElem?_cons_succ]at h⊢;exact Kb h
theorem QH {ss:List BI} {ps:List Page} (h:ss.length=ps.length):(C1 ss ps).length=ps.length:=by unfold C1;rw [List.length_zipWith];omega
theorem Tj (ss:List BI) (ps:List Page) (k:Nat):C1 (ss.take k) (ps.take k)=(C1 ss ps).take k:=by unfold C1;rw [List.take_zipWith]
theorem kN:∀(T:List ByteArray),(∀t∈T,(L t).length<=90)->(Nc T).length<=90*T.length
 |[],_=>by simp [Nc]
 |t::T,h=>by
  have:=kN T (fun x hx=>h x (by simp [hx]));have:=h t (by simp);simp only [Nc,Hd,Ai,Ax]at*;omega
theorem Zc {r1:List Ar} (h:Iu r1) (hl:r1.length<=1000) {T:List ByteArray} {recs:List Dk} (f:1<=T.length) (g:T.length<=9) (b:∀t∈T,(L t).length<=90) (c:Nc T=G3 recs) (j:∀r∈recs,HV r=true)
  {m:List Ar} (hm:∀(i:Nat) y,m[i]?=some y->(Dg (ER r1) (Gx r1) T)[i]?=some y.Page) (n:m.length=T.length) (l:∀p∈Dg (ER r1) (Gx r1) T,IS p) (k:Nat) (hk:k<=T.length):
  Iu (r1++m.take k)/\(∀y∈m.take k,y.Page.Kind≠1)/\(k<T.length->B4 (r1++m.take k)=B4 r1)/\(k=T.length->∃q,B4 (r1++m.take k)=B4 r1++ [Tx.mk (Gx r1) q recs]):=by
 have d:∀(i:Nat) y,m[i]?=some y->∃t,T[i]?=some t/\y.Page=Page.mk 2 (ER r1+i) (Gx r1) i T.length t:=by
  intro i y hy;have:=hm i y hy;unfold Dg at this;rw [J0]at this;obtain⟨t,h1,h2⟩:=AU.1 this;exact⟨t,h1,h2.symm⟩
 have a:=uI r1
 obtain⟨c1,_⟩:=Iu.metas h a.1 m k (by omega) (fun i y hy=>by
  obtain⟨t,_,h2⟩:=d i y hy;have hb:=l y.Page (AM (hm i y hy));rw [h2]at hb⊢
  exact⟨rfl,rfl,rfl,rfl,hb⟩) (by omega)
 have hN:Zy (m.take k) (Gx r1) T.length T:=by
  refine⟨by rw [AI];omega,⟨f,g⟩,rfl,fun i y hy=>?_⟩;have e:=(Aj.1 hy).1;rw [AI]at e;rw [List.getElem?_take_of_lt (by omega)]at hy;obtain⟨t,h1,h2⟩:=d i y hy;rw [h2];exact⟨rfl,rfl,rfl,rfl,h1⟩
 obtain⟨g1,g2⟩:=oS r1 (fun y hy=>(h.pages.tx y hy).1) a.1 a.2.1 hN;refine⟨c1,fun y hy=>by rw [(hN.all hy).1];omega,fun hh=>g1 (by rw [AI];omega),fun hh=>g2 (by rw [AI];omega) recs ?_⟩;rw [c];refine nQ j ?_;have:=kN T b;rw [c]at this;omega
structure La (d:AH) (r:List Ar):Prop where
 dev:Lb d r
 core:Iu r
 data:Gs r (FB (BW d.Store))
theorem La.few {d:AH} {r:List Ar} (h:La d r):r.length<=40:=ABA h.dev.fl h.dev.sr
theorem N6 {g:Flash} {r:List Ar} (hg:Cf g) (a:SR (L0 0 g.Blocks) r):∃d,E4 g=some (d,true)/\Lb d r/\d.Flash=g:=by
 obtain⟨d,r',h1,h2,h3⟩:=Rq hg;have:r'=r:=by
  have h4:=h2.sr;rw [h3]at h4;exact h4.uniq a
 subst this;exact⟨d,h1,h2,h3⟩
theorem Qm (seq tx:Int) (T:List ByteArray):FE seq (Dg seq tx T):=by
 have key:∀(l:List ByteArray) (i:Nat) (n:Int),n<=seq+i->FE n (l.mapIdx fun j t=>Page.mk 2 (seq+(i+j:Nat)) tx (i+j:Nat) T.length t):=by
  intro l
  induction l with
  |nil=>intro i n _;trivial
  |cons x l ih=>
   intro i n hn;rw [List.mapIdx_cons];refine⟨by simpa using hn,?_⟩;have:=ih (i+1) (seq+(i:Int)+1) (by omega);simp only [Fl]
   have e:(fun j t=>Page.mk 2 (seq+((i+1+j:Nat):Int)) tx ((i+1+j:Nat):Int) T.length t)=fun j (t:ByteArray)=>Page.mk 2 (seq+((i+(j+1):Nat):Int)) tx ((i+(j+1):Nat):Int) T.length t:=by
    funext j t;rw [show i+1+j=i+(j+1) by omega]
   rw [e]at this;exact this
 have:=key T 0 seq (by omega);unfold Dg;simpa using this
theorem o7 {d:AH} (c:Int) (text:ByteArray) (tx:Int) (T:List ByteArray):FE d.Seq (E9 d c text++Dg (MU d text) tx T):=by
 unfold E9 MU;by_cases e:L text=[]
 ·rw [Az e,Az e,A6];exact Qm _ _ _
 ·rw [A5 e,A5 e];exact⟨Il _,Qm _ _ _⟩
theorem i7 (r:List Ar) (ss:List BI) (ps:List Page) (k:Nat):∀y∈r++(C1 ss ps).take k,y∈r\/y.Page∈ps:=by
 intro y hy
 rcases Al.1 hy with hy|hy
 ·exact .inl hy
 ·obtain⟨i,hi,rfl⟩:=AK (List.mem_of_mem_take hy);exact .inr (AM (Kb (Ac hi)))
theorem Y3 {d:AH} {r:List Ar} (h:La d r) {recs:List Dk} (u:∀r∈recs,HV r=true) {text:ByteArray} {last:Dk} {steps:List BI} {T:List ByteArray} {g:Flash} (v:1<=T.length) (w:T.length<=9) (x:Nc T=G3 recs) (o:∀t∈T,(L t).length<=90)
  (hp:IW d.Flash steps (E9 d last.Chunk text++Dg (MU d text) d.Tx T) g) (f:∀p∈E9 d last.Chunk text++Dg (MU d text) d.Tx T,IS p) (z:L text≠ []->¬FB (BW d.Store) last.Chunk) (k:Nat) (hk:k<=steps.length):
  ∃m d' r',Steps d.Flash (steps.take k) m/\Cf m/\E4 m=some (d',true)/\Lb d' r'/\d'.Flash=m/\(∀y∈r',y∈r\/y.Page∈E9 d last.Chunk text++Dg (MU d text) d.Tx T)/\Iu r'/\Gs r' (FB (BW d.Store))/\
   (k<steps.length->B4 r'=B4 r)/\(k=steps.length->(∃q,B4 r'=B4 r++ [Tx.mk d.Tx q recs])/\∀s,Sb text=some s->L text≠ []->(∀c,FB (BW d.Store) c->Dx r c≠some s)->Gs r' (fun c=>FB (BW d.Store) c\/c=last.Chunk)):=by
 obtain⟨a5,a⟩:=FG hp;obtain⟨m,hm⟩:=QM k hp;obtain⟨h0,_⟩:=FG hm;have h1:=Us h.dev.fl h0;have a0:=h.few
 have h2:∀y∈r,y.Page.Seq<d.Seq:=fun y hy=>by rw [h.dev.seq];exact(Si r).1 y hy
 have h3:=o7 (d:=d) last.Chunk text d.Tx T;have ascT:∀(ps:List Page) (n:Int) (k:Nat),FE n ps->FE n (ps.take k):=by
  intro ps
  induction ps with
  |nil=>intro n k _;simp [FE]
  |cons p ps ih=>
   intro n k ha
   cases k with
   |zero=>trivial
   |succ k=>exact⟨ha.1,ih _ k ha.2⟩
 have h4:=WG h.dev.fl h.dev.sr hm h2 (ascT _ _ k h3);rw [Tj]at h4;obtain⟨d',u1,u2,u3⟩:=N6 h1 h4;refine⟨m,d',r++(C1 steps (E9 d last.Chunk text++Dg (MU d text) d.Tx T)).take k,h0,h1,u1,u2,u3,i7 _ _ _ _,?_⟩;have l:(Dg (MU d text) d.Tx T).length=T.length:=by unfold Dg;rw [L6]
 have j:=QH a;by_cases e:L text=[]
 ·
  have e1:E9 d last.Chunk text=[]:=by unfold E9;rw [Az e]
  have e2:MU d text=d.Seq:=by unfold MU;rw [Az e]
  rw [e1,e2,A6]at j a f⊢;rw [e2]at l;rw [h.dev.seq,h.dev.tx]at j a f l⊢;obtain⟨a1,a2,a3,a4⟩:=Zc h.core (by omega) v w o x u (m:=C1 steps (Dg (ER r) (Gx r) T)) (fun i y hy=>Kb hy) (by omega) f k (by omega);exact⟨a1,h.data.metas a2,fun hh=>a3 (by omega),fun hh=>⟨a4 (by omega),fun s _ h6=>absurd e h6⟩⟩
 ·have e1:E9 d last.Chunk text=[Page.mk 1 d.Seq last.Chunk 0 1 text]:=by unfold E9;rw [A5 e]
  have e2:MU d text=d.Seq+1:=by unfold MU;rw [A5 e]
  rw [e1,e2]at j a f⊢;rw [e2]at l;rw [Cd]at j a f⊢;rw [Ax]at a j
  match hsteps:steps,a with
  |[],a=>simp at a
  |s0::ss,a=>
   have ef:C1 (s0::ss) (Page.mk 1 d.Seq last.Chunk 0 1 text::Dg (d.Seq+1) d.Tx T)=Ar.mk s0.Block s0.Leaf (Page.mk 1 d.Seq last.Chunk 0 1 text)::C1 ss (Dg (d.Seq+1) d.Tx T):=rfl;rw [ef]
   cases k with
   |zero=>
    rw [Ib,Aw];exact⟨h.core,h.data,fun _=>rfl,fun hh=>by simp at hh⟩
   |succ k=>
    rw [KO];generalize h7:Ar.mk s0.Block s0.Leaf (Page.mk 1 d.Seq last.Chunk 0 1 text)=y0;have b:y0.Page=Page.mk 1 d.Seq last.Chunk 0 1 text:=by rw [<-h7]
    have c1:Iu (r++ [y0]):=Iu.add h.core (by omega) (by rw [b];exact f _ (by simp)) (by rw [b,h.dev.seq];exact Il _) (fun hh=>by rw [b]at hh;simp at hh);have g1:B4 (r++ [y0])=B4 r:=Th r (by rw [b];simp);have s1:ER (r++ [y0])=d.Seq+1:=by rw [YF (by rw [b,h.dev.seq];exact Il _),b]
    have t1:Gx (r++ [y0])=d.Tx:=by rw [Z5,A5 (by rw [b];simp),h.dev.tx]
    have h5:∀p∈Dg (d.Seq+1) d.Tx T,IS p:=fun p hp=>f p (by simp [hp])
    have h8:(C1 ss (Dg (d.Seq+1) d.Tx T)).length=T.length:=by rw [QH (by simp at a;omega),l]
    rw [List.append_cons];obtain⟨a1,a2,a3,a4⟩:=Zc c1 (by simp;omega) v w o x u (m:=C1 ss (Dg (d.Seq+1) d.Tx T)) (by rw [s1,t1];exact fun i y hy=>Kb hy) h8 (by rw [s1,t1];exact h5) k (by simp at hk a;omega);have dz:Gs (r++ [y0]) (FB (BW d.Store)):=lH h.data (by rw [b];exact z e);rw [g1,t1]at a4;rw [g1]at a3;have a6:ss.length=T.length:=by simp at a;omega
    refine⟨a1,dz.metas a2,fun hh=>a3 (by simp at hh;omega),fun hh=>⟨a4 (by simp at hh;omega),fun s hs _ h9=>?_⟩⟩;have:=uD h.data (y:=y0) (s:=s) (by rw [b]) (by rw [b];exact z e) (by rw [b];exact hs) h9;rw [b]at this;exact this.metas a2
end Go.TI
