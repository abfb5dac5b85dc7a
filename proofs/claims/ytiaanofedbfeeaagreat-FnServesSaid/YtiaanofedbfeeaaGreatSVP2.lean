/- What is served is what is planned. No condition; no program is in sight. -/
import Derived.Test.YtiaanofedbfeeaaGreatSVP1
set_option linter.unusedVariables false
set_option linter.unusedSimpArgs false
namespace Go.TI
open Go
noncomputable def fO (t:ByteArray):Option Page:=match F9 t with
 |some (p,true)=>some p
 |_=>none
noncomputable def pg (i k:Int) (x:Leaf):List Aq:=if x.Is=1 then(match fO x.Text with
 |some p=>[Aq.mk i k p]
 |none=>[])else []
noncomputable def XE (i:Int):Int->List Leaf->List Aq
 |_,[]=>[]
 |k,x::l=>pg i k x++XE i (k+1) l
noncomputable def KE:Int->List Block->List Aq
 |_,[]=>[]
 |i,b::l=>XE i 0 b.Leaves++KE (i+1) l
theorem Y8 (i:Int):∀(k:Int) (l m:List Leaf),XE i k (l++m)=XE i k l++XE i (k+l.length) m
 |k,[],m=>by simp[XE]
 |k,x::l,m=>by
  rw[B4,XE,Y8 i (k+1) l m,XE,Ax,A7];congr 3;omega
theorem Ta:∀(i:Int) (l m:List Block),KE i (l++m)=KE i l++KE (i+l.length) m
 |i,[],m=>by simp[KE]
 |i,x::l,m=>by
  rw[B4,KE,Ta (i+1) l m,KE,Ax,A7];congr 3;omega
variable {f g:Flash} {r r' m:List Aq} {t:Int} {y:Aq} {α β:Type} {b:Block} {k n i:Nat} {p:Page} {d:AA} {texts:List ByteArray} {x:Leaf} {s:Bc} {a:List Bc} {l:List α}
theorem ADi {i k:Int} (h:y∈pg i k x):y.Block=i/\y.Leaf=k/\x.Is=1/\fO x.Text=some y.Page:=by
 unfold pg at h
 grind
theorem jJ {i:Int}:∀{k:Int} {l:List Leaf} {y:Aq},y∈XE i k l->y.Block=i/\k<=y.Leaf/\y.Leaf<k+l.length
 |k,[],y,h=>by cases h
 |k,x::l,y,h=>by
  rw[XE,Ak]at h;rw[A7]
  rcases h with h|h
  ·obtain⟨h1,h2,_⟩:=ADi h;omega
  obtain⟨h1,h2,h3⟩:=jJ h;omega
theorem jK:∀{i:Int} {l:List Block} {y:Aq},y∈KE i l->i<=y.Block/\y.Block<i+l.length
 |i,[],y,h=>by cases h
 |i,x::l,y,h=>by
  rw[KE,Ak]at h;rw[A7]
  rcases h with h|h
  ·obtain⟨h1,_⟩:=jJ h;omega
  obtain⟨h1,h2⟩:=jK h;omega
theorem JO {x:α} (h:l[k]?=some x):l=l.take k++x::l.drop (k+1)/\(l.take k).length=k:=by
 have hk:=(Ag.1 h).1;have h2:=AS hk;rw[(Ag.1 h).2]at h2;exact⟨by rw[<-h2,Ch],by grind⟩
theorem ZY {x y:α} (h:l[k]?=some x):l.set k y=l.take k++y::l.drop (k+1):=by
 have hk:=(Ag.1 h).1;exact List.set_eq_take_append_cons_drop.trans<|Az hk
theorem qT {l:List Block} (hb:l[i]?=some b) (hx:b.Leaves[k]?=some x):∃A B,KE 0 l=A++pg i k x++B/\∀bd w y,KE 0 (l.set i (Block.mk bd w (b.Leaves.set k y)))=A++pg i k y++B:=by
 obtain⟨h1,h2⟩:=JO hb;obtain⟨h3,h4⟩:=JO hx;refine⟨KE 0 (l.take i)++XE i 0 (b.Leaves.take k),XE i ((k:Int)+1) (b.Leaves.drop<|k+1)++KE ((i:Int)+1) (l.drop<|i+1),?_,λbd w y=>?_⟩
 ·conv=>lhs;rw[h1]
  rw[Ta,h2,KE,Yw]
  conv=>lhs;rw[h3]
  rw[Y8,h4,XE,Yw]
  grind
 rw[ZY hb,Ta,h2,KE,Yw,ZY hx,Y8,h4,XE,Yw]
 grind
theorem nE {l:List Block} {b':Block} (hb:l[i]?=some b) (h0:XE i 0 b'.Leaves=[]):KE 0 (l.set i b')=(KE 0 l).filter λy=>y.Block !=(i:Int):=by
 obtain⟨h1,h2⟩:=JO hb;rw[ZY hb]
 conv=>rhs;rw[h1]
 rw[Ta,Ta,h2,KE,KE,Yw,h0,AN,AN];have e1:(KE 0<|l.take i).filter (λy=>y.Block !=(i:Int))=KE 0 (l.take i):=by
  rw[GH];intro y hy;have:=(jK hy).2
  grind
 have e2:(XE i 0 b.Leaves).filter (λy=>y.Block !=(i:Int))=[]:=by
  rw[Bq];intro y hy;have:=(jJ hy).1;simp[this]
 have e3:(KE ((i:Int)+1)<|l.drop<|i+1).filter (λy=>y.Block !=(i:Int))=KE ((i:Int)+1) (l.drop<|i+1):=by
  rw[GH];intro y hy;have:=(jK hy).1;simp;omega
 rw[e1,e2,e3]
def lfP (x:Leaf):Prop:=(x.Is=0/\L x.Text=[])\/(x.Is=1/\1<=(L x.Text).length/\(L x.Text).length<=120)\/(x.Is=2/\(L x.Text).length<=120)
def yE (l:List Leaf):Prop:=∀(k:Nat) x y,l[k]?=some x->l[k+1]?=some y->x.Is=0->y.Is=0
structure Lh (b:Block):Prop where
 four:b.Leaves.length=4
 wear:0<=b.Wear/\b.Wear<=1000000000
 leaf:∀x∈b.Leaves,lfP x
 turn:yE b.Leaves
structure BD (f:Flash):Prop where
 n:3<=f.Blocks.length/\f.Blocks.length<=10
 blk:∀b∈f.Blocks,Lh b
theorem AAm (x:Leaf):∃v,NA x=some v/\(v=true↔lfP x):=by
 unfold NA lfP;by_cases h0:x.Is=0
 ·rw[show(x.Is==0)=true by simpa using h0];refine⟨_,rfl,?_⟩;rw[Jq,A6];constructor
  ·intro h;exact .inl ⟨h0,by rw[h];rfl⟩
  rintro(h|h|h)
  ·exact Lg (by rw[h.2];rfl)
  ·omega
  omega
 rw[show(x.Is==0)=false by simpa using h0];simp only[Ac];by_cases h1:x.Is=1
 ·rw[show(x.Is==1)=true by simpa using h1,EP,B8];refine⟨_,rfl,?_⟩
  grind
 rw[show(x.Is==1)=false by simpa using h1];simp only[Ac];by_cases h2:x.Is=2
 ·rw[show(x.Is==2)=true by simpa using h2,B8]
  grind
 rw[show(x.Is==2)=false by simpa using h2]
 grind
theorem pK (f:Flash) (h:JR f):∃v,Ge f=some v/\(v=true↔BD f):=by
 unfold Ge;obtain⟨r,h1,h2⟩:=AP (body:=λs:Int=>EG f s) (λ(_:Unit) i=>i) f.Blocks.length (λi _=>∀j b,j<i->f.Blocks[j]?=some b->Lh b) (λr=>(r= .inr false/\¬∀b∈f.Blocks,Lh b)\/r= .inl ()/\∀b∈f.Blocks,Lh b)
  (λ_ i hi hs=>by
   have hx:=Ab hi;have hm:f.Blocks[i]∈f.Blocks:=A5 hi;have m:=h.2 _ hm;have o:=h.1;simp only[EG,Ev hi,Aw,hx,Aa];by_cases h4:f.Blocks[i].Leaves.length=4
   ·rw[show(ln f.Blocks[i].Leaves !=4)=false by simp[ln,h4]];simp only[Ac];rw[EP];simp only[Aa];by_cases hw:0<=f.Blocks[i].Wear/\f.Blocks[i].Wear<=1000000000
    ·rw[Ad hw];simp only[Ah,Ac];obtain⟨q,q1,q2⟩:=AP (body:=λs:Int=>EF f.Blocks[i] s) (λ(_:Unit) i=>i) f.Blocks[i].Leaves.length
      (λk _=>(∀j x,j<k->f.Blocks[i].Leaves[j]?=some x->lfP x)/\∀(j:Nat) x y,j+1<k->f.Blocks[i].Leaves[j]?=some x->f.Blocks[i].Leaves[j+1]?=some y->x.Is=0->y.Is=0)
      (λr=>(r= .inr (.inr<|.inr false)/\¬((∀x∈f.Blocks[i].Leaves,lfP x)/\yE f.Blocks[i].Leaves))\/r= .inl ()/\(∀x∈f.Blocks[i].Leaves,lfP x)/\yE f.Blocks[i].Leaves)
      (λ_ k hk c=>by
       have g:=Ab hk;simp only[EF,Ev hk,Aw,g,Aa];obtain⟨v,v1,v2⟩:=AAm f.Blocks[i].Leaves[k];rw[v1];simp only[Aa]
       cases hv:v with
       |false=>
        refine .inr ⟨_,rfl,.inl ⟨rfl,λhh=>?_⟩⟩
        grind
       |true=>
        have l:=v2.1 hv;simp only[Ah,Ac];by_cases p:k=0
        ·rw[Af<|by omega];simp only[Ac,Aa];rw[ad1];refine .inl ⟨(),rfl,λj x hj a=>?_,λj x y hj=>by omega⟩
         grind
        rw[Ad<|by omega];simp only[Ae];rw[Cm,show(k:Int)-1=((k-1:Nat):Int) by omega,Aw,Ab<|by omega];simp only[Aa];have good:(f.Blocks[i].Leaves[k-1].Is=0->f.Blocks[i].Leaves[k].Is=0)->(∀j x,j<k+1->f.Blocks[i].Leaves[j]?=some x->lfP x)/\∀(j:Nat) x y,j+1<k+1->f.Blocks[i].Leaves[j]?=some x->f.Blocks[i].Leaves[j+1]?=some y->x.Is=0->y.Is=0:=by
         intro hg;refine⟨λj x hj a=>?_,λj x y hj a d h0=>?_⟩
         ·grind
         by_cases e:j+1=k
         ·obtain rfl:j=k-1:=by omega
          grind
         grind
        cases e0:(f.Blocks[i].Leaves[k-1].Is==0)with
        |false=>
         simp only[Ac,Aa];rw[ad1];exact .inl ⟨(),rfl,good λhh=>by grind⟩
        |true=>
         simp only[Ae,Aa]
         cases e1:(f.Blocks[i].Leaves[k].Is !=0)with
         |false=>
          simp only[Ac];rw[ad1];exact .inl ⟨(),rfl,good λ_=>by simpa using e1⟩
         |true=>
          refine .inr ⟨_,rfl,.inl ⟨rfl,λhh=>?_⟩⟩;have:=hh.2 (k-1) _ _ (Ab<|by omega) (by rw[show k-1+1=k by omega];exact g)<|by simpa using e0
          simp[this]at e1)
      (λ_ c=>⟨_,by simp only[EF,DT],.inr ⟨rfl,λx a=>by
       obtain⟨j,hj,rfl⟩:=AC a
       exact c.1 j _ hj<|Ab hj,λj x y a d=>c.2 j x y (Ag.1 d).1 a d⟩⟩) (s:=()) ⟨λj x hj=>by omega,λj x y hj=>by omega⟩
     rw[q1]
     rcases q2 with⟨rfl,q2⟩|⟨rfl,q2,q3⟩
     ·exact .inr ⟨_,rfl,.inl ⟨rfl,λhh=>q2 ⟨(hh _ hm).leaf,(hh _ hm).turn⟩⟩⟩
     simp only[Aa,Bw];rw[ad1];refine .inl ⟨(),rfl,λj b hj hb=>?_⟩;by_cases e:j=i
     ·subst e;rw[hx]at hb
      injection hb with hb
      rw[<-hb];exact⟨h4,hw,q2,q3⟩
     grind
    rw[Af hw];exact .inr ⟨_,rfl,.inl ⟨rfl,λhh=>hw (hh _ hm).wear⟩⟩
   rw[show(ln f.Blocks[i].Leaves !=4)=true by simp[ln];omega]
   exact .inr ⟨_,rfl,.inl ⟨rfl,λhh=>h4 (hh _ hm).four⟩⟩)
  (λ_ hs=>⟨_,by simp only[EG,DT],.inr ⟨rfl,λb hb=>by
   obtain⟨j,hj,rfl⟩:=AC hb
   exact hs j _ hj<|Ab hj⟩⟩) (s:=()) (λj b hj=>by omega)
 rw[h1]
 rcases h2 with⟨rfl,h2⟩|⟨rfl,h2⟩
 ·exact⟨_,rfl,by simp only[BA,WZ];exact λhh=>h2 hh.blk⟩
 simp only[Aa,Bw];rw[EP,Bz];refine⟨_,rfl,?_⟩;rw[A6];constructor
 ·intro hh;exact⟨by omega,h2⟩
 intro hh;have:=hh.n;omega
theorem BD.cap (h:BD f):JR f:=⟨by have:=h.n;omega,λb hb=>by rw[(h.blk b hb).four];omega⟩
theorem BD.text (h:BD f):∀b∈f.Blocks,∀x∈b.Leaves,(L x.Text).length<=120:=λb hb x hx=>by
 rcases(h.blk b hb).leaf x hx with h|h|h
 ·rw[h.2];simp
 ·exact h.2.2
 exact h.2
theorem Qb (h:BD f):Ge f=some true:=by
 obtain⟨v,h1,h2⟩:=pK f h.cap;rw[h1,h2.2 h]
theorem BD.few (h:BD f):nl f.Blocks<=40:=by
 have:∀l:List Block,(∀b∈l,Lh b)->nl l=4*l.length:=by
  intro l
  induction l with
  |nil=>intro _;rfl
  |cons b l ih=>
   intro hh;have h1:=ih (λx hx=>hh x<|by simp[hx]);have h2:=(hh b<|by simp).four;unfold Go.TI.nl at h1⊢
   grind
 rw[this _ h.blk];have:=h.n;omega
def Zp (y:Aq):Int:=y.Page.Seq
def SR (l r:List Aq):Prop:=srt Zp r/\BW Zp l r
theorem SR.uniq {l:List Aq} (h:SR l r) (h':SR l r'):r=r':=NP Zp h.1 h'.1 λk=>by rw[h.2 k,<-h'.2 k]
theorem SR.mem {l:List Aq} (h:SR l r):y∈r↔y∈l:=h.2.mem
theorem SR.filter {l:List Aq} (h:SR l r) (p:Aq->Bool):SR (l.filter p) (r.filter p):=by
 refine⟨h.1.filter _,λk=>?_⟩;have:=h.2 k;rw[E6,E6]
 have e:∀m:List Aq,m.filter (λx=>(Zp x==k)&&p x)=(m.filter λx=>Zp x==k).filter p:=λm=>by
  rw[E6]
  grind
 rw[e,e,this]
theorem SR.add {A B r:List Aq} (h:SR (A++B) r) (hy:∀x∈r,Zp x<Zp y):SR (A++ [y]++B) (r++ [y]):=by
 refine⟨?_,λk=>?_⟩
 ·unfold srt;rw[AQ];refine⟨h.1,Jk _ _,λx hx z hz=>?_⟩
  grind
 have h2:=h.2 k;rw[AN]at h2;rw[AN,AN,AN];by_cases e:Zp y=k
 ·have e1:∀x∈A++B,¬(Zp x==k)=true:=λx hx=>by
   have:=hy x<|h.mem.2 hx;simp;omega
  have a0:A.filter (λx=>Zp x==k)=[]:=Bq.2 λx hx=>e1 x<|by simp[hx]
  have b0:B.filter (λx=>Zp x==k)=[]:=Bq.2 λx hx=>e1 x<|by simp[hx]
  grind
 grind
theorem nC {t:ByteArray} (h:F9 t=some (p,true)):fO t=some p:=by unfold fO;rw[h]
theorem wX (h:BD f):Ap (λs:List Aq×Int=>EE f s.1 s.2) ([],0)=some (KE 0 f.Blocks):=by
 have hn:=h.n;obtain⟨X,h1,h2⟩:=AP (body:=λs:List Aq×Int=>EE f s.1 s.2) (λs i=>(s,i)) f.Blocks.length (λi o=>o=KE 0 (f.Blocks.take i)/\o.length<=4*i) (λb=>b=KE 0 f.Blocks)
  (λa i hi hs=>by
   obtain⟨ho,l⟩:=hs;have hb:f.Blocks[i]?=some f.Blocks[i]:=Ab hi;have hm:f.Blocks[i]∈f.Blocks:=A5 _;have h4:=(h.blk _ hm).four;refine .inl ?_;simp only[EE,Ev hi];obtain⟨u,q1,q2,q3⟩:=AP (body:=λs:List Aq×Int=>Gt f (i:Int) s.1 s.2) (λs i=>(s,i)) f.Blocks[i].Leaves.length (λk u=>u=a++XE i 0 (f.Blocks[i].Leaves.take k)/\u.length<=a.length+k) (λu=>u=a++XE i 0 f.Blocks[i].Leaves/\u.length<=a.length+4)
    (λu k hk hu=>by
     obtain⟨d,m⟩:=hu;have hx:f.Blocks[i].Leaves[k]?=some f.Blocks[i].Leaves[k]:=Ab hk;have g:f.Blocks[i].Leaves[k]∈f.Blocks[i].Leaves:=A5 _
     have j:∀y:Aq,ap 72 u [y]=some (u++ [y]):=λy=>BS<|by grind
     have c:∀z,XE i 0 (f.Blocks[i].Leaves.take<|k+1)=XE i 0 (f.Blocks[i].Leaves.take k)++z↔pg i k f.Blocks[i].Leaves[k]=z:=by
      intro z;rw[Eg,hx,Y8];simp only[Option.toList,XE,A3,AU];rw[show(0:Int)+((min k f.Blocks[i].Leaves.length:Nat):Int)=(k:Int) by omega];simp
     refine .inl ?_;obtain⟨p,ok,r1,r2,r3,r4⟩:=IP f.Blocks[i].Leaves[k].Text (by have:=h.text _ hm _ g;omega);simp only[Gt,Ev hk,Aw,hb,Aa,Ya f h.cap hb hx,j]
     cases e:f.Blocks[i].Leaves[k].Is==1 with
     |false=>
      obtain⟨p',ok',t1,_⟩:=IP (bs []) (by rw[EU];simp);simp only[Ac,Aa,t1];refine⟨u,by rw[ad1],?_,by omega⟩;rw[d,(c []).2 (by unfold pg;grind),A3]
     |true=>
      simp only[Ae,Aa,r1]
      cases ok with
      |false=>
       refine⟨u,by simp only[Ac];rw[ad1],?_,by omega⟩;rw[d,(c []).2 (by unfold pg fO;grind),A3]
      |true=>
       refine⟨u++ [Aq.mk i k p],by simp only[Ae];rw[ad1],?_,by grind⟩
       rw[d,(c [Aq.mk i k p]).2 (by unfold pg;rw[Az (by simpa using e),nC r1]),Ax])
    (λu hu=>⟨u,by simp only[Gt,Aw,hb,Aa,DT],by grind,by omega⟩) (s:=a) ⟨by simp[XE],by omega⟩
   rw[q1,Aa,ad1];refine⟨u,rfl,?_,by omega⟩;rw[q2,ho,Eg,hb,Ta];simp only[Option.toList,KE,A3,AU]
   grind)
  (λa hs=>⟨a,by simp only[EE,DT],by grind⟩) (s:=[]) ⟨by simp[KE],by simp⟩
 grind
theorem AA3 (h:BD f):∃r,eB f r/\SR (KE 0 f.Blocks) r:=by
 have hT:∀b∈f.Blocks,∀x∈b.Leaves,(L x.Text).length<=1048576:=λb hb x hx=>by have:=h.text b hb x hx;omega
 have hn:=h.few;obtain⟨r,h1,h2,h3,h4,h5⟩:=bV f h.cap hT (by omega);refine⟨r,⟨h1,h2,by omega,h4,λy hy=>nF hT<|h4 y hy,h5⟩,h5,?_⟩;obtain⟨X,c1,_,c3,_⟩:=bG f h.cap hT (by omega);have hX:X=KE 0 f.Blocks:=by
  rw[wX h]at c1
  grind
 obtain⟨r',s1,s2,s3⟩:=eZ BB X (by omega);have:F7 f=some r':=by
  unfold F7
  grind
 rw[h2]at this
 injection this with this
 rw[this,<-hX];exact s3
def Li (l:List Leaf):Nat:=(l.takeWhile λx=>x.Is !=0).length
theorem jP (l:List Leaf):Li l<=l.length:=by
 unfold Li;have:=(List.takeWhile_sublist (λx:Leaf=>x.Is !=0) (l:=l)).length_le;exact this
theorem PG:∀(l:List Leaf),(∀(k:Nat) x,k<Li l->l[k]?=some x->x.Is≠0)/\(∀x,l[Li l]?=some x->x.Is=0)
 |[]=>⟨λk x h=>by simp[Li]at h,λx h=>by simp[Li]at h⟩
 |y::l=>by
  obtain⟨h1,h2⟩:=PG l;by_cases e:y.Is=0
  ·have:Li (y::l)=0:=by unfold Li;rw[List.takeWhile_cons_of_neg<|by simp[e]];rfl
   grind
  have:Li (y::l)=Li l+1:=by unfold Li;rw[List.takeWhile_cons_of_pos<|by simpa using e];rfl
  grind
theorem K9 (b:Block) (h:b.Leaves.length=4):Fu b=some (Li b.Leaves:Int):=by
 unfold Fu;obtain⟨h1,h2⟩:=PG b.Leaves;have a:=jP b.Leaves;obtain⟨r,q1,q2⟩:=AP (body:=λs:Int=>EM b s) (λ(_:Unit) i=>i) b.Leaves.length (λi _=>i<=Li b.Leaves) (λr=>(r= .inr (Li b.Leaves:Int))\/r= .inl ()/\Li b.Leaves=4)
  (λ_ i hi hs=>by
   have hx:=Ab hi;simp only[EM,Ev hi,Aw,hx,Aa];by_cases e:i=Li b.Leaves
   ·grind
   have:=h1 i b.Leaves[i] (by omega) hx;rw[show(b.Leaves[i].Is==0)=false by simpa using this,Ac,ad1]
   exact .inl ⟨(),rfl,by omega⟩)
  (λ_ hs=>⟨_,by simp only[EM,DT],.inr ⟨rfl,by omega⟩⟩) (s:=()) (by omega)
 grind
theorem Lh.blank (h:Lh b) (hk:Li b.Leaves<=k) (hx:b.Leaves[k]?=some x):x.Is=0:=by
 induction k generalizing x with
 |zero=>
  have:Li b.Leaves=0:=by omega
  exact(PG b.Leaves).2 x (by rw[this];exact hx)
 |succ k ih=>
  by_cases e:Li b.Leaves=k+1
  ·exact(PG b.Leaves).2 x (by rw[e];exact hx)
  have a:=(Ag.1 hx).1;have hy:b.Leaves[k]?=some b.Leaves[k]:=Ab (by omega);exact h.turn k _ x hy hx<|ih (by omega) hy
theorem ZZ {y:Leaf} (h:Lh b) (hk:k=Li b.Leaves) (h4:k<4) (hy:lfP y) (a:y.Is≠0):Lh (Block.mk b.Bad b.Wear (b.Leaves.set k y)):=by
 refine⟨by simpa using h.four,h.wear,λx hx=>?_,?_⟩
 ·rcases C3 hx with hx|rfl
  ·exact h.leaf x hx
  exact hy
 intro j x z hx hz h0;have hx':(b.Leaves.set k y)[j]?=some x:=hx;have hz':(b.Leaves.set k y)[j+1]?=some z:=hz;rw[Cu]at hx' hz';by_cases e:k=j
 ·grind
 rw[Av e]at hx';by_cases e2:k=j+1
 ·have:=(PG b.Leaves).1 j x (by omega) hx';exact absurd h0 this
 rw[Av e2]at hz';exact h.turn j x z hx' hz' h0
theorem S6 (h:BD f) (hb:Lh b):BD (Flash.mk (f.Blocks.set i b)):=by
 refine⟨by have:=h.n;simpa using this,λx hx=>?_⟩
 rcases C3 hx with hx|rfl
 ·exact h.blk x hx
 exact hb
def nO (f:Flash) (b l:Int) (t:ByteArray):Prop:=∃x,gi f.Blocks b=some x/\x.Bad=false/\l=(Li x.Leaves:Int)/\Li x.Leaves<4/\1<=(L t).length/\(L t).length<=120
def VH (f:Flash) (b l:Int) (y:Leaf):Flash:=Flash.mk (match gi f.Blocks b with
 |some x=>si f.Blocks b<|Block.mk x.Bad x.Wear<|si x.Leaves l y
 |none=>f.Blocks)
theorem mV (h:BD f) (b l:Int) (t:ByteArray):(nO f b l t/\L8 f b l t=some (VH f b l (Leaf.mk 1 t),true))\/(¬nO f b l t/\L8 f b l t=some (f,false)):=by
 have hn:=h.n;unfold L8 V3;rw[Dn f h.cap,Qb h];simp only[Aa,Ah,Ac];rw[Bz,Cm,EP];simp only[Aa];by_cases hb:0<=b/\b<=(f.Blocks.length:Int)-1
 ·rw[Ad hb];simp only[Ae];have hg:=KX (l:=f.Blocks) hb.1 (by omega);have hm:f.Blocks[b.toNat]'(by omega)∈f.Blocks:=A5 _;generalize d:f.Blocks[b.toNat]'(by omega)=x at hg hm;have hP:=h.blk x hm;rw[hg];simp only[Aa]
  cases a:x.Bad with
  |true=>
   refine .inr ⟨?_,rfl⟩;rintro⟨z,hz,h2,_⟩
   grind
  |false=>
   simp only[AD,Ae];by_cases c:l<4
   ·rw[Ad c];simp only[Ae];rw[K9 x hP.four];simp only[Aa];by_cases hl:l=(Li x.Leaves:Int)
    ·rw[show(l==(Li x.Leaves:Int))=true by simpa using hl];simp only[Ae];rw[B8,EP];simp only[Aa];by_cases ht:1<=(L t).length/\(L t).length<=120
     ·rw[Ad (by omega:1<=((L t).length:Int)/\((L t).length:Int)<=120)];simp only[Ah,Ac,Aa];refine .inl ⟨⟨x,hg,a,hl,by omega,ht⟩,?_⟩;rw[KX (l:=x.Leaves) (i:=l) (by omega) (by rw[hP.four];omega)];simp only[Aa];unfold VH
      grind
     rw[Af (by omega:¬(1<=((L t).length:Int)/\((L t).length:Int)<=120))];refine .inr ⟨?_,rfl⟩;rintro⟨z,hz,_,_,_,h5⟩;exact ht h5
    rw[show(l==(Li x.Leaves:Int))=false by simpa using hl];refine .inr ⟨?_,rfl⟩;rintro⟨z,hz,_,h3,_⟩
    grind
   rw[Af c];refine .inr ⟨?_,rfl⟩;rintro⟨z,hz,_,h3,h4,_⟩;omega
 rw[Af hb];refine .inr ⟨?_,rfl⟩;rintro⟨z,hz,_⟩;obtain⟨k1,k2⟩:=Da hz
 grind
theorem U5 {b l:Int} {t:ByteArray} (h:BD f) (hm:nO f b l t):BD (VH f b l (Leaf.mk 1 t))/\BD (VH f b l (Leaf.mk 2 t))/\∃A B,KE 0 f.Blocks=A++B/\(∀p,fO t=some p->KE 0 (VH f b l (Leaf.mk 1 t)).Blocks=A++ [Aq.mk b l p]++B)/\(∀u,KE 0 (VH f b l (Leaf.mk 2 u)).Blocks=A++B):=by
 obtain⟨x,h1,h2,rfl,h4,h5⟩:=hm;obtain⟨k1,k2⟩:=Da h1;obtain⟨c,rfl⟩:∃c:Nat,b=(c:Int):=⟨_,(Bk k1).symm⟩;rw[AZ]at k2;have hP:=h.blk x<|Ar k2;have hx:x.Leaves[Li x.Leaves]?=some (x.Leaves[Li x.Leaves]'(by rw[hP.four];exact h4)):=Ab _;have d:=hP.blank (Au _) hx
 have a:∀y,VH f (c:Int) (Li x.Leaves:Int) y=Flash.mk (f.Blocks.set c<|Block.mk x.Bad x.Wear<|x.Leaves.set (Li x.Leaves) y):=λy=>by
  unfold VH;rw[h1];simp only[EX]
 rw[a,a];refine⟨S6 h (ZZ hP rfl h4 (.inr<|.inl ⟨rfl,h5.1,h5.2⟩)<|by simp),S6 h (ZZ hP rfl h4 (.inr<|.inr ⟨rfl,h5.2⟩)<|by simp),?_⟩;obtain⟨A,B,e1,e2⟩:=qT k2 hx;have z:pg (c:Int) (Li x.Leaves:Int) (x.Leaves[Li x.Leaves]'(by grind))=[]:=by unfold pg;grind
 rw[z,A3]at e1;refine⟨A,B,e1,λp hp=>?_,λu=>?_⟩
 ·rw[e2];congr 2;unfold pg;rw[Az rfl,hp]
 rw[a,e2];have:pg (c:Int) (Li x.Leaves:Int) (Leaf.mk 2 u)=[]:=by rfl
 grind
theorem AAd {l:List Leaf} (h:∀x∈l,x.Is=0):nb l=l.length:=by
 induction l with
 |nil=>rfl
 |cons x l ih=>
  have h1:=ih (λy hy=>h y<|by simp[hy]);unfold nb at h1⊢;rw[BJ,FI,h1,YC,Az (by simpa using h x<|by simp),A7];omega
theorem ABU {l:List Leaf} (h:∀x∈l,x.Is≠0):nb l=0:=by
 induction l with
 |nil=>rfl
 |cons x l ih=>
  have h1:=ih (λy hy=>h y<|by simp[hy]);unfold nb at h1⊢;rw[BJ,FI,h1,YC,Av<|by simpa using h x<|by simp]
theorem ADm (l m:List Leaf):nb (l++m)=nb l+nb m:=by unfold nb;rw[Cn,List.sum_append]
theorem Lh.nb (h:Lh b):nb b.Leaves=4-Li b.Leaves:=by
 have a:=jP b.Leaves;have h4:=h.four;have e:Go.TI.nb b.Leaves=Go.TI.nb (b.Leaves.take<|Li b.Leaves)+Go.TI.nb (b.Leaves.drop<|Li b.Leaves):=by rw[<-ADm,Ch]
 rw[e,ABU (l:=b.Leaves.take<|Li b.Leaves),AAd (l:=b.Leaves.drop<|Li b.Leaves),Cb,h4]
 ·omega
 ·intro x hx;obtain⟨k,hk,rfl⟩:=AC hx;rw[Cb]at hk;rw[UY];exact h.blank (k:=Li b.Leaves+k) (by omega)<|Ab _
 intro x hx;obtain⟨k,hk,rfl⟩:=AC hx;rw[AU]at hk;rw[HV];exact(PG b.Leaves).1 k _ (by omega) (Ab _)
def U7 (f:Flash) (b l:Int):Prop:=∃x,gi f.Blocks b=some x/\x.Bad=false/\l=(Li x.Leaves:Int)/\Li x.Leaves<4
theorem dA (h:BD f):∃v:Int,Kf f=some v/\((v= -1/\∀b∈f.Blocks,b.Bad=false->Li b.Leaves=0\/Li b.Leaves=4)\/∃x,gi f.Blocks v=some x/\x.Bad=false/\Li x.Leaves<4):=by
 unfold Kf;have hn:=h.n;obtain⟨b,h1,h3⟩:=AP (body:=λs:Int=>En f s) (λ(_:Unit) i=>i) f.Blocks.length (λi _=>∀(j:Nat) b,j<i->f.Blocks[j]?=some b->b.Bad=false->Li b.Leaves=0\/Li b.Leaves=4) (λb=>(b= .inl ()/\∀b∈f.Blocks,b.Bad=false->Li b.Leaves=0\/Li b.Leaves=4)\/∃i:Nat,∃x,b= .inr (i:Int)/\f.Blocks[i]?=some x/\x.Bad=false/\Li x.Leaves<4)
  (λ_ i hi hs=>by
   have hg:f.Blocks[i]?=some f.Blocks[i]:=Ab hi;have hP:=h.blk _<|A5 hi;have c:=hP.nb;have h4:=hP.four;have d:=jP f.Blocks[i].Leaves;simp only[En,Ev hi];rw[ZK f i hg<|by omega];simp only[Aa,Aw,hg];rw[ad1]
   cases a:f.Blocks[i].Bad with
   |true=>
    refine .inl ⟨(),rfl,λj b hj hb h0=>?_⟩;by_cases e:j=i
    ·subst e;rw[hg]at hb
     injection hb with hb
     rw[<-hb,a]at h0;cases h0
    exact hs j b (by omega) hb h0
   |false=>
    simp only[AD,Ae];by_cases e:0<Li f.Blocks[i].Leaves/\Li f.Blocks[i].Leaves<4
    ·rw[Ad (by omega),Ad<|by omega];exact .inr ⟨_,rfl,.inr ⟨i,_,rfl,hg,a,e.2⟩⟩
    have:(cond (decide<|((nb f.Blocks[i].Leaves:Nat):Int)>0) (some<|decide<|((f.Blocks[i].Leaves.length-nb f.Blocks[i].Leaves:Nat):Int)>0) (some false):Option Bool)=some false:=by
     by_cases e2:nb f.Blocks[i].Leaves=0
     ·rw[Af<|by omega];rfl
     rw[Ad (by omega),Af<|by omega];rfl
    rw[this];refine .inl ⟨(),rfl,λj b hj hb h0=>?_⟩;by_cases e:j=i
    ·subst e;rw[hg]at hb
     injection hb with hb
     rw[<-hb];omega
    exact hs j b (by omega) hb h0)
  (λ_ hs=>⟨_,by simp only[En,DT],.inl ⟨rfl,λb hb=>by
   obtain⟨j,hj,rfl⟩:=AC hb
   exact hs j _ hj<|Ab hj⟩⟩) (s:=()) (λj b hj=>by omega)
 rw[h1]
 rcases h3 with⟨rfl,h3⟩|⟨i,x,rfl,h4,h5,h6⟩
 ·exact⟨-1,rfl,.inl ⟨rfl,h3⟩⟩
 exact⟨(i:Int),rfl,.inr ⟨x,by rw[Aw];exact h4,h5,h6⟩⟩
theorem mY (h:BD f):∃b l:Int,∃ok:Bool,L9 f=some (b,l,ok)/\(ok=true->U7 f b l)/\(ok=false->∀b∈f.Blocks,b.Bad=false->Li b.Leaves=4):=by
 have hn:=h.n;obtain⟨o,o1,o2⟩:=dA h;obtain⟨e1,_⟩:=Uf f h.cap;unfold L9;rw[Qb h,o1,e1];simp only[Aa,Ah,Ac]
 rcases o2 with⟨rfl,o2⟩|⟨x,o2,o3,o4⟩
 ·rw[Af<|by omega];simp only[Ac];have a:∀y∈PQ f,U7 f y 0:=by
   intro y hy;unfold PQ at hy;obtain⟨i,hi,rfl⟩:=AF.1 hy;obtain⟨c,d⟩:=Bf.1 hi;rw[Jl]at c;unfold Pn at d;rw[Ab c]at d;simp only[Aj,CF,A6]at d;have hP:=h.blk _<|A5 c;have:=hP.nb;have:=hP.four;exact⟨_,by rw[Aw];exact Ab c,d.1,by omega,by omega⟩
  cases j:PQ f with
  |nil=>
   refine⟨0,0,false,rfl,by simp,λ_ b hb g=>?_⟩
   rcases o2 b hb g with e|e
   ·obtain⟨i,hi,rfl⟩:=AC hb;have hm:(i:Int)∈PQ f:=by
     unfold PQ;refine AF.2 ⟨i,Bf.2 ⟨Jl.2 hi,?_⟩,rfl⟩;unfold Pn;rw[Ab hi];have hP:=h.blk _<|A5 hi;have:=hP.nb;have:=hP.four;simp only[g,AD,CZ,A6];omega
    rw[j]at hm;cases hm
   exact e
  |cons x l=>
   rw[j]at a;have t:(x::l).length<=10:=by
    rw[<-j];unfold PQ;rw[Ba];have:=CK (Pn f)<|List.range f.Blocks.length;rw[CS]at this;omega
   have m:(ln (x::l)==0)=false:=by simp[ln];omega
   rw[m];simp only[Ac];have p:gi (x::l) 0=some x:=Aw (i:=0);rw[p];simp only[Aa]
   have k:∀y,U7 f y 0->∃z,gi f.Blocks y=some z:=λy ⟨z,hz,_⟩=>⟨z,hz⟩
   obtain⟨w,w1,w2⟩:=VP (body:=λs:Int×Int=>Fp f (x::l) s.1 s.2) (λ(b:Int) i=>(b,i)) (x::l).length (λ_ b=>U7 f b 0) (λb=>U7 f b 0)
    (λb i hi hb=>by
     have hg:(x::l)[i]?=some (x::l)[i]:=Ab hi;have hp:=a _<|A5 hi;obtain⟨z1,q⟩:=k _ hp;obtain⟨z2,r⟩:=k _ hb;simp only[Fp,Ev hi,Aw,hg,Aa,q,r];rw[ad1]
     cases decide (z1.Wear<z2.Wear)with
     |true=>exact .inl ⟨_,rfl,hp⟩
     |false=>exact .inl ⟨_,rfl,hb⟩)
    (λb hb=>⟨b,by simp only[Fp,DT],hb⟩) l.length 1 x (by simp;omega) (a x<|by simp)
   have e1':((1:Nat):Int)=1:=rfl;rw[e1']at w1;rw[w1];exact⟨w,0,true,rfl,λ_=>w2,by simp⟩
 obtain⟨k1,k2⟩:=Da o2;rw[cT,o2,Aa,K9 x (h.blk x<|Ar k2).four];exact⟨_,_,true,rfl,λ_=>⟨x,o2,o3,rfl,o4⟩,by simp⟩
def AAR (f:Flash) (b:Int):Prop:=∃x,gi f.Blocks b=some x/\x.Bad=false/\x.Wear≠1000000000
def Vc (f:Flash) (b:Int):Flash:=Flash.mk (match gi f.Blocks b with
 |some x=>si f.Blocks b<|Block.mk false (x.Wear+1) Ov
 |none=>f.Blocks)
theorem zB (h:BD f) (b:Int):(AAR f b/\Uo f b=some (Vc f b,true))\/(¬AAR f b/\Uo f b=some (f,false)):=by
 have hn:=h.n;unfold Uo;rw[Dn f h.cap,Qb h];simp only[Aa,Ah,Ac];rw[Bz,Cm,EP];simp only[Aa];by_cases hb:0<=b/\b<=(f.Blocks.length:Int)-1
 ·rw[Ad hb];simp only[Ah,Ac];have hg:=KX (l:=f.Blocks) hb.1 (by omega);have hm:f.Blocks[b.toNat]'(by omega)∈f.Blocks:=A5 _;generalize c:f.Blocks[b.toNat]'(by omega)=x at hg hm;have hP:=h.blk x hm;rw[hg];simp only[Aa]
  cases a:x.Bad with
  |true=>
   refine .inr ⟨?_,rfl⟩;rintro⟨z,hz,h2,_⟩;rw[hg]at hz
   injection hz with hz
   rw[<-hz,a]at h2;cases h2
  |false=>
   simp only[Ac,Aa];by_cases hw:x.Wear=1000000000
   ·rw[show(x.Wear==1000000000)=true by simpa using hw];refine .inr ⟨?_,rfl⟩;rintro⟨z,hz,_,h3⟩;rw[hg]at hz
    injection hz with hz
    rw[<-hz]at h3;exact h3 hw
   rw[show(x.Wear==1000000000)=false by simpa using hw];simp only[Ac];rw[Tb];simp only[Aa];have:=hP.wear;rw[Cy];refine .inl ⟨⟨x,hg,a,hw⟩,?_⟩;unfold Vc;rw[hg]
 rw[Af hb];refine .inr ⟨?_,rfl⟩;rintro⟨z,hz,_⟩;obtain⟨k1,k2⟩:=Da hz;have:=(Ag.1 k2).1;omega
theorem o5 {bad:Bool} {w:Int} (h:0<=w/\w<=1000000000):Lh (Block.mk bad w Ov):=by
 refine⟨rfl,h,λx hx=> .inl ?_,λk x y hx hy _=>?_⟩
 ·have:=D4 hx;rw[this];exact⟨rfl,rfl⟩
 have:=D4<|Ar hy;rw[this]
theorem ZI (i:Int):∀(k:Int) (l:List Leaf),(∀x∈l,x.Is≠1)->XE i k l=[]
 |k,[],_=>rfl
 |k,x::l,h=>by
  rw[XE,ZI i (k+1) l (λy hy=>h y (by simp[hy]))];unfold pg;rw[Av (h x (by simp))];rfl
theorem Xt {b:Int} (h:BD f) (hc:AAR f b):BD (Vc f b)/\KE 0 (Vc f b).Blocks=(KE 0 f.Blocks).filter λy=>y.Block !=b:=by
 obtain⟨x,h1,h2,h3⟩:=hc;obtain⟨k1,k2⟩:=Da h1;obtain⟨c,rfl⟩:∃c:Nat,b=(c:Int):=⟨_,(Bk k1).symm⟩;rw[AZ]at k2;have hP:=h.blk x<|Ar k2;have hw:=hP.wear;unfold Vc;rw[h1];simp only[EX];exact⟨S6 h (o5 ⟨by omega,by omega⟩),nE k2 (ZI _ _ _ λy hy=>by rw[D4 hy];simp)⟩
def Uk (f:Flash) (s:Bc):Prop:=(s.Kind=1/\nO f s.Block s.Leaf s.Text)\/(s.Kind=2/\AAR f s.Block)
def Lm (f:Flash) (s:Bc):Flash:=if s.Kind=1 then VH f s.Block s.Leaf (Leaf.mk 1 s.Text)else Vc f s.Block
theorem Uu (h:BD f) (s:Bc):(Uk f s/\M8 f s=some (Lm f s,true))\/(¬Uk f s/\M8 f s=some (f,false)):=by
 unfold M8;by_cases k1:s.Kind=1
 ·rw[show(s.Kind==1)=true by simpa using k1];simp only[Ae]
  rcases mV h s.Block s.Leaf s.Text with⟨h1,h2⟩|⟨h1,h2⟩
  ·rw[h2];exact .inl ⟨.inl ⟨k1,h1⟩,by unfold Lm;rw[Az k1];rfl⟩
  rw[h2];exact .inr ⟨by rintro(hh|hh);exact h1 hh.2;omega,rfl⟩
 rw[show(s.Kind==1)=false by simpa using k1];simp only[Ac];by_cases k2:s.Kind=2
 ·rw[show(s.Kind==2)=true by simpa using k2];simp only[Ae]
  rcases zB h s.Block with⟨h1,h2⟩|⟨h1,h2⟩
  ·rw[h2];exact .inl ⟨.inr ⟨k2,h1⟩,by unfold Lm;rw[Av k1];rfl⟩
  rw[h2];exact .inr ⟨by rintro(hh|hh);omega;exact h1 hh.2,rfl⟩
 rw[show(s.Kind==2)=false by simpa using k2];simp only[Ac];rw[Dn f h.cap];exact .inr ⟨by rintro(hh|hh)<;>omega,rfl⟩
theorem tM (h:BD f) (hs:Uk f s):BD (Lm f s):=by
 unfold Lm
 rcases hs with⟨h1,h2⟩|⟨h1,h2⟩
 ·rw[Az h1];exact(U5 h h2).1
 rw[Av<|by omega];exact(Xt h h2).1
theorem Zs {t:ByteArray} {ok:Bool} (h:BD f) (steps:List Bc) (hs:steps.length<=1000) (p:Page) (ht:E8 p=some (t,ok)) (hl:ok=true->1<=(L t).length/\(L t).length<=120):
  (ok=true/\∃b l,U7 f b l/\L9 f=some (b,l,true)/\DW f steps p=some (VH f b l (Leaf.mk 1 t),steps++ [Bc.mk 1 b l t],true))\/DW f steps p=some (f,steps,false):=by
 obtain⟨b,l,room,p1,p2,_⟩:=mY h;unfold DW;rw[ht,p1];simp only[Aa]
 cases ok with
 |false=>exact .inr rfl
 |true=>
  simp only[Ah,Ac,Aa]
  cases room with
  |false=>exact .inr rfl
  |true=>
   simp only[Ah,Ac];have hp:=p2 rfl;have hl':=hl rfl;have hm:nO f b l t:=by
    obtain⟨x,a1,a2,a3,a4⟩:=hp;exact⟨x,a1,a2,a3,a4,hl'⟩
   rcases Uu h (Bc.mk 1 b l t)with⟨h1,h2⟩|⟨h1,h2⟩
   ·rw[h2];rw[Aa,BS (by simp;omega)];refine .inl ⟨trivial,b,l,hp,rfl,?_⟩;unfold Lm;rfl
   exact absurd (.inl ⟨rfl,hm⟩) h1
theorem o8 (u:ByteArray) (hu:(L u).length<=20000) (a:Nat) (ha:a<=(L u).length):∃n c,Ds (E9.mk u (a:Int) false)=some (n,c)/\c.text_=u/\(c.bad_=true\/c.bad_=false/\∃b:Nat,c.at_=b/\a<b/\b<=(L u).length)/\(c.bad_=true->c.at_=a):=by
 obtain⟨r,h1,_,h2⟩:=IN u (a:Int) (by omega) ⟨by omega,by omega⟩;rw[Ki u _ hu h1]
 rcases h2 with⟨e1,e2,e3⟩|⟨e1,a',b,n,k1,k2,k3,k4,k5,_⟩
 ·rw[e1];exact⟨_,_,rfl,rfl,.inl rfl,λ_=>rfl⟩
 rw[e1];refine⟨_,_,rfl,rfl,.inr ⟨rfl,b,k2,by omega,k5⟩,λhh=>by cases hh⟩
theorem tX (t:ByteArray) (ht:(L t).length<=20000):∀(n a:Nat) (b:List Cz),(L t).length-a<=n->a<=(L t).length->b.length<=a->∃r,Ap (λs:List Cz×ByteArray×Int×Bool=>DL t s.1 s.2.1 s.2.2.1 s.2.2.2) (b,t,(a:Int),false)=some r/\(r= .inr ([],false)\/∃l:List Cz,r= .inl l/\l.length<=(L t).length)
 |n,a,b,hn,ha,ho=>by
  rw[A0];simp only[DL];rw[B8];by_cases c:a<(L t).length
  ·rw[Ad (by omega:(a:Int)<((L t).length:Int))];simp only[Ae,Aa,AD];rw[Fk t c,ad1];simp only[Aa];obtain⟨n1,c1,v1,t1,h1,z1⟩:=o8 t ht (a+1) (by omega);rw[v1];simp only[Aa]
   rcases h1 with e1|⟨e1,b1,k1,k2,k3⟩
   ·
    have hz:=z1 e1;obtain⟨c1t,c1a,c1b⟩:=c1;simp only at t1 e1 hz;subst t1 e1 hz;rw[Hz _ _ ht ⟨by omega,by omega⟩];exact⟨_,rfl,.inl rfl⟩
   obtain⟨c1t,c1a,c1b⟩:=c1;simp only at t1 e1 k1;subst t1 e1 k1;obtain⟨n2,c2,v2,t2,h2,z2⟩:=o8 c1t ht b1 k3;rw[v2];simp only[Aa]
   rcases h2 with e2|⟨e2,b2,m1,m2,m3⟩
   ·rw[e2];exact⟨_,rfl,.inl rfl⟩
   rw[e2];simp only[Ac];rw[NC];simp only[Aa]
   cases GJ _ with
   |false=>exact⟨_,rfl,.inl rfl⟩
   |true=>
    simp only[Ah,Ac];rw[BS (by simp;omega),t2,m1];simp only[Aa]
    match n,hn with
    |n+1,hn=>exact tX c1t ht n b2 _ (by omega) m3 (by simp;omega)
    |0,hn=>omega
  rw[Af<|by omega];exact⟨_,rfl,.inr ⟨_,rfl,by omega⟩⟩
noncomputable def fN (t:ByteArray):Option (List Cz):=match Ix t with
 |some (l,true)=>some l
 |_=>none
theorem bZ (t:ByteArray) (ht:(L t).length<=20000):∃l ok,Ix t=some (l,ok)/\fN t=(if ok=true then some l else none)/\l.length<=20000:=by
 obtain⟨r,h1,h2⟩:=tX t ht (L t).length 0 [] (by omega) (by omega) (by simp);unfold fN Ix;have h1':Ap (λs:List Cz×ByteArray×Int×Bool=>DL t s.1 s.2.1 s.2.2.1 s.2.2.2) ([],t,0,false)=some r:=h1;rw[h1']
 rcases h2 with rfl|⟨l,rfl,h3⟩
 ·exact⟨[],false,rfl,rfl,by simp⟩
 exact⟨l,true,rfl,rfl,by omega⟩
def pT (t a b:Int) (y:Aq):Bool:=y.Page.Kind==2&&(y.Page.Tx==t&&(y.Page.Part==a&&(!decide (a>0)||y.Page.Count==b)))
def R7 (r:List Aq) (t a b:Int):Option Aq:=r.find?<|pT t a b
theorem kW {x:α} (l:List α) (p:α->Bool) (h:∀j x,j<i->l[j]?=some x->p x=false) (hx:l[i]?=some x) (hp:p x=true):l.find? p=some x:=by
 obtain⟨h1,h2⟩:=JO hx;rw[h1,List.find?_append];have:(l.take i).find? p=none:=by
  rw[N8];intro y hy;obtain⟨j,hj,rfl⟩:=AC hy;rw[AU]at hj;rw[HV,h j _ (by omega)<|Ab _];simp
 rw[this,Option.none_or,List.find?_cons_of_pos hp]
theorem uU (l:List α) (p:α->Bool) (h:∀(j:Nat) x,l[j]?=some x->p x=false):l.find? p=none:=by
 rw[N8];intro y hy;obtain⟨j,hj,rfl⟩:=AC hy;rw[h j _<|Ab hj];simp
structure GF (r:List Aq):Prop where
 len:r.length<=1048576
 text:∀y∈r,(L y.Page.Text).length<=90
 seq:∀y∈r,1<=y.Page.Seq/\y.Page.Seq<=1000000000
 tx:∀y∈r,1<=y.Page.Tx/\y.Page.Tx<=1000000000
 cnt:∀y∈r,1<=y.Page.Count/\y.Page.Count<=9
 part:∀y∈r,0<=y.Page.Part/\y.Page.Part<y.Page.Count
def Oe (a seq:Int) (y:Aq):Int:=if a=0\/y.Page.Seq<seq then y.Page.Seq else seq
theorem AAo (r:List Aq) (hr:GF r) (t a c:Int) (hp:0<=a) (text:ByteArray) (ht:(L text).length<=10000) (seq:Int):
  ∃text2,Ap (λs:Int×ByteArray×Bool×Int×Int=>JL r t a s.1 s.2.1 s.2.2.1 s.2.2.2.1 s.2.2.2.2) (c,text,false,0,seq)=some (match R7 r t a c with
   |none=>(c,text,false,seq)
   |some y=>(y.Page.Count,text2,true,Oe a seq y))/\(∀y,R7 r t a c=some y->L text2=L text++L y.Page.Text):=by
 have k:=hr.len;obtain⟨b,h1,h2⟩:=AP (body:=λs:Int×ByteArray×Bool×Int×Int=>JL r t a s.1 s.2.1 s.2.2.1 s.2.2.2.1 s.2.2.2.2) (λ(s:Int×ByteArray×Bool×Int) i=>(s.1,s.2.1,s.2.2.1,i,s.2.2.2)) r.length
  (λi s=>(s=(c,text,false,seq)/\∀(j:Nat) x,j<i->r[j]?=some x->pT t a c x=false)\/∃y u,R7 r t a c=some y/\L u=L text++L y.Page.Text/\s=(y.Page.Count,u,true,Oe a seq y))
  (λb=>(b=(c,text,false,seq)/\R7 r t a c=none)\/∃y u,R7 r t a c=some y/\L u=L text++L y.Page.Text/\b=(y.Page.Count,u,true,Oe a seq y))
  (λs i hi hs=>by
   have hx:=Ab hi;have hm:r[i]∈r:=A5 hi;simp only[JL,KH,Ad hi,Ae,Aa]
   rcases hs with⟨rfl,hs⟩|⟨y,u,f1,f2,rfl⟩
   ·simp only[AD,Ae,Aw,hx,Aa];have f:(cond (r[i].Page.Kind !=2) (some true) (cond (r[i].Page.Tx !=t) (some true)<|cond (r[i].Page.Part !=a) (some true)<|cond (decide<|a>0) (some<|r[i].Page.Count !=c)<|some false):Option Bool)=some (!pT t a c r[i]):=by
     unfold pT;simp only[bne];cases r[i].Page.Kind==2<;>cases r[i].Page.Tx==t<;>cases r[i].Page.Part==a<;>cases decide (a>0)<;>cases r[i].Page.Count==c<;>rfl
    rw[f,Aa,ad1]
    cases hM:pT t a c r[i]with
    |false=>
     refine .inl ⟨_,rfl,.inl ⟨rfl,λj x hj d=>?_⟩⟩;by_cases e:j=i
     ·subst e;rw[hx]at d
      injection d with d
      rw[<-d];exact hM
     exact hs j x (by omega) d
    |true=>
     have l:=hr.text _ hm;simp only[Ah,Ac];rw[FV _ _<|by omega];simp only[Aa];have hf:R7 r t a c=some r[i]:=kW r _ (λj x hj d=>hs j x hj d) hx hM;have g:(cond (a==0) (some true) (some<|decide<|r[i].Page.Seq<seq):Option Bool)=some (decide<|a=0\/r[i].Page.Seq<seq):=by
      by_cases e:a=0
      ·rw[show(a==0)=true by simpa using e,Ad<|show a=0\/r[i].Page.Seq<seq from .inl e];rfl
      rw[show(a==0)=false by simpa using e];simp only[Ac];by_cases e2:r[i].Page.Seq<seq
      ·rw[Ad e2,Ad<|show a=0\/r[i].Page.Seq<seq from .inr e2]
      rw[Af e2,Af (by rintro(h|h);exact e h;exact e2 h)]
     rw[g];simp only[Aa];refine .inl ⟨(r[i].Page.Count,text++r[i].Page.Text,true,Oe a seq r[i]),?_,.inr ⟨r[i],_,hf,DZ _ _,rfl⟩⟩;unfold Oe;by_cases e:a=0\/r[i].Page.Seq<seq
     ·rw[Ad e,Az e];rfl
     rw[Af e,Av e];rfl
   simp only[Ah,Ac]
   exact .inr ⟨_,rfl,.inr ⟨y,u,f1,f2,rfl⟩⟩)
  (λs hs=>by
   refine⟨s,by simp only[JL,KH,FH,LQ,Ac,Aa],?_⟩
   rcases hs with⟨rfl,hs⟩|hs
   ·exact .inl ⟨rfl,uU r _ λj x hx=>hs j x (Ag.1 hx).1 hx⟩
   exact .inr hs) (s:=(c,text,false,seq)) (.inl ⟨rfl,λj x hj=>by omega⟩)
 have h1':Ap (λs:Int×ByteArray×Bool×Int×Int=>JL r t a s.1 s.2.1 s.2.2.1 s.2.2.2.1 s.2.2.2.2) (c,text,false,0,seq)=some b:=h1;rw[h1']
 rcases h2 with⟨rfl,h2⟩|⟨y,u,f1,f2,rfl⟩
 ·rw[h2];exact⟨text,rfl,λy hy=>by cases hy⟩
 rw[f1];refine⟨u,rfl,λz hz=>?_⟩
 injection hz with hz
 rw[<-hz];exact f2
def parts (r:List Aq) (t:Int):Nat->Int->Int->List UInt8->Int->Option (List UInt8×Int)
 |0,_,_,_,_=>none
 |n+1,a,c,b,seq=>if a=0\/a<c then(match R7 r t a c with
  |none=>none
  |some y=>parts r t n (a+1) y.Page.Count (b++L y.Page.Text) (Oe a seq y))else some (b,seq)
theorem uM {t a b:Int} (h:pT t a b y=true) (hp:0<a):y.Page.Count=b:=by
 unfold pT at h;simp only[Aj,Co,CF,DH,Ce]at h
 rcases h.2.2.2 with h|h
 ·omega
 exact h
theorem S5 {t a b:Int} (h:R7 r t a b=some y):y∈r/\pT t a b y=true:=⟨List.mem_of_find?_eq_some h,List.find?_some h⟩
theorem nR (r:List Aq) (hr:GF r) (t:Int):∀(n:Nat) (part cnt:Int) (text:ByteArray) (seq:Int),part+n=11->0<=part->(part=0\/(part<=cnt/\cnt<=9))->(L text).length<=90*part.toNat->
  ∃b,Ap (λs:Int×ByteArray×Int×Int=>Qk r t s.1 s.2.1 s.2.2.1 s.2.2.2) (cnt,text,part,seq)=some b/\(match parts r t n part cnt (L text) seq with
   |none=>∃q,b= .inr (Tx.mk t q [],false)
   |some (x,q)=>∃u,b= .inl (u,q)/\L u=x/\(L u).length<=1000)
 |0,part,cnt,text,seq,hn,h0,hc,ht=>by omega
 |n+1,part,cnt,text,seq,hn,h0,hc,ht=>by
  rw[A0];simp only[Qk,parts];have a:(cond (part==0) (some true) (some (decide (part<cnt))):Option Bool)=some (decide (part=0\/part<cnt)):=by
   by_cases e:part=0
   ·rw[show(part==0)=true by simpa using e,Ad<|show part=0\/part<cnt from .inl e];rfl
   rw[show(part==0)=false by simpa using e];simp only[Ac];by_cases e2:part<cnt
   ·rw[Ad e2,Ad<|show part=0\/part<cnt from .inr e2]
   rw[Af e2,Af (by rintro(h|h);exact e h;exact e2 h)]
  rw[a];simp only[Aa];by_cases e:part=0\/part<cnt
  ·rw[Ad e,Az e];simp only[Ae];obtain⟨text2,h1,h2⟩:=AAo r hr t part cnt h0 text (by omega) seq;rw[h1]
   cases hf:R7 r t part cnt with
   |none=>
    simp only[Aa,AD,Ae];exact⟨_,rfl,_,rfl⟩
   |some y=>
    simp only[Aa,Ah,Ac];have hy:=S5 hf;have hL:=h2 y hf;have c:=hr.text y hy.1;have d:=hr.cnt y hy.1;rw[Cy,<-hL];refine nR r hr t n (part+1) y.Page.Count text2 _ (by omega) (by omega) (.inr ?_) ?_
    ·rcases e with e|e
     ·have:=hr.part y hy.1;omega
     by_cases e2:part=0
     ·omega
     have:=uM hy.2 (by omega);omega
    rw[hL,Ai];omega
  rw[Af e,Av e];simp only[Ac];exact⟨_,rfl,text,rfl,rfl,by omega⟩
noncomputable def Ih (r:List Aq) (t:Int):Option Tx:=match parts r t 11 0 0 [] 0 with
 |none=>none
 |some (x,q)=>(fN (bs x)).map λl=>Tx.mk t q l
theorem AEp (u:ByteArray):bs (L u)=u:=Lg<|by rw[EU]
theorem fC (r:List Aq) (hr:GF r) (t:Int):∃x ok,Y5 r t=some (x,ok)/\Ih r t=(if ok=true then some x else none)/\x.Recs.length<=20000:=by
 obtain⟨b,h1,h2⟩:=nR r hr t 11 0 0 (bs []) 0 (by omega) (by omega) (.inl rfl) (by rw[EU];simp);rw[EU]at h2;unfold Y5 Ih;rw[h1];simp only[Aa]
 cases hp:parts r t 11 0 0 [] 0 with
 |none=>
  rw[hp]at h2;obtain⟨z,rfl⟩:=h2;exact⟨_,_,rfl,rfl,by simp⟩
 |some w=>
  obtain⟨x,q⟩:=w;rw[hp]at h2;obtain⟨u,rfl,rfl,h4⟩:=h2;simp only[Bw];obtain⟨l,ok,r1,r2,r3⟩:=bZ u (by omega);rw[r1,AEp,r2];simp only[Aa]
  cases ok with
  |true=>exact⟨_,_,rfl,rfl,r3⟩
  |false=>exact⟨_,_,rfl,rfl,r3⟩
theorem VC {P:List α->Prop} (nil:P []) (app:∀l x,P l->P (l++ [x])) (l:List α):P l:=by
 rw[<-List.reverse_reverse l]
 induction l.reverse with
 |nil=>exact nil
 |cons x l ih=>grind
def Dy (r:List Aq):List Int:=r.foldl (λns y=>if y.Page.Kind=2 then ins ns y.Page.Tx else ns) []
theorem VL (r:List Aq) (y:Aq):Dy (r++ [y])=if y.Page.Kind=2 then ins (Dy r) y.Page.Tx else Dy r:=by unfold Dy;grind
theorem GY (r:List Aq) (h:∀y∈r,1<=y.Page.Tx):asc (Dy r)/\(∀x,x∈Dy r↔∃y∈r,y.Page.Kind=2/\y.Page.Tx=x)/\(Dy r).length<=r.length:=by
 have main:∀n,n<=r.length->asc (Dy<|r.take n)/\(∀x,x∈Dy (r.take n)↔∃y∈r.take n,y.Page.Kind=2/\y.Page.Tx=x)/\(Dy<|r.take n).length<=n:=by
  intro n
  induction n with
  |zero=>intro _;simp[Dy,asc]
  |succ n ih=>
   intro hn;obtain⟨h1,h2,h3⟩:=ih (by omega);have et:r.take (n+1)=r.take n++ [r[n]'(by omega)]:=Ao (by omega);have hy:=h _ (A5<|show n<r.length by omega);generalize r[n]'(by omega)=y at et hy;rw[et,VL]
   have a:∀z∈Dy (r.take n),0<z:=λz hz=>by grind
   by_cases e:y.Page.Kind=2
   ·rw[Az e];refine⟨uR h1,λx=>?_,by have:=aB (Dy<|r.take n) y.Page.Tx h1;omega⟩;rw[uQ a,h2 x]
    grind
   grind
 have:=main r.length<|Au _
 grind
theorem dD (r:List Aq) (hr:GF r):Ap (λs:List Int×Int=>Kg r s.1 s.2) ([],0)=some (Dy r):=by
 have d:=hr.len;obtain⟨b,h1,h2⟩:=AP (body:=λs:List Int×Int=>Kg r s.1 s.2) (λ(o:List Int) i=>(o,i)) r.length (λi o=>o=Dy (r.take i)) (λb=>b=Dy r)
  (λo i hi ho=>by
   have hx:=Ab hi;have hm:r[i]∈r:=A5 hi;have f:=(hr.tx _ hm).1;have c:=GY (r.take i) λy hy=>(hr.tx y<|List.mem_of_mem_take hy).1;have g:o.length<=1048576:=by grind
   have et:r.take (i+1)=r.take i++ [r[i]]:=Ao hi;simp only[Kg,Ev hi,Aw,hx,Aa];rw[ad1];refine .inl ?_;by_cases e:r[i].Page.Kind=2
   ·rw[show(r[i].Page.Kind !=2)=false by simp[e]];simp only[Ac]
    rw[PT (body:=λs:List Int×Int=>M7 o r[i] s.1 s.2) o (λy=>decide<|y<r[i].Page.Tx) [] (by simp;omega)
     (λu k x hk hu=>by
      have a:=(Ag.1 hk).1
      simp only[M7,Ev a,Aw,hk,Aa])
     (λu=>by simp only[M7,DT])]
    simp only[Aa,A4];have h:=CK (λy=>decide<|y<r[i].Page.Tx) o
    rw[BS (by grind),Aa,PT (body:=λs:List Int×Int=>M6 o r[i] s.1 s.2) o (λy=>decide<|y>r[i].Page.Tx) _ (by grind)
     (λu k x hk hu=>by
      have a:=(Ag.1 hk).1
      simp only[M6,Ev a,Aw,hk,Aa])
     (λu=>by simp only[M6,DT])]
    simp only[Aa];refine⟨_,rfl,?_⟩;rw[et,VL,Az e,<-ho];unfold ins
    grind
   rw[show(r[i].Page.Kind !=2)=true by simpa using e]
   exact⟨o,rfl,by rw[et,VL,Av e,ho]⟩)
  (λo ho=>⟨o,by simp only[Kg,DT],by grind⟩) (s:=[]) rfl
 grind
noncomputable def Br (r:List Aq):List Tx:=(Dy r).filterMap (Ih r)
theorem SI {x:Tx} (hr:GF r) (h:Ih r t=some x):x.Num=t/\x.Recs.length<=20000:=by
 obtain⟨z,ok,h1,h2,h3⟩:=fC r hr t;rw[h]at h2
 cases ok with
 |false=>cases h2
 |true=>
  rw[Az rfl]at h2
  injection h2 with h2
  subst h2;refine⟨?_,h3⟩;unfold Ih at h;split at h
  ·cases h
  obtain⟨l,_,rfl⟩:=AL.1 h;rfl
theorem OD (r:List Aq) (hr:GF r):RQ r=some (Br r):=by
 have c:=hr.len;have a:=GY r λy hy=>(hr.tx y hy).1;have d:=a.2.2;unfold RQ;rw[dD r hr];simp only[Aa];obtain⟨b,h1,h2⟩:=AP (body:=λs:List Tx×Int=>M5 r (Dy r) s.1 s.2) (λ(o:List Tx) i=>(o,i)) (Dy r).length (λi o=>o=((Dy r).take i).filterMap (Ih r)) (λb=>b=Br r)
  (λo i hi ho=>by
   have hx:=Ab hi;have et:(Dy r).take (i+1)=(Dy r).take i++ [(Dy r)[i]]:=Ao hi;have e:o.length<=i:=by grind
   simp only[M5,Ev hi,Aw,hx,Aa];rw[ad1];obtain⟨z,ok,k1,k2,k3⟩:=fC r hr (Dy r)[i];rw[k1];simp only[Aa];refine .inl ?_
   cases ok with
   |true=>
    simp only[Ae];rw[BS<|by grind]
    grind
   |false=>grind)
  (λo ho=>⟨o,by simp only[M5,DT],by rw[ho,AW];rfl⟩) (s:=[]) rfl
 rw[h1,h2];rfl
def dM (x:Tx):Bool:=match x.Recs with
 |[]=>false
 |r::_=>r.Kind==1
def sG (l:List Tx):Nat:=l.zipIdx.foldl (λa z=>if dM z.1=true then z.2 else a) 0
def De (l:List Tx):List Tx:=l.drop<|sG l
theorem Rj (l:List Tx) (x:Tx):sG (l++ [x])=if dM x=true then l.length else sG l:=by
 unfold sG
 grind
theorem sF (l:List Tx):sG l<=l.length:=by
 induction l using VC with
 |nil=>simp[sG]
 |app l x ih=>
  rw[Rj,Ai]
  grind
theorem SM (l:List Tx) (x:Tx):De (l++ [x])=if dM x=true then [x]else De l++ [x]:=by
 unfold De;rw[Rj];by_cases e:dM x=true
 ·grind
 rw[Av e,Av e,List.drop_append_of_le_length<|sF l]
theorem mD (l:List Tx):∃A,l=A++De l/\(A≠ []->∃x B,De l=x::B/\dM x=true)/\∀x B,De l=x::B->∀y∈B,dM y=false:=by
 induction l using VC with
 |nil=>exact⟨[],rfl,λh=>absurd rfl h,λx B h=>by cases h⟩
 |app l x ih=>
  obtain⟨A,h1,h2,h3⟩:=ih;rw[SM];by_cases e:dM x=true
  ·rw[Az e];exact⟨l,rfl,λ_=>⟨x,[],rfl,e⟩,λy B h=>by grind⟩
  rw[Av e];refine⟨A,by grind,λhA=>?_,λy B h=>?_⟩
  ·grind
  cases hs:De l with
  |nil=>grind
  |cons w B'=>grind
theorem yU (A:List Tx):∀(B:List Tx),(A≠ []->∃x B',B=x::B'/\dM x=true)->(∀x B',B=x::B'->∀y∈B',dM y=false)->De (A++B)=B:=by
 intro B
 induction B using VC with
 |nil=>
  intro h1 _
  cases A with
  |nil=>rfl
  |cons a A=>grind
 |app B y ih=>
  intro h1 h2;rw[<-Ax,SM]
  cases B with
  |nil=>
   by_cases e:dM y=true
   ·rw[Az e];rfl
   rw[Av e]
   cases A with
   |nil=>rfl
   |cons a A=>grind
  |cons b B=>
   have hy:dM y=false:=h2 b (B++ [y]) rfl y (by simp);rw[Av (by rw[hy];simp),ih]
   ·grind
   intro x B' h z hz
   injection h with h4 h5
   subst h4 h5;exact h2 b (B++ [y]) rfl z<|by simp[hz]
theorem RP (l:List Tx) (hl:l.length<=1048576) (hr:∀x∈l,x.Recs.length<=20000):OB l=some (De l):=by
 unfold OB;obtain⟨b,h1,h2⟩:=AP (body:=λs:Int×Int=>Iu l s.1 s.2) (λ(o:Int) i=>(o,i)) l.length (λi o=>o=(sG (l.take i):Int)) (λb=>b=(sG l:Int))
  (λo i hi ho=>by
   have hx:=Ab hi;have et:l.take (i+1)=l.take i++ [l[i]]:=Ao hi;simp only[Iu,Ev hi,Aw,hx,Aa];rw[ad1];refine .inl ?_;have d:(l.take i).length=i:=by grind
   cases a:l[i].Recs with
   |nil=>
    refine⟨o,rfl,?_⟩;rw[et,Rj,Av (by unfold dM;rw[a];simp),ho]
   |cons q m=>
    have hg:gi (q::m) 0=some q:=Aw (i:=0);rw[Ad (by rw[Bz,A7];omega:ln (q::m)>0)];simp only[Ae,hg,Aa]
    cases hk:(q.Kind==1)with
    |true=>
     refine⟨(i:Int),rfl,?_⟩;rw[et,Rj,Az (by unfold dM;rw[a];exact hk),d]
    |false=>
     refine⟨o,rfl,?_⟩
     rw[et,Rj,Av (by unfold dM;grind),ho])
  (λo ho=>⟨o,by simp only[Iu,DT],by grind⟩) (s:=0) rfl
 rw[h1,h2];simp only[Aa];have e:=sF l;obtain⟨c,q1,q2⟩:=VP (body:=λs:List Tx×Int=>It l s.1 s.2) (λ(o:List Tx) i=>(o,i)) l.length (λi o=>o=(l.take i).drop (sG l)/\sG l<=i) (λb=>b=De l)
  (λo i hi hs=>by
   obtain⟨ho,f⟩:=hs;have hx:=Ab hi;have hm:l[i]∈l:=A5 hi;have g:=hr _ hm;have et:l.take (i+1)=l.take i++ [l[i]]:=Ao hi;have h:o.length<=1048576:=by grind
   simp only[It,Ev hi,Aw,hx,Aa];rw[LV (by omega),Aa,BS (by grind),Aa,ad1];refine .inl ⟨_,rfl,?_,by omega⟩
   rw[et,List.drop_append_of_le_length (by grind),<-ho])
  (λo hs=>⟨o,by simp only[It,DT],by rw[hs.1,AW];rfl⟩) (l.length-sG l) (sG l) [] (by omega) ⟨by grind,Au _⟩
 rw[q1,q2];rfl
def CL (l:Vs) (nx:Int) (a:List Cz):Option (Vs×Int):=a.foldl (λo r=>o.bind λp=>DA p.1 p.2 r)<|some (l,nx)
theorem S8 (a:List Cz):a.foldl (λ(o:Option (Vs×Int)) r=>o.bind λp=>DA p.1 p.2 r) none=none:=by
 induction a with
 |nil=>rfl
 |cons r l ih=>grind
theorem FE (l:Vs) (nx:Int) (r:Cz) (a:List Cz):CL l nx (r::a)=(DA l nx r).bind λp=>CL p.1 p.2 a:=by
 unfold CL;rw[R2];simp only[Aa]
 cases DA l nx r with
 |none=>exact S8 a
 |some p=>rfl
theorem Mm (l:Vs) (nx:Int) (a b:List Cz):CL l nx (a++b)=(CL l nx a).bind λp=>CL p.1 p.2 b:=by
 unfold CL;rw[List.foldl_append]
 cases a.foldl (λ(o:Option (Vs×Int)) r=>o.bind λp=>DA p.1 p.2 r) (some (l,nx))with
 |none=>exact S8 b
 |some p=>rfl
def LI (s:Store) (a:List Cz) (o:Option (Store×Bool)):Prop:=match CL (By s) s.Next a with
 |none=>o=some (s,false)
 |some (l,nx)=>∃t,o=some (t,true)/\CC t/\By t=l/\t.Next=nx
theorem OX {s:Store} (h:CC s) (a:List Cz) (hr:a.length<=1048576):LI s a (Iz s a):=by
 have hl:=h.len;have e:=Lb h.ar (by have:=h.few;omega);have c:=Gq s e (by omega);unfold Iz;rw[c];simp only[Aa];obtain⟨b,h1,h2⟩:=AP (body:=λq:Int×List Vol×List B5×Int=>Ed s a q.1 q.2.1 q.2.2.1 q.2.2.2) (λ(t:Store) i=>(i,t.Vols,t.Arena.Knots,t.Next)) a.length
  (λi t=>CC t/\CL (By s) s.Next (a.take i)=some (By t,t.Next))
  (λb=>(b= .inr (s,false)/\CL (By s) s.Next a=none)\/∃t,b= .inl (t.Vols,t.Arena.Knots,t.Next)/\CC t/\CL (By s) s.Next a=some (By t,t.Next))
  (λt i hi hs=>by
   obtain⟨hP,he⟩:=hs;have hx:=Ab hi;obtain⟨e1,e2⟩:=JO hx;have et:a.take (i+1)=a.take i++ [a[i]]:=Ao hi;simp only[Ed,Ev hi,Aw,hx,Aa];have d:=bD hP a[i];unfold Mf at d;have f:Store.mk t.Vols (Arena.mk t.Arena.Knots) t.Next=t:=rfl;rw[f]
   cases hv:DA (By t) t.Next a[i]with
   |none=>
    rw[hv]at d;rw[d];simp only[Aa,AD,Ae];rw[c];refine .inr ⟨_,rfl,.inl ⟨rfl,?_⟩⟩;rw[e1,Mm,he,Aa,FE,hv];rfl
   |some p=>
    obtain⟨l,nx⟩:=p;rw[hv]at d;obtain⟨u,u1,u2,u3,u4⟩:=d;rw[u1];simp only[Aa,Ah,Ac];rw[ad1];refine .inl ⟨u,rfl,u2,?_⟩;rw[et,Mm,he,Aa,FE,hv,Aa,u3,u4]
    rfl)
  (λt hs=>⟨_,by simp only[Ed,DT],.inr ⟨t,rfl,hs.1,by grind⟩⟩) (s:=s) ⟨h,rfl⟩
 rw[h1];unfold LI
 rcases h2 with⟨rfl,h2⟩|⟨t,rfl,h2,h3⟩
 ·rw[h2];rfl
 rw[h3];exact⟨t,rfl,h2,rfl,rfl⟩
def Db (r:List Aq):Int:=r.foldl (λm y=>if y.Page.Seq>=m then y.Page.Seq+1 else m) 1
def DC (r:List Aq):Int:=r.foldl (λm y=>if y.Page.Kind=2/\y.Page.Tx>=m then y.Page.Tx+1 else m) 1
def LU (l:List Tx):Int:=match l with
 |[]=>0
 |x::_=>x.Num
def LF (l:List Tx):Vs×Int:=l.foldl (λp x=>(CL p.1 p.2 x.Recs).getD p) ([],1)
theorem Y4 (r:List Aq) (y:Aq):Db (r++ [y])=if y.Page.Seq>=Db r then y.Page.Seq+1 else Db r:=by unfold Db;grind
theorem Vh (r:List Aq) (y:Aq):DC (r++ [y])=if y.Page.Kind=2/\y.Page.Tx>=DC r then y.Page.Tx+1 else DC r:=by unfold DC;grind
theorem NS (r:List Aq):(∀y∈r,y.Page.Seq<Db r)/\1<=Db r/\(∀b,1<=b->(∀y∈r,y.Page.Seq<b)->Db r<=b):=by
 induction r using VC with
 |nil=>exact⟨λy hy=>(by cases hy),by simp[Db],λb hb _=>by simpa[Db]using hb⟩
 |app r x ih=>
  obtain⟨h1,h2,h3⟩:=ih;rw[Y4]
  grind
theorem Zc (r:List Aq):(∀y∈r,y.Page.Kind=2->y.Page.Tx<DC r)/\1<=DC r/\(∀b,1<=b->(∀y∈r,y.Page.Kind=2->y.Page.Tx<b)->DC r<=b):=by
 induction r using VC with
 |nil=>exact⟨λy hy=>(by cases hy),by simp[DC],λb hb _=>by simpa[DC]using hb⟩
 |app r x ih=>
  obtain⟨h1,h2,h3⟩:=ih;rw[Vh]
  grind
theorem WI (h:eB f r) (hf:BD f):GF r:=by
 have a:∀y∈r,(1<=y.Page.Seq/\y.Page.Seq<=1000000000)/\(1<=y.Page.Tx/\y.Page.Tx<=1000000000)/\(1<=y.Page.Count/\y.Page.Count<=9)/\(0<=y.Page.Part/\y.Page.Part<y.Page.Count):=by
  intro y hy;obtain⟨b,x,g1,g2,_,g3⟩:=h.page y hy;obtain⟨_,k1⟩:=Da g1;obtain⟨_,k2⟩:=Da g2;have hx:=hf.text b (Ar k1) x<|Ar k2;obtain⟨p,ok,m1,_,_,m2⟩:=IP x.Text (by omega);rw[g3]at m1
  injection m1 with m1
  injection m1 with m1 m3
  have hp:=m2 m3.symm;obtain⟨v,q1,_,q2⟩:=T5 p;rw[hp]at q1
  injection q1 with q1
  obtain⟨_,a1,a2,a3,a4,_⟩:=q2 q1.symm;rw[m1];exact⟨a1,a2,a3,a4⟩
 exact⟨h.len,h.text,λy hy=>(a y hy).1,λy hy=>(a y hy).2.1,λy hy=>(a y hy).2.2.1,λy hy=>(a y hy).2.2.2⟩
theorem V7 (r:List Aq) (hr:GF r):Ap (λs:Int×Int×Int=>HH r s.1 s.2.1 s.2.2) (0,1,1)=some (Db r,DC r):=by
 have c:=hr.len;obtain⟨b,h1,h2⟩:=AP (body:=λs:Int×Int×Int=>HH r s.1 s.2.1 s.2.2) (λ(o:Int×Int) i=>(i,o.1,o.2)) r.length (λi o=>o=(Db<|r.take i,DC<|r.take i)) (λb=>b=(Db r,DC r))
  (λo i hi ho=>by
   subst ho;have hx:=Ab hi;have hm:r[i]∈r:=A5 hi;have hs:=hr.seq _ hm;have ht:=hr.tx _ hm;have et:r.take (i+1)=r.take i++ [r[i]]:=Ao hi;simp only[HH,Ev hi,Aw,hx,Aa];rw[et,Y4,Vh,ad1];have a:(cond (decide<|r[i].Page.Seq>=Db (r.take i)) (some<|ad r[i].Page.Seq 1) (some<|Db<|r.take i):Option Int)=some (if r[i].Page.Seq>=Db (r.take i)then r[i].Page.Seq+1 else Db<|r.take i):=by
    by_cases e:r[i].Page.Seq>=Db (r.take i)
    ·rw[Ad e,Az e,Cy];rfl
    rw[Af e,Av e];rfl
   rw[a];simp only[Aa];refine .inl ?_;by_cases e:r[i].Page.Kind=2
   ·rw[show(r[i].Page.Kind==2)=true by simpa using e];simp only[Ae,Aa];by_cases e2:r[i].Page.Tx>=DC (r.take i)
    ·rw[Ad e2,Az<|show r[i].Page.Kind=2/\r[i].Page.Tx>=DC (r.take i)from⟨e,e2⟩,Cy];exact⟨(_,_),rfl,rfl⟩
    rw[Af e2,Av<|show¬(r[i].Page.Kind=2/\r[i].Page.Tx>=DC (r.take i))from λhh=>e2 hh.2];exact⟨(_,_),rfl,rfl⟩
   rw[show(r[i].Page.Kind==2)=false by simpa using e,Av<|show¬(r[i].Page.Kind=2/\r[i].Page.Tx>=DC (r.take i))from λhh=>e hh.1]
   exact⟨(_,_),rfl,rfl⟩)
  (λo ho=>⟨o,by simp only[HH,DT],by rw[ho,AW]⟩) (s:=(1,1)) rfl
 rw[h2]at h1;exact h1
theorem eX:CC (Store.mk [] (Arena.mk []) 1):=by
 refine⟨⟨by simp,rfl,by simp,by simp,by simp,by simp[B3],by simp[B3],by simp⟩,by simp⟩
theorem ZU (l:List Tx) (x:Tx):LF (l++ [x])=(CL (LF l).1 (LF l).2 x.Recs).getD (LF l):=by unfold LF;rw[List.foldl_append];rfl
theorem Z4 (l:List Tx) (hl:l.length<=1048576) (hr:∀x∈l,x.Recs.length<=20000):∃t,Ap (λs:Int×List Vol×List B5×Int×Int=>Dw l s.1 s.2.1 s.2.2.1 s.2.2.2.1 s.2.2.2.2) (0,[],[],1,0)=some (t.Vols,t.Arena.Knots,t.Next,LU l)/\CC t/\(By t,t.Next)=LF l:=by
 obtain⟨b,h1,t,h2,h3,h4⟩:=AP (body:=λs:Int×List Vol×List B5×Int×Int=>Dw l s.1 s.2.1 s.2.2.1 s.2.2.2.1 s.2.2.2.2) (λ(o:Store×Int) i=>(i,o.1.Vols,o.1.Arena.Knots,o.1.Next,o.2)) l.length
  (λi o=>CC o.1/\(By o.1,o.1.Next)=LF (l.take i)/\o.2=LU (l.take i)) (λb=>∃t,b=(t.Vols,t.Arena.Knots,t.Next,LU l)/\CC t/\(By t,t.Next)=LF l)
  (λo i hi hs=>by
   obtain⟨t,bs0⟩:=o;obtain⟨hP,hv,hb⟩:=hs;simp only at hP hv hb;have hx:=Ab hi;have hm:l[i]∈l:=A5 hi;have j:=hr _ hm;have et:l.take (i+1)=l.take i++ [l[i]]:=Ao hi;simp only[Dw,Ev hi,Aw,hx,Aa];have g:(cond ((i:Int)==0) (some l[i].Num) (some bs0):Option Int)=some (LU<|l.take<|i+1):=by
    by_cases e:i=0
    ·subst e;rw[et];simp[LU]
    rw[show((i:Int)==0)=false by simp;omega,hb,et];simp only[Ac]
    cases h5:l.take i with
    |nil=>
     have:=BE List.length h5;rw[AU,BU]at this;omega
    |cons a m=>rfl
   rw[g];simp only[Aa];have d:=OX hP l[i].Recs (by omega);unfold LI at d;have h:Store.mk t.Vols (Arena.mk t.Arena.Knots) t.Next=t:=rfl;have e1:By t=(LF<|l.take i).1:=BE Prod.fst hv;have e2:t.Next=(LF<|l.take i).2:=BE Prod.snd hv;rw[h,ad1];refine .inl ?_;have f:=ZU (l.take i) l[i];rw[<-et]at f
   cases c:CL (By t) t.Next l[i].Recs with
   |none=>
    rw[c]at d;rw[d];refine⟨(t,LU<|l.take<|i+1),rfl,hP,?_,rfl⟩;rw[f,<-e1,<-e2,c,Option.getD_none];exact hv
   |some p=>
    obtain⟨lv,nx⟩:=p;rw[c]at d;obtain⟨u,u1,u2,u3,u4⟩:=d;rw[u1];refine⟨(u,LU<|l.take<|i+1),rfl,u2,?_,rfl⟩;rw[f,<-e1,<-e2,c,Bi];show(By u,u.Next)=(lv,nx)
    rw[u3,u4])
  (λo hs=>⟨(o.1.Vols,o.1.Arena.Knots,o.1.Next,o.2),by simp only[Dw,DT],o.1,by rw[hs.2.2,AW],hs.1,by rw[hs.2.1,AW]⟩) (s:=(Store.mk [] (Arena.mk []) 1,0)) ⟨eX,rfl,rfl⟩
 exact⟨t,by rw[<-h2];exact h1,h3,h4⟩
structure HD (d:AA) (r:List Aq):Prop where
 fl:BD d.Flash
 scan:eB d.Flash r
 sr:SR (KE 0 d.Flash.Blocks) r
 st:CC d.Store
 ab:(By d.Store,d.Store.Next)=LF (De (Br r))
 seq:d.Seq=Db r
 tx:d.Tx=DC r
 base:d.Base=LU (De (Br r))
theorem HD.pages (h:HD d r):GF r:=WI h.scan h.fl
theorem QW (hr:GF r):(Br r).length<=1048576/\∀x∈Br r,x.Recs.length<=20000:=by
 have b:=hr.len;have a:=GY r λy hy=>(hr.tx y hy).1;have:=List.length_filterMap_le (Ih r)<|Dy r;refine⟨by unfold Br;omega,λx hx=>?_⟩;obtain⟨t,_,ht⟩:=List.mem_filterMap.1 hx;exact(SI hr ht).2
theorem SL (l:List Tx):(De l).length<=l.length/\∀x∈De l,x∈l:=⟨by unfold De;rw[Cb];omega,λx hx=>List.mem_of_mem_drop hx⟩
theorem V8 (hf:BD f):∃d r,CR f=some (d,true)/\HD d r/\d.Flash=f:=by
 obtain⟨r,hs,a⟩:=AA3 hf;have hr:=WI hs hf;obtain⟨g1,g2⟩:=QW hr;obtain⟨b1,b2⟩:=SL<|Br r;obtain⟨t,t1,t2,t3⟩:=Z4 (De<|Br r) (by omega) λx hx=>g2 x<|b2 x hx;refine⟨AA.mk f t (Db r) (DC r)<|LU<|De<|Br r,r,?_,⟨hf,hs,a,t2,t3,rfl,rfl,rfl⟩,rfl⟩;unfold CR;rw[Qb hf,hs.s,Dn f hf.cap];unfold NY;simp only[Aa,Ah,Ac];rw[V7 r hr,OD r hr];simp only[Aa];rw[RP _ g1 g2];simp only[Aa];rw[t1];rfl
theorem mI (a b:List Int) (ha:a.length<=1048576):Md a b=some (decide (a=b)):=by
 unfold Md;by_cases hl:a.length=b.length
 ·rw[show(ln a !=ln b)=false by simp[ln,hl]];simp only[Ac]
  rw[uV (body:=λs:Int=>GS a b s) a b (λx y=>x==y) hl (by omega)
   (λi x y hx hy=>by
    have hi:=(Ag.1 hx).1;simp only[GS,Ev hi,Aw,hx,hy,Aa];rw[ad1]
    cases c:x==y<;>simp[bne,c])
   (by simp only[GS,DT])]
  have:=tD (p:=λx y:Int=>x==y) (a:=a) (b:=b) (λx _ y _=>by simp) hl
  cases hz:(a.zip b).all (λz=>z.1==z.2)with
  |true=>rw[Ad<|this.1 hz];rfl
  |false=>rw[Af (λhh=>by rw[this.2 hh]at hz;cases hz)];rfl
 rw[show(ln a !=ln b)=true by simp[ln];omega,Af λhh=>hl<|by rw[hh]];rfl
theorem SD {a b:Store} (ha:CC a) (hb:CC b):Kd a b=some (decide (By a=By b/\a.Next=b.Next)):=by
 have e:=ha.len;have f:=hb.len;have g:=ha.few;have h:=hb.few;unfold Kd;by_cases hl:a.Vols.length=b.Vols.length
 ·rw[show(ln a.Vols !=ln b.Vols)=false by simp[ln,hl]];simp only[Ac,Aa];by_cases hn:a.Next=b.Next
  ·rw[show(a.Next !=b.Next)=false by simp[hn]];simp only[Ac]
   rw[uV (body:=λs:Int=>Iw a b s) a.Vols b.Vols (λv w=>v.Id==w.Id&&decide (EZ a.Arena.Knots v.Root=EZ b.Arena.Knots w.Root)) hl (by omega)
    (λi x y hx hy=>by
     have hi:=(Ag.1 hx).1;simp only[Iw,Ev hi,Aw,hx,hy,Aa];rw[NZ _ (by omega) ha.ar<|ha.root _<|AF.2 ⟨x,Ar hx,rfl⟩,NZ _ (by omega) hb.ar<|hb.root _<|AF.2 ⟨y,Ar hy,rfl⟩];simp only[Aa];rw[mI _ _ (by unfold EZ;simp)];simp only[Aa];rw[ad1]
     cases c:x.Id==y.Id with
     |false=>simp[bne,c]
     |true=>
      simp only[bne,c,Ah,Ac,CZ]
      cases decide (EZ a.Arena.Knots x.Root=EZ b.Arena.Knots y.Root)<;>rfl)
    (by simp only[Iw,DT])]
   have d:(a.Vols.zip b.Vols).all (λz=>z.1.Id==z.2.Id&&decide (EZ a.Arena.Knots z.1.Root=EZ b.Arena.Knots z.2.Root))=decide (By a=By b):=by
    unfold By;generalize a.Vols=l at hl;generalize b.Vols=m at hl
    induction l generalizing m with
    |nil=>cases m with
     |nil=>simp
     |cons y m=>simp at hl
    |cons x l ih=>
     cases m with
     |nil=>simp at hl
     |cons y m=>
      rw[List.zip_cons_cons,FK,ih m (by simpa using hl),DR];simp only[Aj,Ce,A6,BJ,R3,Bo]
   rw[d]
   cases hd:decide (By a=By b)with
   |true=>rw[Ad ⟨HR hd,hn⟩];rfl
   |false=>rw[Af λhh=>of_decide_eq_false hd hh.1];rfl
  rw[show(a.Next !=b.Next)=true by simpa using hn,Af λhh=>hn hh.2];rfl
 rw[show(ln a.Vols !=ln b.Vols)=true by simp[ln];omega,Af (λhh=>hl (by have:=BE List.length hh.1;rwa [IM,IM]at this))];rfl
theorem Ms (h:HD d r):P8 d=some d:=by
 have:=h.st.len;unfold P8;rw[Dn _ h.fl.cap,Gq _ (Lb h.st.ar (by have:=h.st.few;omega))<|by omega];rfl
theorem HD.uniq {d':AA} (h:HD d r) (h':HD d' r') (e:d.Flash=d'.Flash):r=r':=by
 have h1:=h.sr;have h2:=h'.sr;rw[<-e]at h2;exact h1.uniq h2
theorem Qq (h:HD d r):Qr d=some true:=by
 obtain⟨m,r',h1,h2,h3⟩:=V8 h.fl;obtain rfl:=h.uniq h2 h3.symm;unfold Qr;rw[h1];simp only[Aa,Ae];have e:=h2.ab.trans h.ab.symm
 injection e with e1 e2
 rw[SD h2.st h.st,Ad ⟨e1,e2⟩];simp only[Aa,Ae];rw[h2.seq,h.seq,h2.tx,h.tx,h2.base,h.base];simp only[BEq.rfl,Ae];rw[RO h.st];rfl
theorem aY {f g:α->Option β} (h:∀x∈l,f x=g x):l.filterMap f=l.filterMap g:=by
 induction l with
 |nil=>rfl
 |cons a l ih=>grind
theorem rX {p q:α->Bool} (h:∀x∈l,p x=q x):l.find? p=l.find? q:=by
 induction l with
 |nil=>rfl
 |cons a l ih=>grind
theorem XF (h:∀a b,R7 r' t a b=R7 r t a b):∀(n:Nat) (a b:Int) (x:List UInt8) (q:Int),parts r' t n a b x q=parts r t n a b x q
 |0,_,_,_,_=>rfl
 |n+1,a,b,x,q=>by
  simp only[parts,h];split
  ·split
   ·rfl
   exact XF h n _ _ _ _
  rfl
theorem Ug (h:∀a b,R7 r' t a b=R7 r t a b):Ih r' t=Ih r t:=by
 unfold Ih;rw[XF h]
theorem WS {t a b:Int} (h:pT t a b y=true):y.Page.Kind=2/\y.Page.Tx=t/\y.Page.Part=a:=by
 unfold pT at h
 grind
theorem kT (r m:List Aq) (t a b:Int):R7 (r++m) t a b=(R7 r t a b).or (R7 m t a b):=by unfold R7;grind
theorem We {t a b:Int} (h:∀y∈r,y.Page.Kind=2->y.Page.Tx≠t):R7 r t a b=none:=by
 unfold R7;rw[N8];intro y hy hm;obtain⟨h1,h2,_⟩:=WS hm;exact h y hy h1 h2
theorem vB (h:∀y∈r,y.Page.Kind=2->y.Page.Tx≠t):Ih r t=none:=by
 unfold Ih;have:parts r t 11 0 0 [] 0=none:=by
  simp only[parts];rw[Az<|.inl trivial,We h]
 rw[this]
theorem vY (r:List Aq) (hy:y.Page.Kind≠2):Dy (r++ [y])=Dy r:=by rw[VL,Av hy]
theorem XM (r:List Aq) (hy:y.Page.Kind≠2):Br (r++ [y])=Br r:=by
 unfold Br;rw[vY r hy];congr 1;funext t
 refine Ug λa b=>?_
 rw[kT,We (r:=[y]) (λz hz hk=>by grind),Option.or_none]
structure g8 (m:List Aq) (t:Int) (n:Nat) (texts:List ByteArray):Prop where
 len:m.length<=n
 pos:1<=n/\n<=9
 tl:texts.length=n
 at_:∀(i:Nat) y,m[i]?=some y->y.Page.Kind=2/\y.Page.Tx=t/\y.Page.Part=i/\y.Page.Count=n/\texts[i]?=some y.Page.Text
theorem g8.all (h:g8 m t n texts) (hy:y∈m):y.Page.Kind=2/\y.Page.Tx=t:=by
 obtain⟨i,hi,rfl⟩:=AC hy;obtain⟨h1,h2,_⟩:=h.at_ i _<|Ab hi;exact⟨h1,h2⟩
theorem AAa (r:List Aq) (hr:∀y∈r,1<=y.Page.Tx) (ht:∀y∈r,y.Page.Kind=2->y.Page.Tx<t) (h0:1<=t):∀(m:List Aq),m≠ []->(∀y∈m,y.Page.Kind=2/\y.Page.Tx=t)->Dy (r++m)=Dy r++ [t]:=by
 intro m hm a;have h1:=GY (r++m) (λy hy=>by grind);have h2:=GY r hr
 refine Wn h1.1 ?_ λx=>?_
 ·unfold asc;rw[AQ];refine⟨h2.1,Jk _ _,λx hx z hz=>?_⟩
  grind
 rw[h1.2.1,Ak,AE,h2.2.1];constructor
 ·grind
 rintro(⟨y,hy,hk,rfl⟩|rfl)
 ·grind
 cases m with
 |nil=>exact absurd rfl hm
 |cons y m=>exact⟨y,by simp,(a y<|by simp).1,(a y<|by simp).2⟩
theorem ACc (h:g8 m t n texts) {a:Nat} {b:Int} (hc:a=0\/b=n):R7 m t a b=m[a]? :=by
 cases hy:m[a]? with
 |none=>
  unfold R7;rw[N8];intro y c hm;obtain⟨i,hi,rfl⟩:=AC c;obtain⟨_,_,h3,_⟩:=h.at_ i _<|Ab hi;have:=(WS hm).2.2
  grind
 |some y=>
  obtain⟨h1,h2,h3,h4,_⟩:=h.at_ a y hy;refine kW m _ (λj x hj hx=>?_) hy ?_
  ·obtain⟨_,_,k3,_⟩:=h.at_ j x hx;rw[Bool.eq_false_iff];intro hm;have:=(WS hm).2.2;omega
  unfold pT
  grind
def Ps (l:List ByteArray):List UInt8:=l.flatMap L
theorem fS (hr:∀y∈r,y.Page.Kind=2->y.Page.Tx≠t) (h:g8 m t n texts):∀(k a:Nat) (c:Int) (x:List UInt8) (q:Int) (b:Nat),a+k=n->(a=0\/c=n)->k<b->
  (m.length=n->∃q',parts (r++m) t b a c x q=some (x++Ps (texts.drop a),q'))/\(m.length<n->a<=m.length->parts (r++m) t b a c x q=none)
 |k,a,c,x,q,0,hk,hc,hf=>by omega
 |0,a,c,x,q,b+1,hk,hc,hf=>by
  have hp:=h.pos;simp only[parts];rw[Av<|by omega];refine⟨λ_=>⟨q,?_⟩,λh1 h2=>by omega⟩;rw[DY (by have:=h.tl;omega)];simp[Ps]
 |k+1,a,c,x,q,b+1,hk,hc,hf=>by
  have hp:=h.pos;simp only[parts];rw[Az (by omega),kT,We hr,Option.none_or,ACc h hc]
  cases hy:m[a]? with
  |none=>grind
  |some y=>
   obtain⟨h1,h2,h3,h4,h5⟩:=h.at_ a y hy;have d:=(Ag.1 hy).1;simp only[];obtain⟨k1,k2⟩:=fS hr h k (a+1) y.Page.Count (x++L y.Page.Text) (Oe a q y) b (by omega) (.inr h4) (by omega);rw[show((a+1:Nat):Int)=(a:Int)+1 from rfl]at k1 k2;refine⟨λh6=>?_,λh6 h7=>k2 h6<|by omega⟩;obtain⟨q',k3⟩:=k1 h6;refine⟨q',?_⟩
   rw[k3,show texts.drop a=y.Page.Text::texts.drop (a+1) by
    have h8:=(Ag.1 h5)
    rw[AS h8.1,h8.2]]
   simp only[Ps,Kv,Ax]
theorem rP (r:List Aq) (hr:∀y∈r,1<=y.Page.Tx) (ht:∀y∈r,y.Page.Kind=2->y.Page.Tx<t) (h0:1<=t) (h:g8 m t n texts):
  (m.length<n->Br (r++m)=Br r)/\(m.length=n->∀a,fN (bs (Ps texts))=some a->∃q,Br (r++m)=Br r++ [Tx.mk t q a]):=by
 have b:∀y∈r,y.Page.Kind=2->y.Page.Tx≠t:=λy hy hk=>by grind
 have old:∀x∈Dy r,Ih (r++m) x=Ih r x:=by
  intro x hx;have:=GY r hr;obtain⟨y,hy,hk,rfl⟩:=(this.2.1 x).1 hx;have:=ht y hy hk
  refine Ug λd f=>?_
  rw[kT,We (r:=m) (λz hz g=>by rw[(h.all hz).2];omega),Option.or_none]
 have oldG:(Dy r).filterMap (Ih<|r++m)=Br r:=by
  unfold Br;exact aY old
 by_cases hm:m=[]
 ·subst hm;have:=h.pos
  grind
 have c:=AAa r hr ht h0 m hm λy hy=>h.all hy;have hg:Br (r++m)=Br r++(match Ih (r++m) t with|some x=>[x]|none=>[]):=by
  have:Br (r++m)=(Dy<|r++m).filterMap (Ih<|r++m):=rfl
  grind
 have hp:=h.pos;obtain⟨p1,p2⟩:=fS b h n 0 0 [] 0 11 (by omega) (.inl rfl) (by omega);refine⟨λh1=>?_,λh1 a e=>?_⟩
 ·have:Ih (r++m) t=none:=by
   unfold Ih
   grind
  grind
 obtain⟨q,p3⟩:=p1 h1;rw[show((0:Nat):Int)=0 from rfl]at p3;have:Ih (r++m) t=some (Tx.mk t q a):=by
  unfold Ih
  grind
 grind
structure pH (r:List Aq):Prop where
 uniq:∀y∈r,∀z∈r,y.Page.Kind=2->z.Page.Kind=2->y.Page.Tx=z.Page.Tx->y.Page.Part=z.Page.Part->y=z
theorem rW (h:pH r) (p:Aq->Bool) {t a b:Int} (hf:R7 (r.filter p) t a b=some y):R7 r t a b=some y:=by
 obtain⟨h1,h2⟩:=S5 hf;have h3:=(Bf.1 h1).1
 cases hz:R7 r t a b with
 |none=>
  unfold R7 at hz
  grind
 |some z=>
  obtain⟨k1,k2⟩:=S5 hz;obtain⟨a1,a2,a3⟩:=WS h2;obtain⟨b1,b2,b3⟩:=WS k2;rw[h.uniq z k1 y h3 b1 a1 (by rw[a2,b2])<|by rw[a3,b3]]
theorem VI (h:pH r) (p:Aq->Bool):∀(n:Nat) (a b:Int) (x:List UInt8) (q:Int) (w:List UInt8×Int),parts (r.filter p) t n a b x q=some w->parts r t n a b x q=some w
 |0,_,_,_,_,_,hw=>by cases hw
 |n+1,a,b,x,q,w,hw=>by
  simp only[parts]at hw⊢;split
  ·rename_i hc;rw[Az hc]at hw
   cases hf:R7 (r.filter p) t a b with
   |none=>grind
   |some y=>
    rw[hf]at hw;rw[rW h p hf];exact VI h p n _ _ _ _ w hw
  grind
theorem lW {x:Tx} (h:pH r) (p:Aq->Bool) (hx:Ih (r.filter p) t=some x):Ih r t=some x:=by
 unfold Ih at hx⊢
 cases hp:parts (r.filter p) t 11 0 0 [] 0 with
 |none=>grind
 |some w=>
  rw[hp]at hx;rw[VI h p _ _ _ _ _ w hp];exact hx
theorem rQ (r:List Aq) (hr:GF r):(Br r).Pairwise λx y=>x.Num<y.Num:=by
 have h1:=(GY r λy hy=>(hr.tx y hy).1).1;unfold Br;rw[List.pairwise_filterMap];refine List.Pairwise.imp ?_ h1;intro a b c x hx y hy;rw[(SI hr hx).1,(SI hr hy).1];exact c
theorem Wg (l:List α) (f:α->Option β) (q:β->Bool):(l.filterMap f).filter q=l.filterMap (λa=>(f a).filter q):=by
 induction l with
 |nil=>rfl
 |cons a l ih=>grind
theorem iF (r:List Aq) (hr:GF r) (h:pH r) (p:Aq->Bool) (hp:∀y∈r,y.Page.Kind=2->LU (De (Br r))<=y.Page.Tx->p y=true):De (Br (r.filter p))=De (Br r):=by
 have hr':GF (r.filter p):=⟨by have:=CK p r;have:=hr.len;omega,λy hy=>hr.text y (Bf.1 hy).1,λy hy=>hr.seq y (Bf.1 hy).1,λy hy=>hr.tx y (Bf.1 hy).1,λy hy=>hr.cnt y (Bf.1 hy).1,λy hy=>hr.part y (Bf.1 hy).1⟩;have s1:=GY r λy hy=>(hr.tx y hy).1;have s2:=GY (r.filter p) λy hy=>(hr'.tx y hy).1;have e1:Br (r.filter p)=(Dy r).filterMap (Ih<|r.filter p):=by
  have hn:Dy (r.filter p)=(Dy r).filter (λt=>decide<|t∈Dy (r.filter p)):=by
   refine Wn s2.1 (List.Pairwise.filter _ s1.1) λx=>?_
   grind
  unfold Br
  conv=>lhs;rw[hn]
  rw[List.filterMap_filter]
  refine aY λt ht=>?_
  by_cases e:t∈Dy (r.filter p)
  ·grind
  rw[Av<|by simpa using e];symm
  refine vB λy hy hk c=>e<|(s2.2.1 t).2 ⟨y,hy,hk,c⟩
 have keep:∀t,LU (De<|Br r)<=t->Ih (r.filter p) t=Ih r t:=by
  intro t ht
  refine Ug λpart cnt=>?_
  unfold R7;rw[List.find?_filter]
  refine rX λy hy=>?_
  cases hm:pT t part cnt y with
  |false=>simp
  |true=>
   obtain⟨a1,a2,_⟩:=WS hm
   grind
 have e2:Br (r.filter p)=(Br r).filter λx=>(Ih (r.filter p) x.Num).isSome:=by
  rw[e1];unfold Br;rw[Wg]
  refine aY λt ht=>?_
  cases hx:Ih (r.filter p) t with
  |some x=>
   have h1:=lW h p hx;rw[h1];have h2:=(SI hr h1).1
   grind
  |none=>
   cases hy:Ih r t with
   |none=>rfl
   |some x=>
    have h2:=(SI hr hy).1
    grind
 obtain⟨A,h1,h2,h3⟩:=mD<|Br r;have a:=rQ r hr;have hB:(De<|Br r).filter (λx=>(Ih (r.filter p) x.Num).isSome)=De (Br r):=by
  rw[GH];intro x hx;have d:=(SL<|Br r).2 x hx;obtain⟨t,_,ht⟩:=List.mem_filterMap.1 d;have hn:=(SI hr ht).1;have g:LU (De<|Br r)<=x.Num:=by
   rw[h1,AQ]at a
   cases hb:De (Br r)with
   |nil=>grind
   |cons b B=>
    have f:=a.2.1;rw[hb,C0]at f;rw[hb,CO]at hx;simp only[LU]
    grind
  grind
 rw[e2]
 conv=>lhs;rw[h1]
 rw[AN,hB];refine yU _ _ (λi=>h2 λhA=>?_) h3
 grind
theorem Xd:∀n:Nat,∃ds x,Cs n=ds++ [x]/\(∀d∈ds,128<=d.toNat)/\x.toNat<128/\Fx (Cs n)=n
 |n=>by
  by_cases h:n<=127
  ·rw[JQ h];have:(UInt8.ofNat n).toNat=n:=by rw[Hf];omega
   exact⟨[],_,rfl,by simp,by omega,by simp only[Fx];omega⟩
  obtain⟨ds,x,h1,h2,h3,h4⟩:=Xd<|n/128;rw[SA h];have e:(UInt8.ofNat<|n %128+128).toNat=n %128+128:=by rw[Hf];omega
  refine⟨UInt8.ofNat (n %128+128)::ds,x,by rw[h1];rfl,?_,h3,?_⟩
  ·intro d hd
   rcases CO.1 hd with rfl|hd
   ·omega
   exact h2 d hd
  simp only[Fx];rw[h4,e];omega
termination_by n=>n
decreasing_by omega
theorem IK (h:n<=1000000000):1<=(Cs n).length/\(Cs n).length<=5:=by
 have a:∀(k n:Nat),n<128^(k+1)->(Cs n).length<=k+1:=by
  intro k
  induction k with
  |zero=>intro n hn;rw[JQ<|by omega];simp
  |succ k ih=>
   intro n hn;by_cases h:n<=127
   ·rw[JQ h];simp
   rw[SA h,A7];have:=ih (n/128) (by rw[Yt]at hn;omega);omega
 refine⟨?_,a 4 n<|by omega⟩;obtain⟨ds,x,h1,_⟩:=Xd n;rw[h1];simp
theorem pD (t:ByteArray) (ht:(L t).length<=20000) (a n:Nat) (hn:n<=1000000000) (rest:List UInt8) (h:(L t).drop a=Cs n++rest):Ke t (a:Int)=some ((n:Int),((a+(Cs n).length:Nat):Int),true):=by
 obtain⟨ds,x,hD,u,hx,hv⟩:=Xd n;obtain⟨h1,h2⟩:=IK hn;have h0:(L t).length-a=(Cs n).length+rest.length:=by
  have:=BE List.length h;rw[Cb,Ai]at this;exact this
 have h3:(Cs n).length=ds.length+1:=by rw[hD];simp
 have f:∀k,k<=(Cs n).length->((L t).drop a).take k=(Cs n).take k:=λk hk=>by rw[h,FQ hk]
 have v:∀(m k:Nat),k+m=ds.length->Ap (λs:Int×Int×Int=>DP t (a:Int) s.1 s.2.1 s.2.2) (((Fx ((Cs n).take k):Nat):Int),((128^k:Nat):Int),((a+k:Nat):Int))=some (.inr ((n:Int),((a+(Cs n).length:Nat):Int),true)):=by
  intro m
  induction m with
  |zero=>
   intro k hk;have g:k=ds.length:=by omega
   suffices d:DP t (a:Int) ((Fx ((Cs n).take k):Nat):Int) ((128^k:Nat):Int) ((a+k:Nat):Int)=some (.inr<|.inr ((n:Int),((a+(Cs n).length:Nat):Int),true)) by
    rw[A0];simp only[d]
   simp only[DP];have e:a+k<(L t).length:=by omega
   rw[Cy (b:=5) (by omega) (by omega),B8,Ad (by omega:((a+k:Nat):Int)<(a:Int)+5),Ad (by omega:((a+k:Nat):Int)<((L t).length:Int))];simp only[Ae,Aa,Fk t e];have hb:(L t)[a+k]=x:=by
    have:((L t).drop a)[k]?=some x:=by
     rw[h,hD,Bj (by simp;omega),g,Bp<|Au _,Ys];rfl
    rw[C1,Ab e]at this;injection this
   rw[hb];have c:=O5 ds [x];rw[<-hD,hv]at c;have w:(Cs n).take k=ds:=by rw[hD,g,R1 rfl]
   rw[w];simp only[Fx,Nat.mul_zero,HT]at c;have hp:=jI k (by omega);have hw:IntKind.i64.wrap (x.toNat:Int)=x.toNat:=Px (by omega) (by omega);have l:x.toNat %128*128^k<=127*268435456:=eD (by omega) hp;have emul:ml ((x.toNat %128:Nat):Int) ((128^k:Nat):Int)=((x.toNat %128*128^k:Nat):Int):=by
    have ec:((x.toNat %128:Nat):Int)*((128^k:Nat):Int)=((x.toNat %128*128^k:Nat):Int):=by norm_cast
    rw[PH (by rw[ec];omega) (by rw[ec];omega),ec]
   have i:=Y0 ds;rw[<-g]at i c;have enew:ad ((Fx ds:Nat):Int) ((x.toNat %128*128^k:Nat):Int)=(n:Int):=by
    rw[Cy,c,sU<|128^k];omega
   rw[hw,iC,emul,enew,Ad (by omega:(x.toNat:Int)<128),Af (by omega:¬(n:Int)>1000000000),ad1];simp only[Ae,Ac];obtain⟨s,y,z⟩:=Ja n (by omega);rw[FM t (by omega) (by omega),y];simp only[Aa];have o:seq s (t.extract a<|a+k+1)=true:=by
    rw[Rt,z,IR,show a+k+1-a=k+1 by omega,f _ (by omega),AM<|by omega];simp
   rw[o];simp only[Ah,Ac];rw[show a+k+1=a+(Cs n).length by omega]
  |succ m ih=>
   intro k hk;suffices d:DP t (a:Int) ((Fx ((Cs n).take k):Nat):Int) ((128^k:Nat):Int) ((a+k:Nat):Int)=some (.inl (((Fx ((Cs n).take<|k+1):Nat):Int),((128^(k+1):Nat):Int),((a+(k+1):Nat):Int))) by
    rw[A0];simp only[d];exact ih (k+1)<|by omega
   simp only[DP];have e:a+k<(L t).length:=by omega
   rw[Cy (b:=5) (by omega) (by omega),B8,Ad (by omega:((a+k:Nat):Int)<(a:Int)+5),Ad (by omega:((a+k:Nat):Int)<((L t).length:Int))];simp only[Ae,Aa,Fk t e];have j:k<ds.length:=by omega
   have p:(Cs n)[k]?=some ds[k]:=by rw[hD,Bj j,Ab j]
   have hb:(L t)[a+k]=ds[k]:=by
    have:((L t).drop a)[k]?=some ds[k]:=by
     rw[h,Bj (by omega),p]
    rw[C1,Ab e]at this;injection this
   rw[hb];have h128:=u _<|A5 j;have hx:=lT ds[k];have q:(Cs n).take (k+1)=(Cs n).take k++ [ds[k]]:=by rw[Eg,p];rfl
   have r:((Cs n).take k).length=k:=by rw[AU];omega
   have c:=O5 ((Cs n).take k) [ds[k]];rw[<-q,r]at c;have i:=Y0<|(Cs n).take k;rw[r]at i;have hp:=jI k (by omega);generalize ds[k]=x at hx q c h128;simp only[Fx,Nat.mul_zero,HT]at c;have hw:IntKind.i64.wrap (x.toNat:Int)=x.toNat:=Px (by omega) (by omega);have l:x.toNat %128*128^k<=127*268435456:=eD (by omega) hp;have emul:ml ((x.toNat %128:Nat):Int) ((128^k:Nat):Int)=((x.toNat %128*128^k:Nat):Int):=by
    have ec:((x.toNat %128:Nat):Int)*((128^k:Nat):Int)=((x.toNat %128*128^k:Nat):Int):=by norm_cast
    rw[PH (by rw[ec];omega) (by rw[ec];omega),ec]
   have enew:ad (((Fx ((Cs n).take k):Nat)):Int) ((x.toNat %128*128^k:Nat):Int)=((Fx ((Cs n).take<|k+1):Nat):Int):=by
    rw[Cy,c,sU<|128^k];omega
   have e1:ml ((128^k:Nat):Int) 128=((128^(k+1):Nat):Int):=by
    rw[PH (by omega) (by omega),Yt];norm_cast
   rw[hw,iC,emul,enew,Af (by omega:¬(x.toNat:Int)<128),e1,ad1];rfl
 unfold Ke;rw[B8,EP,Ad<|by omega];simp only[Aa,Ah,Ac];have k0:=v ds.length 0 (by omega);simp only[Jj,Fx,Nat.pow_zero,HT]at k0;rw[show((0:Nat):Int)=0 from rfl,show((1:Nat):Int)=1 from rfl]at k0;rw[k0];rfl
theorem LG (t:ByteArray) (ht:(L t).length<=20000) (a n:Nat) (hn:n<=1000000000) (rest:List UInt8) (h:(L t).drop a=Cs n++rest):Ds (E9.mk t (a:Int) false)=some ((n:Int),E9.mk t ((a+(Cs n).length:Nat):Int) false):=by
 rw[Ki t _ ht<|pD t ht a n hn rest h];rfl
def qP (r:Cz):List UInt8:=UInt8.ofNat (16*r.Kind+r.Vol).toNat::(Cs r.Arg.toNat++Cs r.Chunk.toNat)
theorem jE {r:Cz} (h:GJ r=true):1<=r.Kind/\r.Kind<=5/\0<=r.Vol/\r.Vol<=9/\0<=r.Arg/\r.Arg<=1000000000/\0<=r.Chunk/\r.Chunk<=1000000000:=by
 unfold GJ at h
 cases k1:(r.Kind==1)with
 |true=>
  have e1:r.Kind=1:=by simpa using k1
  rw[k1]at h;simp at h;omega
 |false=>
  rw[k1]at h;cases k2:(r.Kind==2)<;>cases k3:(r.Kind==3)<;>cases k4:(r.Kind==4)<;>rw[k2,k3,k4]at h<;>simp at h k2 k3 k4<;>omega
theorem iU {r:Cz} (h:GJ r=true):∃t,NB r=some (t,true)/\L t=qP r:=by
 obtain⟨h1,h2,h3,h4,h5,h6,h7,h8⟩:=jE h;obtain⟨sa,a1,a2⟩:=Ja r.Arg.toNat (by omega);obtain⟨sc,c1,c2⟩:=Ja r.Chunk.toNat (by omega);rw[Bk h5]at a1;rw[Bk h7]at c1;unfold NB JY;rw[NC,h];simp only[Aa,Ah,Ac];rw[PH (by omega) (by omega),Cy,a1];simp only[Aa];have l1:=(IK<|show r.Arg.toNat<=1000000000 by omega).2;have l2:=(IK<|show r.Chunk.toNat<=1000000000 by omega).2;have hb:∀x,(L<|Fl [x]).length=1:=RD;rw[FV _ _ (by rw[hb,a2];omega),c1];simp only[Aa];rw[FV _ _ (by rw[DZ,Ai,hb,a2,c2];omega)];simp only[Aa];refine⟨_,rfl,?_⟩;rw[DZ,DZ,LX,a2,c2];unfold qP;have hw:IntKind.u8.wrap (16*r.Kind+r.Vol)=16*r.Kind+r.Vol:=by
  rw[IntKind.wrap_u8];omega
 simp only[BJ,sV,hw,D6,B4,A4]
def Hk (l:List Cz):List UInt8:=l.flatMap qP
theorem zJ {r:Cz} (h:GJ r=true):3<=(qP r).length/\(qP r).length<=11:=by
 obtain⟨h1,h2,h3,h4,h5,h6,h7,h8⟩:=jE h;have l1:=IK (show r.Arg.toNat<=1000000000 by omega);have l2:=IK (show r.Chunk.toNat<=1000000000 by omega);unfold qP;rw[A7,Ai];omega
theorem fM (t:ByteArray) (ht:(L t).length<=20000):∀(l:List Cz) (a:Nat) (b:List Cz),(∀r∈l,GJ r=true)->(L t).drop a=Hk l->a<=(L t).length->b.length<=a->Ap (λs:List Cz×ByteArray×Int×Bool=>DL t s.1 s.2.1 s.2.2.1 s.2.2.2) (b,t,(a:Int),false)=some (.inl (b++l))
 |[],a,b,hl,h,ha,ho=>by
  have:(L t).length=a:=by
   have:=BE List.length h;rw[Cb]at this;simp[Hk]at this;omega
  rw[A0];simp only[DL];rw[B8,Af (by omega),A3];rfl
 |r::l,a,b,hl,h,ha,ho=>by
  have hr:=hl r (by simp);obtain⟨h1,h2,h3,h4,h5,h6,h7,h8⟩:=jE hr;have h':(L t).drop a=UInt8.ofNat (16*r.Kind+r.Vol).toNat::(Cs r.Arg.toNat++(Cs r.Chunk.toNat++Hk l)):=by
   rw[h];simp only[Hk,Kv,qP,B4,Ax]
  have c:a<(L t).length:=by
   have:=BE List.length h';rw[Cb,A7]at this;omega
  have d:=AS c;rw[h']at d
  injection d with hx hd
  rw[A0];simp only[DL];rw[B8,Ad<|by omega];simp only[Ae,Aa,AD];rw[Fk t c,ad1,Aa,LG t ht (a+1) r.Arg.toNat (by omega) _ hd.symm];simp only[Aa];have e:(L t).drop (a+1+(Cs r.Arg.toNat).length)=Cs r.Chunk.toNat++Hk l:=by
   rw[<-CH,<-hd,G5 rfl]
  rw[LG t ht _ r.Chunk.toNat (by omega) _ e];simp only[Aa,Ac];have hw:IntKind.i64.wrap (((L t)[a]).toNat:Int)=16*r.Kind+r.Vol:=by
   rw[<-hx,Hf,Px (by omega)<|by omega];omega
  have e1:qu (IntKind.i64.wrap (((L t)[a]).toNat:Int)) 16=r.Kind:=by
   rw[hw];unfold qu;rw[Int.tdiv_eq_ediv_of_nonneg (by omega),Px (by omega)<|by omega];omega
  have e2:Int.tmod (IntKind.i64.wrap (((L t)[a]).toNat:Int)) 16=r.Vol:=by
   rw[hw,Ll<|by omega];omega
  rw[e1,e2,Bk h5,Bk h7];have f:Cz.mk r.Kind r.Vol r.Arg r.Chunk=r:=rfl;rw[f,NC,hr];simp only[Aa,Ah,Ac];rw[BS (by simp only[A8];omega)];simp only[Aa];have l1:=IK (show r.Arg.toNat<=1000000000 by omega);have l2:=IK (show r.Chunk.toNat<=1000000000 by omega);have g:(L t).drop (a+1+(Cs r.Arg.toNat).length+(Cs r.Chunk.toNat).length)=Hk l:=by
   rw[<-CH,e,G5 rfl]
  have i:a+1+(Cs r.Arg.toNat).length+(Cs r.Chunk.toNat).length<=(L t).length:=by
   have h9:=BE List.length h';rw[Cb,A7,Ai,Ai]at h9;omega
  have:=fM t ht l _ (b++ [r]) (λx hx=>hl x<|by simp[hx]) g i (by simp;omega);rw[Ax,D6]at this;exact this
theorem qO {l:List Cz} (hl:∀r∈l,GJ r=true) (a:(Hk l).length<=20000):fN (bs (Hk l))=some l:=by
 have h:=fM (bs<|Hk l) (by rw[EU];exact a) l 0 [] hl (by rw[EU];rfl) (by omega) (by simp);unfold fN Ix;have h':Ap (λs:List Cz×ByteArray×Int×Bool=>DL (bs<|Hk l) s.1 s.2.1 s.2.2.1 s.2.2.2) ([],bs<|Hk l,0,false)=some (.inl<|[]++l):=h;rw[h',A4];rfl
theorem sL {v:Int} (u:ByteArray) (hu:(L u).length<=20000) (hv:OA u=some v):L6 (u++four v)=some (u,true):=by
 have a:(L<|u++four v).length=(L u).length+4:=by rw[DZ,Ai,Wd]
 have e4:sb (FO<|u++four v) 4=((L u).length:Int):=by rw[B8,a,Cm];omega
 unfold L6;rw[e4,Af (by omega),Af<|by omega];simp only[Ac];have c:sub (u++four v) 0 ((L u).length:Int)=some u:=by
  rw[show(0:Int)=((0:Nat):Int)from rfl,FM _ (by omega)<|by omega];congr 1;apply Lg;rw[IR,DZ];simp
 have b:sub (u++four v) ((L u).length:Int) (FO<|u++four v)=some (four v):=by
  rw[B8,FM _ (by omega)<|by omega];congr 1;apply Lg;rw[IR,a,DZ,G5 rfl,AM (by rw[Wd];omega)]
 rw[c,b];simp only[Aa];rw[hv];have h3:L4 v=some (four v):=rfl;simp only[Aa,h3];have:seq (four v) (four v)=true:=by rw[Jq];simp
 rw[this];rfl
def J5 (p:Page):Prop:=(p.Kind=1\/p.Kind=2)/\(1<=p.Seq/\p.Seq<=1000000000)/\(1<=p.Tx/\p.Tx<=1000000000)/\(1<=p.Count/\p.Count<=9)/\(0<=p.Part/\p.Part<p.Count)/\(L p.Text).length<=90/\(p.Kind=2\/p.Count=1)
theorem Us (p:Page):∃v,K8 p=some v/\(v=true↔J5 p):=by
 unfold K8 J5;rw[EP,EP,EP,EP,B8];simp only[Aa];by_cases h1:1<=p.Kind/\p.Kind<=2
 ·rw[Ad h1];by_cases h2:1<=p.Seq/\p.Seq<=1000000000
  ·rw[Ad h2];by_cases h3:1<=p.Tx/\p.Tx<=1000000000
   ·rw[Ad h3];by_cases h4:1<=p.Count/\p.Count<=9
    ·rw[Ad h4];simp only[Ah,Ac];rw[Cm,EP];simp only[Aa];by_cases h5:0<=p.Part/\p.Part<=p.Count-1
     ·rw[Ad h5];simp only[Ah,Ac,Aa];by_cases h6:((L p.Text).length:Int)>90
      ·rw[Ad h6];exact⟨_,rfl,by simp only[BA,WZ];omega⟩
      rw[Af h6];simp only[Ac];by_cases h7:p.Kind=2
      ·rw[show(p.Kind==2)=true by simpa using h7];exact⟨_,rfl,by simp only[true_iff];omega⟩
      rw[show(p.Kind==2)=false by simpa using h7];refine⟨_,rfl,?_⟩;rw[Ce];omega
     rw[Af h5];exact⟨_,rfl,by simp only[BA,WZ];omega⟩
    rw[Af h4];exact⟨_,rfl,by simp only[BA,WZ];omega⟩
   rw[Af h3];exact⟨_,rfl,by simp only[BA,WZ];omega⟩
  rw[Af h2];exact⟨_,rfl,by simp only[BA,WZ];omega⟩
 rw[Af h1];exact⟨_,rfl,by simp only[BA,WZ];omega⟩
theorem zT (h:J5 p):K8 p=some true:=by
 obtain⟨v,h1,h2⟩:=Us p;rw[h1,h2.2 h]
theorem vS (h:J5 p):∃t,E8 p=some (t,true)/\1<=(L t).length/\(L t).length<=120/\F9 t=some (p,true):=by
 obtain⟨h1,h2,h3,h4,h5,h6,h7⟩:=h
 let k:UInt8:=UInt8.ofNat p.Kind.toNat
 have hk:(k.toNat:Int)=p.Kind:=by
  show((UInt8.ofNat p.Kind.toNat).toNat:Int)=p.Kind;rw[Hf];omega
 let u:=bs<|[k]++Cs p.Seq.toNat++Cs p.Tx.toNat++Cs p.Part.toNat++Cs p.Count.toNat++L p.Text
 have hu:L u=[k]++Cs p.Seq.toNat++Cs p.Tx.toNat++Cs p.Part.toNat++Cs p.Count.toNat++L p.Text:=EU _;have l1:=IK (show p.Seq.toNat<=1000000000 by omega);have l2:=IK (show p.Tx.toNat<=1000000000 by omega);have l3:=IK (show p.Part.toNat<=1000000000 by omega);have l4:=IK (show p.Count.toNat<=1000000000 by omega);have e:(L u).length=1+(Cs p.Seq.toNat).length+(Cs p.Tx.toNat).length+(Cs p.Part.toNat).length+(Cs p.Count.toNat).length+(L p.Text).length:=by
  rw[hu];simp only[Ai,A8]
 have l5:(L u).length<=116:=by omega
 obtain⟨v,hv,hs⟩:=(T3 u).2 (by omega);have c:=zT ⟨h1,h2,h3,h4,h5,h6,h7⟩;have a:=Yd p u k p.Seq.toNat p.Tx.toNat p.Part.toNat p.Count.toNat c hk.symm (by omega) (by omega) (by omega) (by omega) (by omega) (by omega) (by omega) (by omega) (by omega) hu;rw[hs]at a;refine⟨u++four v,a,by rw[DZ,Ai];omega,by rw[DZ,Ai,Wd];omega,?_⟩;unfold F9;rw[sL u (by omega) hv];simp only[Aa,Ah,Ac];rw[B8,Af<|by omega];have d0:(L u).drop 1=Cs p.Seq.toNat++(Cs p.Tx.toNat++(Cs p.Part.toNat++(Cs p.Count.toNat++L p.Text))):=by
  rw[hu];simp only[Ax,D6,B4,List.drop_succ_cons,List.drop_zero,A4]
 rw[show(1:Int)=((1:Nat):Int)from rfl,LG u (by omega) 1 p.Seq.toNat (by omega) _ d0];simp only[Aa];have d1:(L u).drop (1+(Cs p.Seq.toNat).length)=Cs p.Tx.toNat++(Cs p.Part.toNat++(Cs p.Count.toNat++L p.Text)):=by rw[<-CH,d0,G5 rfl]
 rw[LG u (by omega) _ p.Tx.toNat (by omega) _ d1];simp only[Aa];have d2:(L u).drop (1+(Cs p.Seq.toNat).length+(Cs p.Tx.toNat).length)=Cs p.Part.toNat++(Cs p.Count.toNat++L p.Text):=by rw[<-CH,d1,G5 rfl]
 rw[LG u (by omega) _ p.Part.toNat (by omega) _ d2];simp only[Aa];have d3:(L u).drop (1+(Cs p.Seq.toNat).length+(Cs p.Tx.toNat).length+(Cs p.Part.toNat).length)=Cs p.Count.toNat++L p.Text:=by rw[<-CH,d2,G5 rfl]
 rw[LG u (by omega) _ p.Count.toNat (by omega) _ d3];simp only[Aa,Ac];have d4:(L u).drop (1+(Cs p.Seq.toNat).length+(Cs p.Tx.toNat).length+(Cs p.Part.toNat).length+(Cs p.Count.toNat).length)=L p.Text:=by rw[<-CH,d3,G5 rfl]
 have d:sx u 0=some ((k.toNat:Nat):Int):=by
  rw[show(0:Int)=((0:Nat):Int)from rfl,Fk u<|by omega];have:(L u)[0]?=some k:=by rw[hu];simp
  rw[Ab<|by omega]at this
  injection this with this
  rw[this]
 rw[d];simp only[Aa];have b:sub u ((1+(Cs p.Seq.toNat).length+(Cs p.Tx.toNat).length+(Cs p.Part.toNat).length+(Cs p.Count.toNat).length:Nat):Int) ((L u).length:Int)=some p.Text:=by
  rw[FM u (by omega)<|by omega];congr 1;apply Lg;rw[IR,d4,AM<|by omega]
 rw[b,Aa,Px (by omega) (by omega),hk,Bk (by omega),Bk (by omega),Bk (by omega),Bk<|by omega];have hp:Page.mk p.Kind p.Seq p.Tx p.Part p.Count p.Text=p:=rfl;rw[hp,a];simp only[Aa,Ah,Ac];have:seq (u++four v) (u++four v)=true:=by rw[Jq];simp
 rw[this];rfl
theorem zS (h:¬J5 p):E8 p=some (bs [],false):=by
 obtain⟨v,h1,h2⟩:=Us p;unfold E8;rw[h1]
 cases v with
 |true=>exact absurd (h2.1 rfl) h
 |false=>rfl
theorem vI (s:ByteArray) (f a:Nat) (hf:f<a) (ha:a<=(L s).length) (hs:(L s).length<=64):∃k:Nat,NX s (f:Int) (a:Int)=some (k:Int)/\k<=31/\a+k<=(L s).length/\∀j,j<k->(L s)[f+j]?=(L s)[a+j]? :=by
 obtain⟨b,h1,k,rfl,h2,h3,h4⟩:=AP (body:=λn:Int=>HG s (f:Int) (a:Int) n) (λ(_:Unit) i=>i) 31 (λi _=>a+i<=(L s).length/\∀j,j<i->(L s)[f+j]?=(L s)[a+j]?) (λb=>∃k:Nat,b=(k:Int)/\k<=31/\a+k<=(L s).length/\∀j,j<k->(L s)[f+j]?=(L s)[a+j]?)
  (λ_ i hi hs=>by
   simp only[HG];rw[cT,Cy,Cy,B8];by_cases c:a+i<(L s).length
   ·rw[cT];have e1:((f:Int)+(i:Int))=((f+i:Nat):Int):=by omega
    have e2:((a:Int)+(i:Int))=((a+i:Nat):Int):=by omega
    rw[e1,e2,Fk s (by omega),Fk s c];simp only[Aa]
    cases hq:((((L s)[f+i]).toNat:Int)==(((L s)[a+i]).toNat:Int))with
    |true=>
     simp only[Ae];rw[ad1];refine .inl ⟨(),rfl,by omega,λj hj=>?_⟩;by_cases e:j=i
     ·subst e;rw[Ab (by omega),Ab c];congr 1;apply UInt8.toNat_inj.1;have:(((L s)[f+j]).toNat:Int)=(((L s)[a+j]).toNat:Int):=by simpa using hq
      omega
     exact hs.2 j<|by omega
    |false=>exact .inr ⟨_,rfl,i,rfl,by omega,hs.1,hs.2⟩
   rw[cF]
   exact .inr ⟨_,rfl,i,rfl,by omega,hs.1,hs.2⟩)
  (λ_ hs=>by
   simp only[HG];rw[cF]
   exact⟨_,rfl,31,rfl,by omega,hs.1,hs.2⟩) (s:=()) ⟨by omega,λj hj=>by omega⟩
 refine⟨k,?_,h2,h3,h4⟩;unfold NX;have h1':Ap (λn:Int=>HG s (f:Int) (a:Int) n) 0=some (k:Int):=h1;rw[h1'];rfl
def AAV (s:ByteArray) (a z b:Nat):Prop:=z<=31/\a+z<=(L s).length/\(z=0\/(4<=z/\1<=b/\b<=a/\∀j,j<z->(L s)[a-b+j]?=(L s)[a+j]?))
theorem y9 (s:ByteArray) (a:Nat) (ha:a<=(L s).length) (hs:(L s).length<=64):∃z b:Nat,Ap (λq:Int×Int×Int=>ED s (a:Int) q.1 q.2.1 q.2.2) (0,0,sb (a:Int) 1)=some ((z:Int),(b:Int))/\AAV s a z b:=by
 rw[Cm];obtain⟨r,h1,z,b,rfl,h2⟩:=AP (body:=λq:Int×Int×Int=>ED s (a:Int) q.1 q.2.1 q.2.2) (λ(q:Nat×Nat) i=>((q.1:Int),(q.2:Int),(a:Int)-1-i)) a (λi q=>AAV s a q.1 q.2) (λr=>∃z b:Nat,r=((z:Int),(b:Int))/\AAV s a z b)
  (λq i hi hq=>by
   obtain⟨k,m1,m2,m3,m4⟩:=vI s (a-1-i) a (by omega) ha hs;have e1:((a:Int)-1-(i:Int))=((a-1-i:Nat):Int):=by omega
   simp only[ED,e1];rw[Ad (by omega:(((a-1-i:Nat)):Int)>=0),Ae,m1,Aa,Cm,Cm];refine .inl ?_;have e2:(((a-1-i:Nat):Int)-1)=(a:Int)-1-((i+1:Nat):Int):=by omega
   have e3:((a:Int)-((a-1-i:Nat):Int))=((1+i:Nat):Int):=by omega
   rw[e2,e3];by_cases h4:4<=k
   ·rw[cT];by_cases h5:q.1<k
    ·rw[Ad (by omega:(k:Int)>(q.1:Int))];exact⟨(k,1+i),rfl,m2,m3,.inr ⟨h4,by omega,by omega,λj hj=>by rw[show a-(1+i)=a-1-i by omega];exact m4 j hj⟩⟩
    rw[Af (by omega:¬(k:Int)>(q.1:Int))];exact⟨q,rfl,hq⟩
   rw[cF]
   exact⟨q,rfl,hq⟩)
  (λq hq=>by
   simp only[ED];rw[cF]
   exact⟨_,rfl,q.1,q.2,rfl,hq⟩) (s:=(0,0)) ⟨by omega,by omega,.inl rfl⟩
 have e0:(((0:Nat):Int),((0:Nat):Int),(a:Int)-1-0)=((0:Int),(0:Int),(a:Int)-1):=by simp
 simp only[e0]at h1;exact⟨z,b,h1,h2⟩
def Wj:Nat->Nat->List UInt8->List UInt8
 |0,_,out=>out
 |n+1,b,out=>Wj n b (out++ [(out[out.length-b]?).getD 0])
def Xa (a:List UInt8) (t:Bh):List UInt8:=if t.Back=0 then a++L t.Text else Wj t.Size.toNat t.Back.toNat a
def FC (l:List Bh):List UInt8:=l.foldl Xa []
def okT (a:List UInt8) (t:Bh):Prop:=(t.Back=0/\t.Size=0/\1<=(L t.Text).length/\(L t.Text).length<=31)\/(1<=t.Back/\t.Back<=(a.length:Int)/\1<=t.Size/\t.Size<=31/\L t.Text=[])
def z8 (l:List Bh):Prop:=∀(i:Nat) t,l[i]?=some t->okT (FC<|l.take i) t
theorem PD (l:List Bh) (t:Bh):FC (l++ [t])=Xa (FC l) t:=by unfold FC;rw[List.foldl_append];rfl
theorem jO {l:List Bh} {t:Bh} (h:z8 l) (ht:okT (FC l) t):z8 (l++ [t]):=by
 intro i x hx;by_cases e:i<l.length
 ·rw[Bj e]at hx;rw[FQ<|by omega];exact h i x hx
 have hi:=(Ag.1 hx).1;rw[Ai,A8]at hi;obtain rfl:i=l.length:=by omega
 rw[Bp<|Au _,Ys]at hx;simp only[EA,Al]at hx;rw[R1 rfl,<-hx];exact ht
theorem z7 {l:List Bh} {t:Bh} (h:z8 (l++ [t])):z8 l/\okT (FC l) t:=by
 refine⟨λi x hx=>?_,?_⟩
 ·have hi:=(Ag.1 hx).1;have:=h i x (by rw[Bj hi];exact hx);rw[FQ<|by omega]at this;exact this
 have:=h l.length t (by rw[Bp<|Au _,Ys];rfl);rw[R1 rfl]at this;exact this
theorem gO (S:List UInt8):∀(n a b:Nat),a+n<=S.length->1<=b->b<=a->(∀j,j<n->S[a-b+j]?=S[a+j]?)->Wj n b (S.take a)=S.take (a+n)
 |0,a,b,_,_,_,_=>rfl
 |n+1,a,b,h1,h2,h3,h4=>by
  rw[Wj];have hl:(S.take a).length=a:=by rw[AU];omega
  have e:((S.take a)[(S.take a).length-b]?).getD 0=S[a]'(by omega):=by
   rw[hl,List.getElem?_take_of_lt<|by omega];have:=h4 0 (by omega);rw[HT,HT]at this;rw[this,Ab<|by omega];rfl
  rw[e,<-Ao (by omega),gO S n (a+1) b (by omega) h2 (by omega) (λj hj=>by
   have:=h4 (j+1) (by omega);rw[show a+1-b+j=a-b+(j+1) by omega,this];congr 1
   omega)]
  congr 1;omega
theorem oR:∀(n b:Nat) (a:List UInt8),(Wj n b a).length=a.length+n
 |0,_,_=>rfl
 |n+1,b,a=>by rw[Wj,oR];simp;omega
theorem Vk (s:ByteArray) (hs:(L s).length<=64):∀(n a:Nat) (c:List Bh),(L s).length-a<=n->a<=(L s).length->c.length<=a->z8 c->FC c=(L s).take a->∃l,Ap (λq:List Bh×Int=>Cr s q.1 q.2) (c,(a:Int))=some l/\z8 l/\FC l=L s/\l.length<=64
 |n,a,c,hn,ha,h,g,d=>by
  by_cases i:a<(L s).length
  ·obtain⟨z,b,h1,h2,h3,h4⟩:=y9 s a ha hs
   match n,hn with
   |0,hn=>omega
   |n+1,hn=>
   have j:((L s).take a).length=a:=by rw[AU];omega
   rcases h4 with rfl|⟨h4,h5,h6,h7⟩
   ·
    have f:sub s (a:Int) ((a+1:Nat):Int)=some (s.extract a<|a+1):=FM s (by omega) (by omega);have hx:L (s.extract a<|a+1)=[(L s)[a]]:=by
     rw[IR,show a+1-a=1 by omega,AS i];rfl
    have fresh:∃l,Ap (λq:List Bh×Int=>Cr s q.1 q.2) (c++ [Bh.mk 0 0<|s.extract a<|a+1],((a+1:Nat):Int))=some l/\z8 l/\FC l=L s/\l.length<=64:=
     Vk s hs n (a+1) _ (by omega) (by omega) (by simp;omega) (jO g<|.inl ⟨rfl,rfl,by rw[hx];simp,by rw[hx];simp⟩) (by
      rw[PD];unfold Xa
      rw[Az rfl,d,hx,Ao i])
    rcases Hr c with e|⟨out0,t0,e⟩
    ·subst e;obtain⟨l,f1,f2⟩:=fresh;refine⟨l,?_,f2⟩;rw[A0];have hb:Cr s [] (a:Int)=some (.inl ([Bh.mk 0 0<|s.extract a<|a+1],((a+1:Nat):Int))):=by
      simp only[Cr];rw[B8,cT,h1];simp only[Aa];rw[show decide ((((0:Nat):Int))>0)=false from rfl,Ac,ad1,f,show decide ((sb (ln ([]:List Bh)) 1)>=0)=false from rfl];simp only[Ac,Aa];rw[BS<|by simp];rfl
     simp only[hb];exact f1
    rw[Hs]at e;subst e;obtain⟨ok0,okt0⟩:=z7 g;have hol':out0.length+1<=a:=by simpa using h
    have p:ln (out0++ [t0])=((out0.length+1:Nat):Int):=by rw[Bz];simp
    have k:sb (ln<|out0++ [t0]) 1=(out0.length:Int):=by rw[p,Cm];omega
    have m:gi (out0++ [t0]) (out0.length:Int)=some t0:=Fv _ _;by_cases hm:t0.Back=0/\(L t0.Text).length<31
    ·have o:Ic t0.Text (s.extract a<|a+1)=some (t0.Text++s.extract a (a+1)):=FV _ _ (by rw[hx];simp;omega);have hb:Cr s (out0++ [t0]) (a:Int)=some (.inl (out0++ [Bh.mk t0.Back t0.Size<|t0.Text++s.extract a (a+1)],((a+1:Nat):Int))):=by
      simp only[Cr];rw[B8,cT,h1];simp only[Aa];rw[show decide ((((0:Nat):Int))>0)=false from rfl,Ac,ad1,f,k,cT,m];simp only[Aa];rw[show(t0.Back==0)=true by simpa using hm.1,Ae,B8,Ad<|by omega];simp only[Aa,Ae];rw[o];simp only[Aa];rw[JW]
     have hX:L (t0.Text++s.extract a (a+1))=L t0.Text++ [(L s)[a]]:=by rw[DZ,hx]
     obtain⟨l,f1,f2⟩:=Vk s hs n (a+1) (out0++ [Bh.mk t0.Back t0.Size<|t0.Text++s.extract a (a+1)]) (by omega) (by omega) (by simp at h⊢;omega) (jO ok0 (by
      rcases okt0 with⟨k1,k2,k3,k4⟩|⟨k1,_⟩
      ·exact .inl ⟨k1,k2,by rw[hX];simp,by rw[hX];simp;omega⟩
      ·omega)) (by
      rw[PD]at d⊢;unfold Xa at d⊢;rw[Az hm.1]at d⊢
      rw[hX,<-Ax,d,Ao i])
     refine⟨l,?_,f2⟩;rw[A0];simp only[hb];exact f1
    have hb:Cr s (out0++ [t0]) (a:Int)=some (.inl (out0++ [t0]++ [Bh.mk 0 0<|s.extract a<|a+1],((a+1:Nat):Int))):=by
     simp only[Cr];rw[B8,cT,h1];simp only[Aa];rw[show decide ((((0:Nat):Int))>0)=false from rfl,Ac,ad1,f,k,cT,m];simp only[Aa];have hj:(bif t0.Back==0 then some (decide<|FO t0.Text<31)else some false:Option Bool)=some false:=by
      by_cases e0:t0.Back=0
      ·rw[show(t0.Back==0)=true by simpa using e0,Ae,B8,Af (by
       intro hh;exact hm ⟨e0,by omega⟩)]
      rw[show(t0.Back==0)=false by simpa using e0];rfl
     rw[hj];simp only[Aa,Ac];rw[BS (by simp at h⊢;omega)];rfl
    obtain⟨l,f1,f2⟩:=fresh;refine⟨l,?_,f2⟩;rw[A0];simp only[hb];exact f1
   have hb:Cr s c (a:Int)=some (.inl (c++ [Bh.mk (b:Int) (z:Int)<|bs []],((a+z:Nat):Int))):=by
    simp only[Cr];rw[B8,cT,h1];simp only[Aa];rw[cT,BS (by simp;omega),Cy];simp only[Aa];congr 3
   obtain⟨l,f1,f2⟩:=Vk s hs n (a+z) (c++ [Bh.mk (b:Int) (z:Int)<|bs []]) (by omega) h3 (by simp;omega) (jO g<|.inr ⟨by simp;omega,by rw[d,j];simp;omega,by simp;omega,by simp;omega,EU _⟩) (by
    rw[PD];unfold Xa;rw[Av (by simp;omega),d];simp only[AZ]
    exact gO (L s) z a b h3 h5 h6 h7)
   refine⟨l,?_,f2⟩;rw[A0];simp only[hb];exact f1
  have ea:a=(L s).length:=by omega
  refine⟨c,?_,g,by rw[d,ea,AW],by omega⟩;rw[A0];have hb:Cr s c (a:Int)=some (.inr c):=by
   simp only[Cr];rw[B8,cF]
  simp only[hb]
theorem AA1 (s:ByteArray) (hs:(L s).length<=64):∃l,L7 s=some l/\z8 l/\FC l=L s/\l.length<=64:=by
 obtain⟨l,h1,h2⟩:=Vk s hs (L s).length 0 [] (by omega) (by omega) (by simp) (λi t h=>by simp at h) (by simp[FC]);refine⟨l,?_,h2⟩;unfold L7;rw[B8,cF];have h1':Ap (λq:List Bh×Int=>Cr s q.1 q.2) ([],0)=some l:=h1;rw[h1'];rfl
def Nb (t:Bh):List UInt8:=if t.Back=0 then UInt8.ofNat (L t.Text).length::L t.Text else [UInt8.ofNat (128+t.Size).toNat,UInt8.ofNat t.Back.toNat]
theorem uE {t:Bh} {a:List UInt8} (h:okT a t) (ho:a.length<=64):(Nb t).length<=32:=by
 unfold Nb
 rcases h with⟨h1,h2,h3,h4⟩|⟨h1,h2,h3,h4,h5⟩
 ·grind
 grind
theorem ACe {t:Bh} {a:List UInt8} (h:okT a t):a.length<=(Xa a t).length:=by
 unfold Xa;split
 ·simp
 rw[oR];omega
theorem Oc {l:List Bh} (h:z8 l):∀i,i<=l.length->(FC (l.take i)).length<=(FC l).length:=by
 have step:∀i,i<l.length->(FC<|l.take i).length<=(FC<|l.take<|i+1).length:=λi hi=>by
  rw[Ao hi,PD];exact ACe<|h i _<|Ab hi
 intro i hi;have:∀k,i+k<=l.length->(FC<|l.take i).length<=(FC<|l.take<|i+k).length:=by
  intro k
  induction k with
  |zero=>grind
  |succ k ih=>grind
 have:=this (l.length-i) (by omega);rw[show i+(l.length-i)=l.length by omega,AW]at this;exact this
theorem ADG (s:ByteArray) (hs:(L s).length<=64):∃l,z8 l/\FC l=L s/\l.length<=64/\((EY s=some (bs (122::l.flatMap Nb),true))\/EY s=some (bs (114::L s),true)):=by
 obtain⟨l,h1,h2,h3,h4⟩:=AA1 s hs;refine⟨l,h2,h3,h4,?_⟩;unfold EY;rw[B8,cF,h1];simp only[Aa];obtain⟨b,q1,q2⟩:=AP (body:=λq:ByteArray×Int=>Ft l q.1 q.2) (λz i=>(z,i)) l.length (λi z=>L z=122::(l.take i).flatMap Nb/\(L z).length<=1+32*i) (λz=>L z=122::l.flatMap Nb/\(L z).length<=3000)
  (λz i hi hz=>by
   have hx:=Ab hi;have c:=h2 i _ hx;have a:=Oc h2 i (by omega);rw[h3]at a;have d:=uE c (by omega);have et:(l.take<|i+1).flatMap Nb=(l.take i).flatMap Nb++Nb l[i]:=by rw[Ao hi,R9];simp
   simp only[Ft,Ev hi,Aw,hx,Aa];rw[ad1];refine .inl ?_
   rcases c with⟨k1,k2,k3,k4⟩|⟨k1,k2,k3,k4,k5⟩
   ·rw[show(l[i].Back==0)=true by simpa using k1,Ae,FV _ _ (by rw[RD];omega)];rw[Aa,FV _ _ (by rw[DZ,Ai,RD];omega)];have hL:L (z++Fl [IntKind.u8.wrap<|FO l[i].Text]++l[i].Text)=L z++Nb l[i]:=by
     rw[DZ,DZ,LX];unfold Nb;rw[Az k1,B8];have:IntKind.u8.wrap ((L l[i].Text).length:Int)=((L l[i].Text).length:Int):=by rw[IntKind.wrap_u8];omega
     grind
    grind
   rw[show(l[i].Back==0)=false by simp;omega,Ac,Cy,FV _ _ (by rw[NO];simp;omega)];have hL:L (z++Fl [IntKind.u8.wrap<|128+l[i].Size,IntKind.u8.wrap l[i].Back])=L z++Nb l[i]:=by
    rw[DZ,LX];unfold Nb;rw[Av<|by omega];have e1:IntKind.u8.wrap (128+l[i].Size)=128+l[i].Size:=by rw[IntKind.wrap_u8];omega
    have e2:IntKind.u8.wrap l[i].Back=l[i].Back:=by rw[IntKind.wrap_u8];omega
    grind
   grind)
  (λz hz=>⟨z,by simp only[Ft,DT],by grind,by omega⟩) (s:=bs [122]) ⟨by rw[EU];rfl,by rw[EU];simp⟩
 rw[q1];simp only[Aa];have hb:b=bs (122::l.flatMap Nb):=Lg<|by rw[q2.1,EU]
 cases decide (ad ((L s).length:Int) 1<=FO b)with
 |false=>left;rw[hb];rfl
 |true=>
  right;simp only[Ae];rw[FV _ _ (by rw[EU];simp;omega)];rfl
theorem W1 (t:ByteArray) (ht:(L t).length<=10000):∀(l:List Bh) (a:Nat) (c:List Bh),(∀x∈l,∃o:List UInt8,okT o x/\o.length<=64)->(L t).drop a=l.flatMap Nb->a<=(L t).length->c.length<=a->Ap (λq:List Bh×Int=>BX t q.1 q.2) (c,(a:Int))=some (.inl (c++l))
 |[],a,c,hl,h,ha,ho=>by
  have:(L t).length=a:=by
   have:=BE List.length h
   grind
  rw[A0];have hb:BX t c (a:Int)=some (.inr<|.inl c):=by
   simp only[BX];rw[B8,cF]
  grind
 |x::l,a,c,hl,h,ha,ho=>by
  obtain⟨o,m,p⟩:=hl x (by simp);rw[Kv]at h;have d:=BE List.length h;rw[Cb,Ai]at d
  rcases m with⟨k1,k2,k3,k4⟩|⟨k1,k2,k3,k4,k5⟩
  ·have he:Nb x=UInt8.ofNat (L x.Text).length::L x.Text:=by unfold Nb;rw[Az k1]
   rw[he]at h d;rw[A7]at d;have f:a<(L t).length:=by omega
   have e:=AS f;rw[h,B4]at e
   injection e with hx hd
   have i:(((L t)[a]).toNat:Int)=((L x.Text).length:Int):=by rw[<-hx,Hf];omega
   have k:sub t ((a+1:Nat):Int) ((a+1+(L x.Text).length:Nat):Int)=some x.Text:=by
    rw[FM t (by omega)<|by omega];congr 1;apply Lg;rw[IR,<-hd,show a+1+(L x.Text).length-(a+1)=(L x.Text).length by omega,R1 rfl]
   have hb:BX t c (a:Int)=some (.inl (c++ [Bh.mk 0 0 x.Text],((a+1+(L x.Text).length:Nat):Int))):=by
    simp only[BX];rw[B8,cT,Fk t f,Aa,i,Px (by omega) (by omega),cF,ad1,Cy,cF,show((a+1:Nat):Int)+((L x.Text).length:Int)=((a+1+(L x.Text).length:Nat):Int) by omega,k,Aa,BS (by simp;omega)];rfl
   have j:Bh.mk 0 0 x.Text=x:=by
    cases x with
    |mk b z u=>grind
   rw[j]at hb;rw[A0];simp only[hb];have:=W1 t ht l (a+1+(L x.Text).length) (c++ [x]) (λy hy=>hl y<|by simp[hy]) (by rw[<-CH,<-hd,G5 rfl]) (by omega) (by simp;omega)
   grind
  have he:Nb x=[UInt8.ofNat (128+x.Size).toNat,UInt8.ofNat x.Back.toNat]:=by unfold Nb;grind
  rw[he]at h d;simp only[A7,BU]at d;have f:a<(L t).length:=by omega
  have e:=AS f;rw[h]at e;simp only[B4,A4]at e
  injection e with hx hd
  have g:=AS (show a+1<(L t).length by omega);rw[<-hd]at g
  injection g with hx2 hd2
  have i:(((L t)[a]).toNat:Int)=128+x.Size:=by rw[<-hx,Hf];omega
  have n:(((L t)[a+1]'(by omega)).toNat:Int)=x.Back:=by rw[<-hx2,Hf];omega
  have hb:BX t c (a:Int)=some (.inl (c++ [Bh.mk x.Back x.Size<|bs []],((a+2:Nat):Int))):=by
   simp only[BX];rw[B8,cT,Fk t f,Aa,i,Px (by omega) (by omega),cT,Cy (b:=2) (by omega) (by omega),cF,ad1,Fk t (by omega),Aa,n,Px (by omega) (by omega),Cm,BS (by simp;omega),Aa,show 128+x.Size-128=x.Size by omega];rfl
  have j:Bh.mk x.Back x.Size (bs [])=x:=by
   cases x with
   |mk b z u=>simp only at k5⊢;rw[show bs []=u from Lg<|by rw[k5,EU]]
  rw[j]at hb;rw[A0];simp only[hb];have:=W1 t ht l (a+2) (c++ [x]) (λy hy=>hl y<|by simp[hy]) (by grind) (by omega) (by simp;omega)
  grind
def Hl (l:List UInt8):List Int:=l.map λc=>(c.toNat:Int)
theorem vX (l:List UInt8):L (Fl (Hl l))=l:=by
 rw[LX,Hl,FJ];have:((λn:Int=>UInt8.ofNat n.toNat)∘λc:UInt8=>(c.toNat:Int))=id:=by
  funext c;simp
 rw[this,UX]
theorem yY (b:ByteArray):qG b=Hl (L b):=rfl
theorem ZH (x:Bh) (b:1<=x.Back) (hs:0<=x.Size/\x.Size<=31):∀(n k:Nat) (a:List UInt8),(k:Int)+n=x.Size->x.Back<=(a.length:Int)->a.length+n<=1000->Ap (λq:List Int×Int=>El x q.1 q.2) (Hl a,(k:Int))=some (Hl (Wj n x.Back.toNat a))
 |0,k,a,hk,c,ho=>by
  rw[A0];have hb:El x (Hl a) (k:Int)=some (.inr (Hl a)):=by
   simp only[El];rw[cF]
  simp only[hb];rfl
 |n+1,k,a,hk,c,ho=>by
  have d:ln (Hl a)=(a.length:Int):=by rw[Bz,Hl,Ba]
  have e:gi (Hl a) ((a.length:Int)-x.Back)=some (((a[a.length-x.Back.toNat]?).getD 0).toNat:Int):=by
   rw[show(a.length:Int)-x.Back=((a.length-x.Back.toNat:Nat):Int) by omega,Aw,Hl,AO,Ab<|by omega];rfl
  have hb:El x (Hl a) (k:Int)=some (.inl (Hl<|a++ [(a[a.length-x.Back.toNat]?).getD 0],((k+1:Nat):Int))):=by
   simp only[El];rw[cT,d,Cm,e,Aa,BS (by simp[Hl];omega),ad1];simp only[Aa,Hl,Cn,BJ,sV]
  rw[A0];simp only[hb];rw[Wj];exact ZH x b hs n (k+1) _ (by omega) (by simp;omega) (by simp;omega)
theorem qR (l:List Bh) (hl:l.length<=64) (a:z8 l) (h64:(FC l).length<=64):Ap (λq:List Int×Int=>Em l q.1 q.2) ([],0)=some (.inl (Hl (FC l))):=by
 obtain⟨b,h1,h2⟩:=AP (body:=λq:List Int×Int=>Em l q.1 q.2) (λ(o:List UInt8) i=>(Hl o,i)) l.length (λi o=>o=FC (l.take i)) (λb=>b= .inl (Hl<|FC l))
  (λo i hi ho=>by
   have hx:=Ab hi;have hk:=a i _ hx;have hm:=Oc a i (by omega);have d:=Oc a (i+1) (by omega);have et:FC (l.take<|i+1)=Xa o l[i]:=by rw[Ao hi,PD,ho]
   rw[<-ho]at hk hm;rw[et]at d
   have c:∀q:List UInt8,ln (Hl q)=(q.length:Int):=λq=>by rw[Bz,Hl,Ba]
   simp only[Em,Ev hi,Aw,hx,Aa];refine .inl ⟨Xa o l[i],?_,et.symm⟩
   rcases hk with⟨k1,k2,k3,k4⟩|⟨k1,k2,k3,k4,k5⟩
   ·rw[show(l[i].Back==0)=true by simpa using k1,Ae,B8,EP,Ad<|by omega];simp only[Aa,Ah,Ac];rw[show(l[i].Size !=0)=false by simp[k2],yY];simp only[Ac];have e1:ap 1 (Hl o) (Hl<|L l[i].Text)=some (Hl<|Xa o l[i]):=by
     rw[BS (by simp[Hl];omega)];unfold Xa;rw[Az k1];simp[Hl]
    rw[e1];simp only[Aa,Bw];rw[c,cF,ad1]
   rw[show(l[i].Back==0)=false by simp;omega,Ac,c,EP,Ad<|by omega];simp only[Aa,Ah,Ac];rw[EP,Ad<|by omega];simp only[Aa,Ah,Ac];have e:seq l[i].Text (bs [])=true:=by rw[Jq,A6];exact Lg<|by rw[k5,EU]
   rw[e];simp only[Ah,Ac];have e1:=ZH l[i] k1 ⟨by omega,k4⟩ l[i].Size.toNat 0 o (by omega) k2 (by omega);rw[show((0:Nat):Int)=0 from rfl]at e1;rw[e1];have e2:Wj l[i].Size.toNat l[i].Back.toNat o=Xa o l[i]:=by unfold Xa;grind
   rw[e2];simp only[Aa,Bw]
   rw[c,cF,ad1])
  (λo ho=>⟨.inl<|Hl o,by simp only[Em,DT],by grind⟩) (s:=[]) rfl
 rw[<-h2];exact h1
theorem pA (s:ByteArray) (hs:(L s).length<=64):∃z,EY s=some (z,true)/\Gr z=some (s,true)/\1<=(L z).length:=by
 obtain⟨l,h1,h2,h3,h4⟩:=ADG s hs;have fin:∀z:ByteArray,EY s=some (z,true)->((EY s).bind λv3=>(cond (!v3.2) (some true) (some<|!(seq v3.1 z)):Option Bool).bind λj2=>cond j2 (some (bs [],false))<|some (s,true))=some (s,true):=by
  intro z hz;rw[hz];have:seq z z=true:=by rw[Jq];simp
  grind
 rcases h4 with h4|h4
 ·refine⟨_,h4,?_,by rw[EU];simp⟩;have hf:=fin _ h4;generalize hz:bs (122::l.flatMap Nb)=z at h4 hf;have hL:L z=122::l.flatMap Nb:=by rw[<-hz,EU]
  have h:(L z).length<=3000:=by
   have:∀m:List Bh,(∀x∈m,∃o:List UInt8,okT o x/\o.length<=64)->(m.flatMap Nb).length<=32*m.length:=by
    intro m
    induction m with
    |nil=>intro _;simp
    |cons x m ih=>
     intro hm;obtain⟨o,e,f⟩:=hm x (by simp);have:=uE e f
     grind
   have:=this l (λx hx=>by
    obtain⟨i,hi,rfl⟩:=AC hx;have hm:=Oc h1 i (by omega);rw[h2]at hm
    exact⟨_,h1 i _<|Ab hi,by omega⟩)
   grind
  unfold Gr;have a:1<=(L z).length:=by rw[hL];simp
  rw[B8,show(((L z).length:Int)==0)=false by grind,Ac];have b:sub z 1 ((L z).length:Int)=some (bs<|l.flatMap Nb):=by
   rw[show(1:Int)=((1:Nat):Int)from rfl,FM z a<|Au _];congr 1;apply Lg;rw[IR,EU,AM (by grind),hL];rfl
  have c:sx z 0=some 122:=by
   rw[show(0:Int)=((0:Nat):Int)from rfl,Fk z (i:=0) a];have:(L z)[0]?=some 122:=by rw[hL];rfl
   rw[Ab<|by omega]at this
   injection this with this
   rw[this];rfl
  rw[b,c];simp only[Aa];rw[show((122:Int)==122)=true from rfl];simp only[Ae];have g:(L<|bs<|l.flatMap Nb).length<=10000:=by rw[EU];grind
  have d:=W1 (bs<|l.flatMap Nb) g l 0 [] (λx hx=>by
    obtain⟨i,hi,rfl⟩:=AC hx;have hm:=Oc h1 i (by omega);rw[h2]at hm
    exact⟨_,h1 i _<|Ab hi,by omega⟩) (by rw[EU];rfl) (by omega)<|by simp
  rw[show((0:Nat):Int)=0 from rfl,A4]at d;have ht:Ka (bs<|l.flatMap Nb)=some (l,true):=by
   unfold Ka;rw[d];rfl
  have hp:Gc l=some (s,true):=by
   unfold Gc;rw[qR l h3 h1 (by rw[h2];omega),h2];simp only[Aa,Bw];congr 2;apply Lg;rw[vX]
  grind
 refine⟨_,h4,?_,by rw[EU];simp⟩;have hf:=fin _ h4;generalize hz:bs (114::L s)=z at h4 hf;have hL:L z=114::L s:=by rw[<-hz,EU]
 unfold Gr;have a:1<=(L z).length:=by rw[hL];simp
 rw[B8,show(((L z).length:Int)==0)=false by grind,Ac];have b:sub z 1 ((L z).length:Int)=some s:=by
  rw[show(1:Int)=((1:Nat):Int)from rfl,FM z a<|Au _];congr 1;apply Lg;rw[IR,AM (by grind),hL];rfl
 have c:sx z 0=some 114:=by
  rw[show(0:Int)=((0:Nat):Int)from rfl,Fk z (i:=0) a];have:(L z)[0]?=some 114:=by rw[hL];rfl
  rw[Ab<|by omega]at this
  injection this with this
  rw[this];rfl
 grind
theorem Wl (a b:List ByteArray):Ps (a++b)=Ps a++Ps b:=by unfold Ps;rw[R9]
theorem vO (a b:List Cz):Hk (a++b)=Hk a++Hk b:=by unfold Hk;rw[R9]
def Cq (seq tx:Int) (T:List ByteArray):List Page:=T.mapIdx λi t=>Page.mk 2 (seq+i) tx i T.length t
theorem wY (a:List Cz) (hr:a.length<=1048576) (j:∀r∈a,GJ r=true):∃T:List ByteArray,Ap (λs:List ByteArray×Int=>Ek a s.1 s.2) ([bs []],0)=some (.inl T)/\1<=T.length/\T.length<=1+a.length/\Ps T=Hk a/\∀t∈T,(L t).length<=90:=by
 obtain⟨b,h1,T,h2,h3⟩:=AP (body:=λs:List ByteArray×Int=>Ek a s.1 s.2) (λ(o:List ByteArray) i=>(o,i)) a.length
  (λi T=>1<=T.length/\T.length<=1+i/\Ps T=Hk (a.take i)/\∀t∈T,(L t).length<=90)
  (λb=>∃T:List ByteArray,b= .inl T/\1<=T.length/\T.length<=1+a.length/\Ps T=Hk a/\∀t∈T,(L t).length<=90)
  (λT i hi hT=>by
   obtain⟨k,l,g,h⟩:=hT;have hx:=Ab hi;obtain⟨t,t1,t2⟩:=iU<|j _<|A5 hi;have m:=zJ<|j _<|A5 hi;rw[<-t2]at m;have et:Hk (a.take<|i+1)=Hk (a.take i)++L t:=by rw[Ao hi,vO,t2];simp[Hk]
   rcases Hr T with e|⟨T0,c,e⟩
   ·subst e;simp at k
   rw[Hs]at e;subst e;have n:ln (T0++ [c])=((T0.length+1:Nat):Int):=by rw[Bz];simp
   rw[Ai,A8]at k l;have p:sb (ln<|T0++ [c]) 1=(T0.length:Int):=by rw[n,Cm];omega
   have q:gi (T0++ [c]) (T0.length:Int)=some c:=Fv _ _;have u:=h c (by simp);rw[Wl]at g;simp only[Ek,Ev hi,Aw,hx,Aa];rw[t1];simp only[Aa,Ah,Ac];rw[p,q];simp only[Aa];rw[B8,B8,Cy,ad1];refine .inl ?_;by_cases f:((L c).length:Int)+((L t).length:Int)>90
   ·rw[Ad f,Ae,BS (by simp;omega)];refine⟨T0++ [c]++ [t],rfl,by simp,by simp;omega,?_,λx d=>?_⟩
    ·rw[Wl,Wl,et,g];simp[Ps]
    rw[Ak,AE]at d
    rcases d with d|rfl
    ·exact h x d
    omega
   rw[Af f,Ac,FV _ _<|by omega];simp only[Aa];rw[JW];refine⟨T0++ [c++t],rfl,by simp,by simp;omega,?_,λx d=>?_⟩
   ·rw[Wl,et,<-g];simp[Ps,DZ]
   rw[Ak,AE]at d
   rcases d with d|rfl
   ·exact h x<|by simp[d]
   rw[DZ,Ai];omega)
  (λT hT=>⟨_,by simp only[Ek,DT],T,rfl,hT.1,hT.2.1,by rw[hT.2.2.1,AW],hT.2.2.2⟩) (s:=[bs []]) ⟨by simp,by simp,by simp[Ps,Hk,EU],λt ht=>by rw[AE]at ht;rw[ht,EU];simp⟩
 subst h2;exact⟨T,h1,h3⟩
theorem wZ (seq tx:Int) (a:List Cz) (hr:a.length<=1000) (c:∀r∈a,GJ r=true):∃T:List ByteArray,1<=T.length/\Ps T=Hk a/\(∀t∈T,(L t).length<=90)/\T.length<=1+a.length/\
  ((IT seq tx a=some (Cq seq tx T,true)/\T.length<=9/\1<=seq/\seq+T.length-1<=1000000000/\1<=tx/\tx<=1000000000)\/(IT seq tx a=some ([],false)/\¬(T.length<=9/\1<=seq/\seq+T.length-1<=1000000000/\1<=tx/\tx<=1000000000))):=by
 obtain⟨T,h1,h2,h2',h3,h4⟩:=wY a (by omega) c;refine⟨T,h2,h3,h4,h2',?_⟩;unfold IT;rw[h1];simp only[Aa,Bw];rw[Bz];by_cases h9:(T.length:Int)>9
 ·rw[Ad h9];exact .inr ⟨rfl,λhh=>by omega⟩
 rw[Af h9];simp only[Ac];rw[Cm,Cy,EP,EP];simp only[Aa];by_cases hs:1<=seq/\seq<=1000000000-(T.length:Int)+1
 ·rw[Ad hs];simp only[Ah,Ac];by_cases ht:1<=tx/\tx<=1000000000
  ·rw[Ad ht];simp only[Ah,Ac,Aa];left;obtain⟨b,q1,q2⟩:=AP (body:=λs:List Page×Int=>Gs seq tx T s.1 s.2) (λ(o:List Page) i=>(o,i)) T.length (λi o=>o=(Cq seq tx T).take i) (λb=>b=Cq seq tx T)
    (λo i hi ho=>by
     have hx:=Ab hi;have e:o.length<=i:=by rw[ho,AU];omega
     simp only[Gs,Ev hi,Aw,hx,Aa];rw[Cy,Bz,BS (by simp;omega),Aa,ad1];refine .inl ⟨_,rfl,?_⟩;have d:(Cq seq tx T)[i]?=some (Page.mk 2 (seq+i) tx i T.length T[i]):=by unfold Cq;rw[Lk,hx];rfl
     rw[Eg,d,ho]
     rfl)
    (λo ho=>⟨o,by simp only[Gs,DT],by rw[ho,AM];unfold Cq;rw[TG];exact Au _⟩) (s:=[]) rfl
   rw[q1,q2];exact⟨rfl,by omega,by omega,by omega,ht.1,ht.2⟩
  rw[Af ht];exact .inr ⟨rfl,λhh=>ht ⟨hh.2.2.2.1,hh.2.2.2.2⟩⟩
 rw[Af hs];exact .inr ⟨rfl,λhh=>hs ⟨hh.2.1,by omega⟩⟩
def Steps:Flash->List Bc->Flash->Prop
 |f,[],g=>g=f
 |f,s::ss,g=>Uk f s/\Steps (Lm f s) ss g
theorem NH:∀(f:Flash) (a b:List Bc) (g:Flash),Steps f (a++b) g↔∃m,Steps f a m/\Steps m b g
 |f,[],b,g=>⟨λh=>⟨f,rfl,h⟩,λ⟨m,h1,h2⟩=>by rw[h1]at h2;exact h2⟩
 |f,s::a,b,g=>by
  rw[B4];simp only[Steps,NH];constructor
  ·rintro⟨h1,m,h2,h3⟩;exact⟨m,⟨h1,h2⟩,h3⟩
  rintro⟨m,⟨h1,h2⟩,h3⟩;exact⟨h1,m,h2,h3⟩
theorem YP:∀{f:Flash} {a:List Bc} {g:Flash},BD f->Steps f a g->BD g
 |f,[],g,hf,h=>by rw[h];exact hf
 |f,s::a,g,hf,h=>YP (tM hf h.1) h.2
theorem sP {m:Flash} (h:Steps f a m) (hs:Uk m s):Steps f (a++ [s]) (Lm m s):=(NH f a [s] _).2 ⟨m,h,hs,rfl⟩
theorem XA (hf:BD f) (h:Steps f a g) (ha:a.length<=1048576):IV f a=some (g,(a.length:Int)):=by
 unfold IV;rw[Dn f hf.cap];simp only[Aa];obtain⟨b,h1,h2⟩:=AP (body:=λs:Int×List Block=>Eo a s.1 s.2) (λ(o:List Block) i=>(i,o)) a.length (λi o=>Steps f (a.take i) (Flash.mk o)/\Steps (Flash.mk o) (a.drop i) g) (λb=>b= .inl g.Blocks)
  (λo i hi hs=>by
   have hx:=Ab hi;obtain⟨s1,s2⟩:=hs;rw[AS hi]at s2;simp only[Eo,Ev hi,Aw,hx,Aa];have hP:=YP hf s1
   rcases Uu hP a[i]with⟨k1,k2⟩|⟨k1,k2⟩
   ·rw[k2];simp only[Aa,Ah,Ac];rw[ad1];refine .inl ⟨(Lm (Flash.mk o) a[i]).Blocks,rfl,?_,s2.2⟩;rw[Ao hi];exact sP s1 k1
   exact absurd s2.1 k1)
  (λo hs=>⟨.inl o,by simp only[Eo,DT],by
   have:=hs.2;rw[List.drop_length]at this
   rw[show g=Flash.mk o from this]⟩) (s:=f.Blocks) ⟨rfl,h⟩
 rw[h1,h2];rfl
def Jo:Flash->List Bc->List Page->Flash->Prop
 |f,[],[],g=>g=f
 |f,s::ss,p::ps,g=>s.Kind=1/\nO f s.Block s.Leaf s.Text/\F9 s.Text=some (p,true)/\Jo (Lm f s) ss ps g
 |_,_,_,_=>False
theorem Fw:∀{f:Flash} {ss:List Bc} {ps:List Page} {g:Flash},Jo f ss ps g->Steps f ss g/\ss.length=ps.length
 |f,[],[],g,h=>⟨h,rfl⟩
 |f,s::ss,p::ps,g,h=>⟨⟨.inl ⟨h.1,h.2.1⟩,(Fw h.2.2.2).1⟩,by rw[A7,A7,(Fw h.2.2.2).2]⟩
 |f,[],p::ps,g,h=>h.elim
 |f,s::ss,[],g,h=>h.elim
theorem cA:∀{f:Flash} {ss:List Bc} {ps:List Page} {g:Flash} {b l:Int} {t:ByteArray} {p:Page},Jo f ss ps g->nO g b l t->F9 t=some (p,true)->Jo f (ss++ [Bc.mk 1 b l t]) (ps++ [p]) (VH g b l (Leaf.mk 1 t))
 |f,[],[],g,b,l,t,p,h,h1,h2=>by
  have:g=f:=h;subst this;exact⟨rfl,h1,h2,by unfold Lm;rfl⟩
 |f,s::ss,q::ps,g,b,l,t,p,h,h1,h2=>⟨h.1,h.2.1,h.2.2.1,cA h.2.2.2 h1 h2⟩
 |f,[],q::ps,g,b,l,t,p,h,h1,h2=>h.elim
 |f,s::ss,[],g,b,l,t,p,h,h1,h2=>h.elim
def Ck (ss:List Bc) (ps:List Page):List Aq:=List.zipWith (λs p=>Aq.mk s.Block s.Leaf p) ss ps
def G3:Int->List Page->Prop
 |_,[]=>True
 |n,p::ps=>n<=p.Seq/\G3 (p.Seq+1) ps
theorem cB:∀{f:Flash} {ss:List Bc} {ps:List Page} {g:Flash} {r:List Aq} {n:Int},BD f->SR (KE 0 f.Blocks) r->Jo f ss ps g->(∀y∈r,y.Page.Seq<n)->G3 n ps->SR (KE 0 g.Blocks) (r++Ck ss ps)
 |f,[],[],g,r,n,hf,a,h,hn,ha=>by
  have:g=f:=h;subst this;unfold Ck;simpa using a
 |f,s::ss,p::ps,g,r,n,hf,a,h,hn,ha=>by
  obtain⟨h1,h2,h3,h4⟩:=h;obtain⟨k1,_,A,B,k2,k3,_⟩:=U5 hf h2;have c:Lm f s=VH f s.Block s.Leaf (Leaf.mk 1 s.Text):=by unfold Lm;rw[Az h1]
  rw[c]at h4;have b:SR (KE 0 (VH f s.Block s.Leaf<|Leaf.mk 1 s.Text).Blocks) (r++ [Aq.mk s.Block s.Leaf p]):=by
   rw[k3 p<|nC h3]
   refine SR.add (by rw[<-k2];exact a) λx hx=>?_
   have:=hn x hx;have:=ha.1;show x.Page.Seq<p.Seq;omega
  have:=cB k1 b h4 (n:=p.Seq+1) (λy hy=>by
   rw[Ak,AE]at hy
   rcases hy with hy|rfl
   ·have:=hn y hy;have:=ha.1;omega
   show p.Seq<p.Seq+1;omega) ha.2
  rw[Ax]at this;exact this
 |f,[],q::ps,g,r,n,hf,a,h,hn,ha=>h.elim
 |f,s::ss,[],g,r,n,hf,a,h,hn,ha=>h.elim
theorem UQ:∀{f:Flash} {ss:List Bc} {ps:List Page} {g:Flash} (k:Nat),Jo f ss ps g->∃m,Jo f (ss.take k) (ps.take k) m
 |f,[],[],g,k,h=>⟨f,by simp[Jo]⟩
 |f,s::ss,p::ps,g,0,h=>⟨f,rfl⟩
 |f,s::ss,p::ps,g,k+1,h=>by
  obtain⟨m,hm⟩:=UQ k h.2.2.2;exact⟨m,h.1,h.2.1,h.2.2.1,hm⟩
 |f,[],q::ps,g,k,h=>h.elim
 |f,s::ss,[],g,k,h=>h.elim
theorem zP {ss:List Bc} {ps:List Page} (hg:BD g) (h:Jo f ss ps g) (hs:ss.length<=1000) (p:Page):
  (∃s g',DW g ss p=some (g',ss++ [s],true)/\Jo f (ss++ [s]) (ps++ [p]) g'/\BD g'/\J5 p/\U7 g s.Block s.Leaf)\/DW g ss p=some (g,ss,false):=by
 by_cases hp:J5 p
 ·obtain⟨t,t1,t2,t3,t4⟩:=vS hp
  rcases Zs hg ss (by omega) p t1 (λ_=>⟨t2,t3⟩)with⟨_,b,l,q1,_,q2⟩|q
  ·left;have hm:nO g b l t:=by
    obtain⟨x,a1,a2,a3,a4⟩:=q1;exact⟨x,a1,a2,a3,a4,t2,t3⟩
   exact⟨_,_,q2,cA h hm t4,(U5 hg hm).1,hp,q1⟩
  exact .inr q
 rcases Zs hg ss (by omega) p (zS hp) (λhh=>by cases hh)with⟨hh,_⟩|q
 ·cases hh
 exact .inr q
end Go.TI
