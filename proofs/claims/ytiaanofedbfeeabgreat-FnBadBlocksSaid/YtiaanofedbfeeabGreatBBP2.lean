/- A block that goes bad is not written any more. No condition; no program is in sight. -/
import Derived.Test.YtiaanofedbfeeabGreatBBP1
set_option linter.unusedVariables false
set_option linter.unusedSimpArgs false
namespace Go.TI
open Go
noncomputable def e8 (t:ByteArray):Option Page:=match F7 t with
 |some (p,true)=>some p
 |_=>none
noncomputable def pg (i k:Int) (x:Leaf):List Ar:=if x.Is=1 then(match e8 x.Text with
 |some p=>[Ar.mk i k p]
 |none=>[])else []
noncomputable def X4 (i:Int):Int->List Leaf->List Ar
 |_,[]=>[]
 |k,x::l=>pg i k x++X4 i (k+1) l
noncomputable def Jq:Int->List Block->List Ar
 |_,[]=>[]
 |i,b::l=>X4 i 0 b.Leaves++Jq (i+1) l
theorem Yx (i:Int):∀(k:Int) (l m:List Leaf),X4 i k (l++m)=X4 i k l++X4 i (k+l.length) m
 |k,[],m=>by simp[X4]
 |k,x::l,m=>by
  rw[B5,X4,Yx i (k+1) l m,X4,Ax,A7];congr 3;omega
theorem SX:∀(i:Int) (l m:List Block),Jq i (l++m)=Jq i l++Jq (i+l.length) m
 |i,[],m=>by simp[Jq]
 |i,x::l,m=>by
  rw[B5,Jq,SX (i+1) l m,Jq,Ax,A7];congr 3;omega
variable {f g:Flash} {r r' m:List Ar} {t:Int} {y:Ar} {α β:Type} {b:Block} {k n i:Nat} {p:Page} {d:A9} {texts:List ByteArray} {x:Leaf} {s:Bh} {a:List Bh} {l:List α}
theorem ADa {i k:Int} (h:y∈pg i k x):y.Block=i/\y.Leaf=k/\x.Is=1/\e8 x.Text=some y.Page:=by
 unfold pg at h
 grind
theorem iX {i:Int}:∀{k:Int} {l:List Leaf} {y:Ar},y∈X4 i k l->y.Block=i/\k<=y.Leaf/\y.Leaf<k+l.length
 |k,[],y,h=>by cases h
 |k,x::l,y,h=>by
  rw[X4,Al]at h;rw[A7]
  rcases h with h|h
  ·obtain⟨h1,h2,_⟩:=ADa h;omega
  obtain⟨h1,h2,h3⟩:=iX h;omega
theorem iY:∀{i:Int} {l:List Block} {y:Ar},y∈Jq i l->i<=y.Block/\y.Block<i+l.length
 |i,[],y,h=>by cases h
 |i,x::l,y,h=>by
  rw[Jq,Al]at h;rw[A7]
  rcases h with h|h
  ·obtain⟨h1,_⟩:=iX h;omega
  obtain⟨h1,h2⟩:=iY h;omega
theorem JS {x:α} (h:l[k]?=some x):l=l.take k++x::l.drop (k+1)/\(l.take k).length=k:=by
 have hk:=(Ag.1 h).1;have h2:=AT hk;rw[(Ag.1 h).2]at h2;exact⟨by rw[<-h2,Ci],by grind⟩
theorem ZJ {x y:α} (h:l[k]?=some x):l.set k y=l.take k++y::l.drop (k+1):=by
 have hk:=(Ag.1 h).1;exact List.set_eq_take_append_cons_drop.trans<|Ay hk
theorem qJ {l:List Block} (hb:l[i]?=some b) (hx:b.Leaves[k]?=some x):∃A B,Jq 0 l=A++pg i k x++B/\∀bd w y,Jq 0 (l.set i (Block.mk bd w (b.Leaves.set k y)))=A++pg i k y++B:=by
 obtain⟨h1,h2⟩:=JS hb;obtain⟨h3,h4⟩:=JS hx;refine⟨Jq 0 (l.take i)++X4 i 0 (b.Leaves.take k),X4 i ((k:Int)+1) (b.Leaves.drop<|k+1)++Jq ((i:Int)+1) (l.drop<|i+1),?_,λbd w y=>?_⟩
 ·conv=>lhs;rw[h1]
  rw[SX,h2,Jq,Yk]
  conv=>lhs;rw[h3]
  rw[Yx,h4,X4,Yk]
  grind
 rw[ZJ hb,SX,h2,Jq,Yk,ZJ hx,Yx,h4,X4,Yk]
 grind
theorem mY {l:List Block} {b':Block} (hb:l[i]?=some b) (h0:X4 i 0 b'.Leaves=[]):Jq 0 (l.set i b')=(Jq 0 l).filter λy=>y.Block !=(i:Int):=by
 obtain⟨h1,h2⟩:=JS hb;rw[ZJ hb]
 conv=>rhs;rw[h1]
 rw[SX,SX,h2,Jq,Jq,Yk,h0,AO,AO];have e1:(Jq 0<|l.take i).filter (λy=>y.Block !=(i:Int))=Jq 0 (l.take i):=by
  rw[GI];intro y hy;have:=(iY hy).2
  grind
 have e2:(X4 i 0 b.Leaves).filter (λy=>y.Block !=(i:Int))=[]:=by
  rw[Br];intro y hy;have:=(iX hy).1;simp[this]
 have e3:(Jq ((i:Int)+1)<|l.drop<|i+1).filter (λy=>y.Block !=(i:Int))=Jq ((i:Int)+1) (l.drop<|i+1):=by
  rw[GI];intro y hy;have:=(iY hy).1;simp;omega
 rw[e1,e2,e3]
def lfP (x:Leaf):Prop:=(x.Is=0/\L x.Text=[])\/(x.Is=1/\1<=(L x.Text).length/\(L x.Text).length<=120)\/(x.Is=2/\(L x.Text).length<=120)
def xO (l:List Leaf):Prop:=∀(k:Nat) x y,l[k]?=some x->l[k+1]?=some y->x.Is=0->y.Is=0
structure Lg (b:Block):Prop where
 four:b.Leaves.length=4
 wear:0<=b.Wear/\b.Wear<=1000000000
 leaf:∀x∈b.Leaves,lfP x
 turn:xO b.Leaves
structure BE (f:Flash):Prop where
 n:3<=f.Blocks.length/\f.Blocks.length<=10
 blk:∀b∈f.Blocks,Lg b
theorem AAd (x:Leaf):∃v,NB x=some v/\(v=true↔lfP x):=by
 unfold NB lfP;by_cases h0:x.Is=0
 ·rw[show(x.Is==0)=true by simpa using h0];refine⟨_,rfl,?_⟩;rw[Lu,A5];constructor
  ·intro h;exact .inl ⟨h0,by rw[h];rfl⟩
  rintro(h|h|h)
  ·exact Lf (by rw[h.2];rfl)
  ·omega
  omega
 rw[show(x.Is==0)=false by simpa using h0];simp only[Ac];by_cases h1:x.Is=1
 ·rw[show(x.Is==1)=true by simpa using h1,EB,B9];refine⟨_,rfl,?_⟩
  grind
 rw[show(x.Is==1)=false by simpa using h1];simp only[Ac];by_cases h2:x.Is=2
 ·rw[show(x.Is==2)=true by simpa using h2,B9]
  grind
 rw[show(x.Is==2)=false by simpa using h2]
 grind
theorem pA (f:Flash) (h:JW f):∃v,Gd f=some v/\(v=true↔BE f):=by
 unfold Gd;obtain⟨r,h1,h2⟩:=AS (body:=λs:Int=>EI f s) (λ(_:Unit) i=>i) f.Blocks.length (λi _=>∀j b,j<i->f.Blocks[j]?=some b->Lg b) (λr=>(r= .inr false/\¬∀b∈f.Blocks,Lg b)\/r= .inl ()/\∀b∈f.Blocks,Lg b)
  (λ_ i hi hs=>by
   have hx:=Ab hi;have hm:f.Blocks[i]∈f.Blocks:=A3 hi;have m:=h.2 _ hm;have o:=h.1;simp only[EI,Ez hi,Aw,hx,Aa];by_cases h4:f.Blocks[i].Leaves.length=4
   ·rw[show(ln f.Blocks[i].Leaves !=4)=false by simp[ln,h4]];simp only[Ac];rw[EB];simp only[Aa];by_cases hw:0<=f.Blocks[i].Wear/\f.Blocks[i].Wear<=1000000000
    ·rw[Ad hw];simp only[Ah,Ac];obtain⟨q,q1,q2⟩:=AS (body:=λs:Int=>EH f.Blocks[i] s) (λ(_:Unit) i=>i) f.Blocks[i].Leaves.length
      (λk _=>(∀j x,j<k->f.Blocks[i].Leaves[j]?=some x->lfP x)/\∀(j:Nat) x y,j+1<k->f.Blocks[i].Leaves[j]?=some x->f.Blocks[i].Leaves[j+1]?=some y->x.Is=0->y.Is=0)
      (λr=>(r= .inr (.inr<|.inr false)/\¬((∀x∈f.Blocks[i].Leaves,lfP x)/\xO f.Blocks[i].Leaves))\/r= .inl ()/\(∀x∈f.Blocks[i].Leaves,lfP x)/\xO f.Blocks[i].Leaves)
      (λ_ k hk c=>by
       have g:=Ab hk;simp only[EH,Ez hk,Aw,g,Aa];obtain⟨v,v1,v2⟩:=AAd f.Blocks[i].Leaves[k];rw[v1];simp only[Aa]
       cases hv:v with
       |false=>
        refine .inr ⟨_,rfl,.inl ⟨rfl,λhh=>?_⟩⟩
        grind
       |true=>
        have l:=v2.1 hv;simp only[Ah,Ac];by_cases p:k=0
        ·rw[Af<|by omega];simp only[Ac,Aa];rw[ad1];refine .inl ⟨(),rfl,λj x hj a=>?_,λj x y hj=>by omega⟩
         grind
        rw[Ad<|by omega];simp only[Ae];rw[Cj,show(k:Int)-1=((k-1:Nat):Int) by omega,Aw,Ab<|by omega];simp only[Aa];have good:(f.Blocks[i].Leaves[k-1].Is=0->f.Blocks[i].Leaves[k].Is=0)->(∀j x,j<k+1->f.Blocks[i].Leaves[j]?=some x->lfP x)/\∀(j:Nat) x y,j+1<k+1->f.Blocks[i].Leaves[j]?=some x->f.Blocks[i].Leaves[j+1]?=some y->x.Is=0->y.Is=0:=by
         intro hg;refine⟨λj x hj a=>?_,λj x y hj a d h0=>?_⟩
         ·grind
         by_cases e:j+1=k
         ·obtain rfl:j=k-1:=by omega
          grind
         grind
        cases e0:(f.Blocks[i].Leaves[k-1].Is==0)with
        |false=>
         simp only[Ac,Aa];rw[ad1];exact .inl ⟨(),rfl,good λhh=>by grind⟩
        |true=>
         simp only[Ae,Aa]
         cases e1:(f.Blocks[i].Leaves[k].Is !=0)with
         |false=>
          simp only[Ac];rw[ad1];exact .inl ⟨(),rfl,good λ_=>by simpa using e1⟩
         |true=>
          refine .inr ⟨_,rfl,.inl ⟨rfl,λhh=>?_⟩⟩;have:=hh.2 (k-1) _ _ (Ab<|by omega) (by rw[show k-1+1=k by omega];exact g)<|by simpa using e0
          simp[this]at e1)
      (λ_ c=>⟨_,by simp only[EH,Ec],.inr ⟨rfl,λx a=>by
       obtain⟨j,hj,rfl⟩:=AC a
       exact c.1 j _ hj<|Ab hj,λj x y a d=>c.2 j x y (Ag.1 d).1 a d⟩⟩) (s:=()) ⟨λj x hj=>by omega,λj x y hj=>by omega⟩
     rw[q1]
     rcases q2 with⟨rfl,q2⟩|⟨rfl,q2,q3⟩
     ·exact .inr ⟨_,rfl,.inl ⟨rfl,λhh=>q2 ⟨(hh _ hm).leaf,(hh _ hm).turn⟩⟩⟩
     simp only[Aa,Bz];rw[ad1];refine .inl ⟨(),rfl,λj b hj hb=>?_⟩;by_cases e:j=i
     ·subst e;rw[hx]at hb
      injection hb with hb
      rw[<-hb];exact⟨h4,hw,q2,q3⟩
     grind
    rw[Af hw];exact .inr ⟨_,rfl,.inl ⟨rfl,λhh=>hw (hh _ hm).wear⟩⟩
   rw[show(ln f.Blocks[i].Leaves !=4)=true by simp[ln];omega]
   exact .inr ⟨_,rfl,.inl ⟨rfl,λhh=>h4 (hh _ hm).four⟩⟩)
  (λ_ hs=>⟨_,by simp only[EI,Ec],.inr ⟨rfl,λb hb=>by
   obtain⟨j,hj,rfl⟩:=AC hb
   exact hs j _ hj<|Ab hj⟩⟩) (s:=()) (λj b hj=>by omega)
 rw[h1]
 rcases h2 with⟨rfl,h2⟩|⟨rfl,h2⟩
 ·exact⟨_,rfl,by simp only[BB,WP];exact λhh=>h2 hh.blk⟩
 simp only[Aa,Bz];rw[EB,B4];refine⟨_,rfl,?_⟩;rw[A5];constructor
 ·intro hh;exact⟨by omega,h2⟩
 intro hh;have:=hh.n;omega
theorem BE.cap (h:BE f):JW f:=⟨by have:=h.n;omega,λb hb=>by rw[(h.blk b hb).four];omega⟩
theorem BE.text (h:BE f):∀b∈f.Blocks,∀x∈b.Leaves,(L x.Text).length<=120:=λb hb x hx=>by
 rcases(h.blk b hb).leaf x hx with h|h|h
 ·rw[h.2];simp
 ·exact h.2.2
 exact h.2
theorem PV (h:BE f):Gd f=some true:=by
 obtain⟨v,h1,h2⟩:=pA f h.cap;rw[h1,h2.2 h]
theorem BE.few (h:BE f):nl f.Blocks<=40:=by
 have:∀l:List Block,(∀b∈l,Lg b)->nl l=4*l.length:=by
  intro l
  induction l with
  |nil=>intro _;rfl
  |cons b l ih=>
   intro hh;have h1:=ih (λx hx=>hh x<|by simp[hx]);have h2:=(hh b<|by simp).four;unfold Go.TI.nl at h1⊢
   grind
 rw[this _ h.blk];have:=h.n;omega
def Ze (y:Ar):Int:=y.Page.Seq
def SR (l r:List Ar):Prop:=srt Ze r/\BX Ze l r
theorem SR.uniq {l:List Ar} (h:SR l r) (h':SR l r'):r=r':=NQ Ze h.1 h'.1 λk=>by rw[h.2 k,<-h'.2 k]
theorem SR.mem {l:List Ar} (h:SR l r):y∈r↔y∈l:=h.2.mem
theorem SR.filter {l:List Ar} (h:SR l r) (p:Ar->Bool):SR (l.filter p) (r.filter p):=by
 refine⟨h.1.filter _,λk=>?_⟩;have:=h.2 k;rw[E7,E7]
 have e:∀m:List Ar,m.filter (λx=>(Ze x==k)&&p x)=(m.filter λx=>Ze x==k).filter p:=λm=>by
  rw[E7]
  grind
 rw[e,e,this]
theorem SR.add {A B r:List Ar} (h:SR (A++B) r) (hy:∀x∈r,Ze x<Ze y):SR (A++ [y]++B) (r++ [y]):=by
 refine⟨?_,λk=>?_⟩
 ·unfold srt;rw[AR];refine⟨h.1,Ji _ _,λx hx z hz=>?_⟩
  grind
 have h2:=h.2 k;rw[AO]at h2;rw[AO,AO,AO];by_cases e:Ze y=k
 ·have e1:∀x∈A++B,¬(Ze x==k)=true:=λx hx=>by
   have:=hy x<|h.mem.2 hx;simp;omega
  have a0:A.filter (λx=>Ze x==k)=[]:=Br.2 λx hx=>e1 x<|by simp[hx]
  have b0:B.filter (λx=>Ze x==k)=[]:=Br.2 λx hx=>e1 x<|by simp[hx]
  grind
 grind
theorem mW {t:ByteArray} (h:F7 t=some (p,true)):e8 t=some p:=by unfold e8;rw[h]
theorem wN (h:BE f):Ap (λs:List Ar×Int=>EG f s.1 s.2) ([],0)=some (Jq 0 f.Blocks):=by
 have hn:=h.n;obtain⟨X,h1,h2⟩:=AS (body:=λs:List Ar×Int=>EG f s.1 s.2) (λs i=>(s,i)) f.Blocks.length (λi o=>o=Jq 0 (f.Blocks.take i)/\o.length<=4*i) (λb=>b=Jq 0 f.Blocks)
  (λa i hi hs=>by
   obtain⟨ho,l⟩:=hs;have hb:f.Blocks[i]?=some f.Blocks[i]:=Ab hi;have hm:f.Blocks[i]∈f.Blocks:=A3 _;have h4:=(h.blk _ hm).four;refine .inl ?_;simp only[EG,Ez hi];obtain⟨u,q1,q2,q3⟩:=AS (body:=λs:List Ar×Int=>Gt f (i:Int) s.1 s.2) (λs i=>(s,i)) f.Blocks[i].Leaves.length (λk u=>u=a++X4 i 0 (f.Blocks[i].Leaves.take k)/\u.length<=a.length+k) (λu=>u=a++X4 i 0 f.Blocks[i].Leaves/\u.length<=a.length+4)
    (λu k hk hu=>by
     obtain⟨d,m⟩:=hu;have hx:f.Blocks[i].Leaves[k]?=some f.Blocks[i].Leaves[k]:=Ab hk;have g:f.Blocks[i].Leaves[k]∈f.Blocks[i].Leaves:=A3 _
     have j:∀y:Ar,ap 72 u [y]=some (u++ [y]):=λy=>BP<|by grind
     have c:∀z,X4 i 0 (f.Blocks[i].Leaves.take<|k+1)=X4 i 0 (f.Blocks[i].Leaves.take k)++z↔pg i k f.Blocks[i].Leaves[k]=z:=by
      intro z;rw[Ei,hx,Yx];simp only[Option.toList,X4,A4,AW];rw[show(0:Int)+((min k f.Blocks[i].Leaves.length:Nat):Int)=(k:Int) by omega];simp
     refine .inl ?_;obtain⟨p,ok,r1,r2,r3,r4⟩:=IM f.Blocks[i].Leaves[k].Text (by have:=h.text _ hm _ g;omega);simp only[Gt,Ez hk,Aw,hb,Aa,XQ f h.cap hb hx,j]
     cases e:f.Blocks[i].Leaves[k].Is==1 with
     |false=>
      obtain⟨p',ok',t1,_⟩:=IM (bs []) (by rw[EY];simp);simp only[Ac,Aa,t1];refine⟨u,by rw[ad1],?_,by omega⟩;rw[d,(c []).2 (by unfold pg;grind),A4]
     |true=>
      simp only[Ae,Aa,r1]
      cases ok with
      |false=>
       refine⟨u,by simp only[Ac];rw[ad1],?_,by omega⟩;rw[d,(c []).2 (by unfold pg e8;grind),A4]
      |true=>
       refine⟨u++ [Ar.mk i k p],by simp only[Ae];rw[ad1],?_,by grind⟩
       rw[d,(c [Ar.mk i k p]).2 (by unfold pg;rw[Ay (by simpa using e),mW r1]),Ax])
    (λu hu=>⟨u,by simp only[Gt,Aw,hb,Aa,Ec],by grind,by omega⟩) (s:=a) ⟨by simp[X4],by omega⟩
   rw[q1,Aa,ad1];refine⟨u,rfl,?_,by omega⟩;rw[q2,ho,Ei,hb,SX];simp only[Option.toList,Jq,A4,AW]
   grind)
  (λa hs=>⟨a,by simp only[EG,Ec],by grind⟩) (s:=[]) ⟨by simp[Jq],by simp⟩
 grind
theorem AAS (h:BE f):∃r,dO f r/\SR (Jq 0 f.Blocks) r:=by
 have hT:∀b∈f.Blocks,∀x∈b.Leaves,(L x.Text).length<=1048576:=λb hb x hx=>by have:=h.text b hb x hx;omega
 have hn:=h.few;obtain⟨r,h1,h2,h3,h4,h5⟩:=bG f h.cap hT (by omega);refine⟨r,⟨h1,h2,by omega,h4,λy hy=>mZ hT<|h4 y hy,h5⟩,h5,?_⟩;obtain⟨X,c1,_,c3,_⟩:=aR f h.cap hT (by omega);have hX:X=Jq 0 f.Blocks:=by
  rw[wN h]at c1
  grind
 obtain⟨r',s1,s2,s3⟩:=eG BC X (by omega);have:Gi f=some r':=by
  unfold Gi
  grind
 rw[h2]at this
 injection this with this
 rw[this,<-hX];exact s3
def KG (l:List Leaf):Nat:=(l.takeWhile λx=>x.Is !=0).length
theorem jA (l:List Leaf):KG l<=l.length:=by
 unfold KG;have:=(List.takeWhile_sublist (λx:Leaf=>x.Is !=0) (l:=l)).length_le;exact this
theorem PD:∀(l:List Leaf),(∀(k:Nat) x,k<KG l->l[k]?=some x->x.Is≠0)/\(∀x,l[KG l]?=some x->x.Is=0)
 |[]=>⟨λk x h=>by simp[KG]at h,λx h=>by simp[KG]at h⟩
 |y::l=>by
  obtain⟨h1,h2⟩:=PD l;by_cases e:y.Is=0
  ·have:KG (y::l)=0:=by unfold KG;rw[List.takeWhile_cons_of_neg<|by simp[e]];rfl
   grind
  have:KG (y::l)=KG l+1:=by unfold KG;rw[List.takeWhile_cons_of_pos<|by simpa using e];rfl
  grind
theorem Ix (b:Block) (h:b.Leaves.length=4):ER b=some (KG b.Leaves:Int):=by
 unfold ER;obtain⟨h1,h2⟩:=PD b.Leaves;have a:=jA b.Leaves;obtain⟨r,q1,q2⟩:=AS (body:=λs:Int=>EQ b s) (λ(_:Unit) i=>i) b.Leaves.length (λi _=>i<=KG b.Leaves) (λr=>(r= .inr (KG b.Leaves:Int))\/r= .inl ()/\KG b.Leaves=4)
  (λ_ i hi hs=>by
   have hx:=Ab hi;simp only[EQ,Ez hi,Aw,hx,Aa];by_cases e:i=KG b.Leaves
   ·grind
   have:=h1 i b.Leaves[i] (by omega) hx;rw[show(b.Leaves[i].Is==0)=false by simpa using this,Ac,ad1]
   exact .inl ⟨(),rfl,by omega⟩)
  (λ_ hs=>⟨_,by simp only[EQ,Ec],.inr ⟨rfl,by omega⟩⟩) (s:=()) (by omega)
 grind
theorem Lg.blank (h:Lg b) (hk:KG b.Leaves<=k) (hx:b.Leaves[k]?=some x):x.Is=0:=by
 induction k generalizing x with
 |zero=>
  have:KG b.Leaves=0:=by omega
  exact(PD b.Leaves).2 x (by rw[this];exact hx)
 |succ k ih=>
  by_cases e:KG b.Leaves=k+1
  ·exact(PD b.Leaves).2 x (by rw[e];exact hx)
  have a:=(Ag.1 hx).1;have hy:b.Leaves[k]?=some b.Leaves[k]:=Ab (by omega);exact h.turn k _ x hy hx<|ih (by omega) hy
theorem ZK {y:Leaf} (h:Lg b) (hk:k=KG b.Leaves) (h4:k<4) (hy:lfP y) (a:y.Is≠0):Lg (Block.mk b.Bad b.Wear (b.Leaves.set k y)):=by
 refine⟨by simpa using h.four,h.wear,λx hx=>?_,?_⟩
 ·rcases Cf hx with hx|rfl
  ·exact h.leaf x hx
  exact hy
 intro j x z hx hz h0;have hx':(b.Leaves.set k y)[j]?=some x:=hx;have hz':(b.Leaves.set k y)[j+1]?=some z:=hz;rw[Cz]at hx' hz';by_cases e:k=j
 ·grind
 rw[Av e]at hx';by_cases e2:k=j+1
 ·have:=(PD b.Leaves).1 j x (by omega) hx';exact absurd h0 this
 rw[Av e2]at hz';exact h.turn j x z hx' hz' h0
theorem Pa (h:BE f) (hb:Lg b):BE (Flash.mk (f.Blocks.set i b)):=by
 refine⟨by have:=h.n;simpa using this,λx hx=>?_⟩
 rcases Cf hx with hx|rfl
 ·exact h.blk x hx
 exact hb
def nE (f:Flash) (b l:Int) (t:ByteArray):Prop:=∃x,gi f.Blocks b=some x/\x.Bad=false/\l=(KG x.Leaves:Int)/\KG x.Leaves<4/\1<=(L t).length/\(L t).length<=120
def Uv (f:Flash) (b l:Int) (y:Leaf):Flash:=Flash.mk (match gi f.Blocks b with
 |some x=>si f.Blocks b<|Block.mk x.Bad x.Wear<|si x.Leaves l y
 |none=>f.Blocks)
theorem mJ (h:BE f) (b l:Int) (t:ByteArray):(nE f b l t/\L7 f b l t=some (Uv f b l (Leaf.mk 1 t),true))\/(¬nE f b l t/\L7 f b l t=some (f,false)):=by
 have hn:=h.n;unfold L7 Vt;rw[Da f h.cap,PV h];simp only[Aa,Ah,Ac];rw[B4,Cj,EB];simp only[Aa];by_cases hb:0<=b/\b<=(f.Blocks.length:Int)-1
 ·rw[Ad hb];simp only[Ae];have hg:=KX (l:=f.Blocks) hb.1 (by omega);have hm:f.Blocks[b.toNat]'(by omega)∈f.Blocks:=A3 _;generalize d:f.Blocks[b.toNat]'(by omega)=x at hg hm;have hP:=h.blk x hm;rw[hg];simp only[Aa]
  cases a:x.Bad with
  |true=>
   refine .inr ⟨?_,rfl⟩;rintro⟨z,hz,h2,_⟩
   grind
  |false=>
   simp only[AD,Ae];by_cases c:l<4
   ·rw[Ad c];simp only[Ae];rw[Ix x hP.four];simp only[Aa];by_cases hl:l=(KG x.Leaves:Int)
    ·rw[show(l==(KG x.Leaves:Int))=true by simpa using hl];simp only[Ae];rw[B9,EB];simp only[Aa];by_cases ht:1<=(L t).length/\(L t).length<=120
     ·rw[Ad (by omega:1<=((L t).length:Int)/\((L t).length:Int)<=120)];simp only[Ah,Ac,Aa];refine .inl ⟨⟨x,hg,a,hl,by omega,ht⟩,?_⟩;rw[KX (l:=x.Leaves) (i:=l) (by omega) (by rw[hP.four];omega)];simp only[Aa];unfold Uv
      grind
     rw[Af (by omega:¬(1<=((L t).length:Int)/\((L t).length:Int)<=120))];refine .inr ⟨?_,rfl⟩;rintro⟨z,hz,_,_,_,h5⟩;exact ht h5
    rw[show(l==(KG x.Leaves:Int))=false by simpa using hl];refine .inr ⟨?_,rfl⟩;rintro⟨z,hz,_,h3,_⟩
    grind
   rw[Af c];refine .inr ⟨?_,rfl⟩;rintro⟨z,hz,_,h3,h4,_⟩;omega
 rw[Af hb];refine .inr ⟨?_,rfl⟩;rintro⟨z,hz,_⟩;obtain⟨k1,k2⟩:=CQ hz
 grind
theorem Uu {b l:Int} {t:ByteArray} (h:BE f) (hm:nE f b l t):BE (Uv f b l (Leaf.mk 1 t))/\BE (Uv f b l (Leaf.mk 2 t))/\∃A B,Jq 0 f.Blocks=A++B/\(∀p,e8 t=some p->Jq 0 (Uv f b l (Leaf.mk 1 t)).Blocks=A++ [Ar.mk b l p]++B)/\(∀u,Jq 0 (Uv f b l (Leaf.mk 2 u)).Blocks=A++B):=by
 obtain⟨x,h1,h2,rfl,h4,h5⟩:=hm;obtain⟨k1,k2⟩:=CQ h1;obtain⟨c,rfl⟩:∃c:Nat,b=(c:Int):=⟨_,(AY k1).symm⟩;rw[Be]at k2;have hP:=h.blk x<|Aq k2;have hx:x.Leaves[KG x.Leaves]?=some (x.Leaves[KG x.Leaves]'(by rw[hP.four];exact h4)):=Ab _;have d:=hP.blank (Au _) hx
 have a:∀y,Uv f (c:Int) (KG x.Leaves:Int) y=Flash.mk (f.Blocks.set c<|Block.mk x.Bad x.Wear<|x.Leaves.set (KG x.Leaves) y):=λy=>by
  unfold Uv;rw[h1];simp only[E8]
 rw[a,a];refine⟨Pa h (ZK hP rfl h4 (.inr<|.inl ⟨rfl,h5.1,h5.2⟩)<|by simp),Pa h (ZK hP rfl h4 (.inr<|.inr ⟨rfl,h5.2⟩)<|by simp),?_⟩;obtain⟨A,B,e1,e2⟩:=qJ k2 hx;have z:pg (c:Int) (KG x.Leaves:Int) (x.Leaves[KG x.Leaves]'(by grind))=[]:=by unfold pg;grind
 rw[z,A4]at e1;refine⟨A,B,e1,λp hp=>?_,λu=>?_⟩
 ·rw[e2];congr 2;unfold pg;rw[Ay rfl,hp]
 rw[a,e2];have:pg (c:Int) (KG x.Leaves:Int) (Leaf.mk 2 u)=[]:=by rfl
 grind
theorem zW {l:List Leaf} (h:∀x∈l,x.Is=0):nb l=l.length:=by
 induction l with
 |nil=>rfl
 |cons x l ih=>
  have h1:=ih (λy hy=>h y<|by simp[hy]);unfold nb at h1⊢;rw[BJ,FG,h1,Y1,Ay (by simpa using h x<|by simp),A7];omega
theorem ABN {l:List Leaf} (h:∀x∈l,x.Is≠0):nb l=0:=by
 induction l with
 |nil=>rfl
 |cons x l ih=>
  have h1:=ih (λy hy=>h y<|by simp[hy]);unfold nb at h1⊢;rw[BJ,FG,h1,Y1,Av<|by simpa using h x<|by simp]
theorem ADe (l m:List Leaf):nb (l++m)=nb l+nb m:=by unfold nb;rw[Co,List.sum_append]
theorem Lg.nb (h:Lg b):nb b.Leaves=4-KG b.Leaves:=by
 have a:=jA b.Leaves;have h4:=h.four;have e:Go.TI.nb b.Leaves=Go.TI.nb (b.Leaves.take<|KG b.Leaves)+Go.TI.nb (b.Leaves.drop<|KG b.Leaves):=by rw[<-ADe,Ci]
 rw[e,ABN (l:=b.Leaves.take<|KG b.Leaves),zW (l:=b.Leaves.drop<|KG b.Leaves),Cb,h4]
 ·omega
 ·intro x hx;obtain⟨k,hk,rfl⟩:=AC hx;rw[Cb]at hk;rw[UP];exact h.blank (k:=KG b.Leaves+k) (by omega)<|Ab _
 intro x hx;obtain⟨k,hk,rfl⟩:=AC hx;rw[AW]at hk;rw[HX];exact(PD b.Leaves).1 k _ (by omega) (Ab _)
def Ux (f:Flash) (b l:Int):Prop:=∃x,gi f.Blocks b=some x/\x.Bad=false/\l=(KG x.Leaves:Int)/\KG x.Leaves<4
theorem cH (h:BE f):∃v:Int,Ki f=some v/\((v= -1/\∀b∈f.Blocks,b.Bad=false->KG b.Leaves=0\/KG b.Leaves=4)\/∃x,gi f.Blocks v=some x/\x.Bad=false/\KG x.Leaves<4):=by
 unfold Ki;have hn:=h.n;obtain⟨b,h1,h3⟩:=AS (body:=λs:Int=>Ep f s) (λ(_:Unit) i=>i) f.Blocks.length (λi _=>∀(j:Nat) b,j<i->f.Blocks[j]?=some b->b.Bad=false->KG b.Leaves=0\/KG b.Leaves=4) (λb=>(b= .inl ()/\∀b∈f.Blocks,b.Bad=false->KG b.Leaves=0\/KG b.Leaves=4)\/∃i:Nat,∃x,b= .inr (i:Int)/\f.Blocks[i]?=some x/\x.Bad=false/\KG x.Leaves<4)
  (λ_ i hi hs=>by
   have hg:f.Blocks[i]?=some f.Blocks[i]:=Ab hi;have hP:=h.blk _<|A3 hi;have c:=hP.nb;have h4:=hP.four;have d:=jA f.Blocks[i].Leaves;simp only[Ep,Ez hi];rw[Z6 f i hg<|by omega];simp only[Aa,Aw,hg];rw[ad1]
   cases a:f.Blocks[i].Bad with
   |true=>
    refine .inl ⟨(),rfl,λj b hj hb h0=>?_⟩;by_cases e:j=i
    ·subst e;rw[hg]at hb
     injection hb with hb
     rw[<-hb,a]at h0;cases h0
    exact hs j b (by omega) hb h0
   |false=>
    simp only[AD,Ae];by_cases e:0<KG f.Blocks[i].Leaves/\KG f.Blocks[i].Leaves<4
    ·rw[Ad (by omega),Ad<|by omega];exact .inr ⟨_,rfl,.inr ⟨i,_,rfl,hg,a,e.2⟩⟩
    have:(cond (decide<|((nb f.Blocks[i].Leaves:Nat):Int)>0) (some<|decide<|((f.Blocks[i].Leaves.length-nb f.Blocks[i].Leaves:Nat):Int)>0) (some false):Option Bool)=some false:=by
     by_cases e2:nb f.Blocks[i].Leaves=0
     ·rw[Af<|by omega];rfl
     rw[Ad (by omega),Af<|by omega];rfl
    rw[this];refine .inl ⟨(),rfl,λj b hj hb h0=>?_⟩;by_cases e:j=i
    ·subst e;rw[hg]at hb
     injection hb with hb
     rw[<-hb];omega
    exact hs j b (by omega) hb h0)
  (λ_ hs=>⟨_,by simp only[Ep,Ec],.inl ⟨rfl,λb hb=>by
   obtain⟨j,hj,rfl⟩:=AC hb
   exact hs j _ hj<|Ab hj⟩⟩) (s:=()) (λj b hj=>by omega)
 rw[h1]
 rcases h3 with⟨rfl,h3⟩|⟨i,x,rfl,h4,h5,h6⟩
 ·exact⟨-1,rfl,.inl ⟨rfl,h3⟩⟩
 exact⟨(i:Int),rfl,.inr ⟨x,by rw[Aw];exact h4,h5,h6⟩⟩
theorem mM (h:BE f):∃b l:Int,∃ok:Bool,L8 f=some (b,l,ok)/\(ok=true->Ux f b l)/\(ok=false->∀b∈f.Blocks,b.Bad=false->KG b.Leaves=4):=by
 have hn:=h.n;obtain⟨o,o1,o2⟩:=cH h;obtain⟨e1,_⟩:=Pu f h.cap;unfold L8;rw[PV h,o1,e1];simp only[Aa,Ah,Ac]
 rcases o2 with⟨rfl,o2⟩|⟨x,o2,o3,o4⟩
 ·rw[Af<|by omega];simp only[Ac];have a:∀y∈Kr f,Ux f y 0:=by
   intro y hy;unfold Kr at hy;obtain⟨i,hi,rfl⟩:=AG.1 hy;obtain⟨c,d⟩:=Bf.1 hi;rw[Hm]at c;unfold On at d;rw[Ab c]at d;simp only[Ak,CG,A5]at d;have hP:=h.blk _<|A3 c;have:=hP.nb;have:=hP.four;exact⟨_,by rw[Aw];exact Ab c,d.1,by omega,by omega⟩
  cases j:Kr f with
  |nil=>
   refine⟨0,0,false,rfl,by simp,λ_ b hb g=>?_⟩
   rcases o2 b hb g with e|e
   ·obtain⟨i,hi,rfl⟩:=AC hb;have hm:(i:Int)∈Kr f:=by
     unfold Kr;refine AG.2 ⟨i,Bf.2 ⟨Hm.2 hi,?_⟩,rfl⟩;unfold On;rw[Ab hi];have hP:=h.blk _<|A3 hi;have:=hP.nb;have:=hP.four;simp only[g,AD,Dn,A5];omega
    rw[j]at hm;cases hm
   exact e
  |cons x l=>
   rw[j]at a;have t:(x::l).length<=10:=by
    rw[<-j];unfold Kr;rw[Bg];have:=CL (On f)<|List.range f.Blocks.length;rw[CR]at this;omega
   have m:(ln (x::l)==0)=false:=by simp[ln];omega
   rw[m];simp only[Ac];have p:gi (x::l) 0=some x:=Aw (i:=0);rw[p];simp only[Aa]
   have k:∀y,Ux f y 0->∃z,gi f.Blocks y=some z:=λy ⟨z,hz,_⟩=>⟨z,hz⟩
   obtain⟨w,w1,w2⟩:=VG (body:=λs:Int×Int=>Fq f (x::l) s.1 s.2) (λ(b:Int) i=>(b,i)) (x::l).length (λ_ b=>Ux f b 0) (λb=>Ux f b 0)
    (λb i hi hb=>by
     have hg:(x::l)[i]?=some (x::l)[i]:=Ab hi;have hp:=a _<|A3 hi;obtain⟨z1,q⟩:=k _ hp;obtain⟨z2,r⟩:=k _ hb;simp only[Fq,Ez hi,Aw,hg,Aa,q,r];rw[ad1]
     cases decide (z1.Wear<z2.Wear)with
     |true=>exact .inl ⟨_,rfl,hp⟩
     |false=>exact .inl ⟨_,rfl,hb⟩)
    (λb hb=>⟨b,by simp only[Fq,Ec],hb⟩) l.length 1 x (by simp;omega) (a x<|by simp)
   have e1':((1:Nat):Int)=1:=rfl;rw[e1']at w1;rw[w1];exact⟨w,0,true,rfl,λ_=>w2,by simp⟩
 obtain⟨k1,k2⟩:=CQ o2;rw[cT,o2,Aa,Ix x (h.blk x<|Aq k2).four];exact⟨_,_,true,rfl,λ_=>⟨x,o2,o3,rfl,o4⟩,by simp⟩
def AAG (f:Flash) (b:Int):Prop:=∃x,gi f.Blocks b=some x/\x.Bad=false/\x.Wear≠1000000000
def TC (f:Flash) (b:Int):Flash:=Flash.mk (match gi f.Blocks b with
 |some x=>si f.Blocks b<|Block.mk false (x.Wear+1) O0
 |none=>f.Blocks)
theorem yT (h:BE f) (b:Int):(AAG f b/\Ui f b=some (TC f b,true))\/(¬AAG f b/\Ui f b=some (f,false)):=by
 have hn:=h.n;unfold Ui;rw[Da f h.cap,PV h];simp only[Aa,Ah,Ac];rw[B4,Cj,EB];simp only[Aa];by_cases hb:0<=b/\b<=(f.Blocks.length:Int)-1
 ·rw[Ad hb];simp only[Ah,Ac];have hg:=KX (l:=f.Blocks) hb.1 (by omega);have hm:f.Blocks[b.toNat]'(by omega)∈f.Blocks:=A3 _;generalize c:f.Blocks[b.toNat]'(by omega)=x at hg hm;have hP:=h.blk x hm;rw[hg];simp only[Aa]
  cases a:x.Bad with
  |true=>
   refine .inr ⟨?_,rfl⟩;rintro⟨z,hz,h2,_⟩;rw[hg]at hz
   injection hz with hz
   rw[<-hz,a]at h2;cases h2
  |false=>
   simp only[Ac,Aa];by_cases hw:x.Wear=1000000000
   ·rw[show(x.Wear==1000000000)=true by simpa using hw];refine .inr ⟨?_,rfl⟩;rintro⟨z,hz,_,h3⟩;rw[hg]at hz
    injection hz with hz
    rw[<-hz]at h3;exact h3 hw
   rw[show(x.Wear==1000000000)=false by simpa using hw];simp only[Ac];rw[SY];simp only[Aa];have:=hP.wear;rw[C6];refine .inl ⟨⟨x,hg,a,hw⟩,?_⟩;unfold TC;rw[hg]
 rw[Af hb];refine .inr ⟨?_,rfl⟩;rintro⟨z,hz,_⟩;obtain⟨k1,k2⟩:=CQ hz;have:=(Ag.1 k2).1;omega
theorem oP {bad:Bool} {w:Int} (h:0<=w/\w<=1000000000):Lg (Block.mk bad w O0):=by
 refine⟨rfl,h,λx hx=> .inl ?_,λk x y hx hy _=>?_⟩
 ·have:=D5 hx;rw[this];exact⟨rfl,rfl⟩
 have:=D5<|Aq hy;rw[this]
theorem Z4 (i:Int):∀(k:Int) (l:List Leaf),(∀x∈l,x.Is≠1)->X4 i k l=[]
 |k,[],_=>rfl
 |k,x::l,h=>by
  rw[X4,Z4 i (k+1) l (λy hy=>h y (by simp[hy]))];unfold pg;rw[Av (h x (by simp))];rfl
theorem Xk {b:Int} (h:BE f) (hc:AAG f b):BE (TC f b)/\Jq 0 (TC f b).Blocks=(Jq 0 f.Blocks).filter λy=>y.Block !=b:=by
 obtain⟨x,h1,h2,h3⟩:=hc;obtain⟨k1,k2⟩:=CQ h1;obtain⟨c,rfl⟩:∃c:Nat,b=(c:Int):=⟨_,(AY k1).symm⟩;rw[Be]at k2;have hP:=h.blk x<|Aq k2;have hw:=hP.wear;unfold TC;rw[h1];simp only[E8];exact⟨Pa h (oP ⟨by omega,by omega⟩),mY k2 (Z4 _ _ _ λy hy=>by rw[D5 hy];simp)⟩
def Ud (f:Flash) (s:Bh):Prop:=(s.Kind=1/\nE f s.Block s.Leaf s.Text)\/(s.Kind=2/\AAG f s.Block)
def Ka (f:Flash) (s:Bh):Flash:=if s.Kind=1 then Uv f s.Block s.Leaf (Leaf.mk 1 s.Text)else TC f s.Block
theorem Un (h:BE f) (s:Bh):(Ud f s/\M8 f s=some (Ka f s,true))\/(¬Ud f s/\M8 f s=some (f,false)):=by
 unfold M8;by_cases k1:s.Kind=1
 ·rw[show(s.Kind==1)=true by simpa using k1];simp only[Ae]
  rcases mJ h s.Block s.Leaf s.Text with⟨h1,h2⟩|⟨h1,h2⟩
  ·rw[h2];exact .inl ⟨.inl ⟨k1,h1⟩,by unfold Ka;rw[Ay k1];rfl⟩
  rw[h2];exact .inr ⟨by rintro(hh|hh);exact h1 hh.2;omega,rfl⟩
 rw[show(s.Kind==1)=false by simpa using k1];simp only[Ac];by_cases k2:s.Kind=2
 ·rw[show(s.Kind==2)=true by simpa using k2];simp only[Ae]
  rcases yT h s.Block with⟨h1,h2⟩|⟨h1,h2⟩
  ·rw[h2];exact .inl ⟨.inr ⟨k2,h1⟩,by unfold Ka;rw[Av k1];rfl⟩
  rw[h2];exact .inr ⟨by rintro(hh|hh);omega;exact h1 hh.2,rfl⟩
 rw[show(s.Kind==2)=false by simpa using k2];simp only[Ac];rw[Da f h.cap];exact .inr ⟨by rintro(hh|hh)<;>omega,rfl⟩
theorem tC (h:BE f) (hs:Ud f s):BE (Ka f s):=by
 unfold Ka
 rcases hs with⟨h1,h2⟩|⟨h1,h2⟩
 ·rw[Ay h1];exact(Uu h h2).1
 rw[Av<|by omega];exact(Xk h h2).1
theorem Zg {t:ByteArray} {ok:Bool} (h:BE f) (steps:List Bh) (hs:steps.length<=1000) (p:Page) (ht:E9 p=some (t,ok)) (hl:ok=true->1<=(L t).length/\(L t).length<=120):
  (ok=true/\∃b l,Ux f b l/\L8 f=some (b,l,true)/\DW f steps p=some (Uv f b l (Leaf.mk 1 t),steps++ [Bh.mk 1 b l t],true))\/DW f steps p=some (f,steps,false):=by
 obtain⟨b,l,room,p1,p2,_⟩:=mM h;unfold DW;rw[ht,p1];simp only[Aa]
 cases ok with
 |false=>exact .inr rfl
 |true=>
  simp only[Ah,Ac,Aa]
  cases room with
  |false=>exact .inr rfl
  |true=>
   simp only[Ah,Ac];have hp:=p2 rfl;have hl':=hl rfl;have hm:nE f b l t:=by
    obtain⟨x,a1,a2,a3,a4⟩:=hp;exact⟨x,a1,a2,a3,a4,hl'⟩
   rcases Un h (Bh.mk 1 b l t)with⟨h1,h2⟩|⟨h1,h2⟩
   ·rw[h2];rw[Aa,BP (by simp;omega)];refine .inl ⟨trivial,b,l,hp,rfl,?_⟩;unfold Ka;rfl
   exact absurd (.inl ⟨rfl,hm⟩) h1
theorem oS (u:ByteArray) (hu:(L u).length<=20000) (a:Nat) (ha:a<=(L u).length):∃n c,Dt (EA.mk u (a:Int) false)=some (n,c)/\c.text_=u/\(c.bad_=true\/c.bad_=false/\∃b:Nat,c.at_=b/\a<b/\b<=(L u).length)/\(c.bad_=true->c.at_=a):=by
 obtain⟨r,h1,_,h2⟩:=IL u (a:Int) (by omega) ⟨by omega,by omega⟩;rw[Km u _ hu h1]
 rcases h2 with⟨e1,e2,e3⟩|⟨e1,a',b,n,k1,k2,k3,k4,k5,_⟩
 ·rw[e1];exact⟨_,_,rfl,rfl,.inl rfl,λ_=>rfl⟩
 rw[e1];refine⟨_,_,rfl,rfl,.inr ⟨rfl,b,k2,by omega,k5⟩,λhh=>by cases hh⟩
theorem tN (t:ByteArray) (ht:(L t).length<=20000):∀(n a:Nat) (b:List Cy),(L t).length-a<=n->a<=(L t).length->b.length<=a->∃r,Ap (λs:List Cy×ByteArray×Int×Bool=>DN t s.1 s.2.1 s.2.2.1 s.2.2.2) (b,t,(a:Int),false)=some r/\(r= .inr ([],false)\/∃l:List Cy,r= .inl l/\l.length<=(L t).length)
 |n,a,b,hn,ha,ho=>by
  rw[A0];simp only[DN];rw[B9];by_cases c:a<(L t).length
  ·rw[Ad (by omega:(a:Int)<((L t).length:Int))];simp only[Ae,Aa,AD];rw[Fl t c,ad1];simp only[Aa];obtain⟨n1,c1,v1,t1,h1,z1⟩:=oS t ht (a+1) (by omega);rw[v1];simp only[Aa]
   rcases h1 with e1|⟨e1,b1,k1,k2,k3⟩
   ·
    have hz:=z1 e1;obtain⟨c1t,c1a,c1b⟩:=c1;simp only at t1 e1 hz;subst t1 e1 hz;rw[H5 _ _ ht ⟨by omega,by omega⟩];exact⟨_,rfl,.inl rfl⟩
   obtain⟨c1t,c1a,c1b⟩:=c1;simp only at t1 e1 k1;subst t1 e1 k1;obtain⟨n2,c2,v2,t2,h2,z2⟩:=oS c1t ht b1 k3;rw[v2];simp only[Aa]
   rcases h2 with e2|⟨e2,b2,m1,m2,m3⟩
   ·rw[e2];exact⟨_,rfl,.inl rfl⟩
   rw[e2];simp only[Ac];rw[ND];simp only[Aa]
   cases GL _ with
   |false=>exact⟨_,rfl,.inl rfl⟩
   |true=>
    simp only[Ah,Ac];rw[BP (by simp;omega),t2,m1];simp only[Aa]
    match n,hn with
    |n+1,hn=>exact tN c1t ht n b2 _ (by omega) m3 (by simp;omega)
    |0,hn=>omega
  rw[Af<|by omega];exact⟨_,rfl,.inr ⟨_,rfl,by omega⟩⟩
noncomputable def e7 (t:ByteArray):Option (List Cy):=match Iw t with
 |some (l,true)=>some l
 |_=>none
theorem bK (t:ByteArray) (ht:(L t).length<=20000):∃l ok,Iw t=some (l,ok)/\e7 t=(if ok=true then some l else none)/\l.length<=20000:=by
 obtain⟨r,h1,h2⟩:=tN t ht (L t).length 0 [] (by omega) (by omega) (by simp);unfold e7 Iw;have h1':Ap (λs:List Cy×ByteArray×Int×Bool=>DN t s.1 s.2.1 s.2.2.1 s.2.2.2) ([],t,0,false)=some r:=h1;rw[h1']
 rcases h2 with rfl|⟨l,rfl,h3⟩
 ·exact⟨[],false,rfl,rfl,by simp⟩
 exact⟨l,true,rfl,rfl,by omega⟩
def pJ (t a b:Int) (y:Ar):Bool:=y.Page.Kind==2&&(y.Page.Tx==t&&(y.Page.Part==a&&(!decide (a>0)||y.Page.Count==b)))
def R5 (r:List Ar) (t a b:Int):Option Ar:=r.find?<|pJ t a b
theorem kG {x:α} (l:List α) (p:α->Bool) (h:∀j x,j<i->l[j]?=some x->p x=false) (hx:l[i]?=some x) (hp:p x=true):l.find? p=some x:=by
 obtain⟨h1,h2⟩:=JS hx;rw[h1,List.find?_append];have:(l.take i).find? p=none:=by
  rw[N9];intro y hy;obtain⟨j,hj,rfl⟩:=AC hy;rw[AW]at hj;rw[HX,h j _ (by omega)<|Ab _];simp
 rw[this,Option.none_or,List.find?_cons_of_pos hp]
theorem uM (l:List α) (p:α->Bool) (h:∀(j:Nat) x,l[j]?=some x->p x=false):l.find? p=none:=by
 rw[N9];intro y hy;obtain⟨j,hj,rfl⟩:=AC hy;rw[h j _<|Ab hj];simp
structure GG (r:List Ar):Prop where
 len:r.length<=1048576
 text:∀y∈r,(L y.Page.Text).length<=90
 seq:∀y∈r,1<=y.Page.Seq/\y.Page.Seq<=1000000000
 tx:∀y∈r,1<=y.Page.Tx/\y.Page.Tx<=1000000000
 cnt:∀y∈r,1<=y.Page.Count/\y.Page.Count<=9
 part:∀y∈r,0<=y.Page.Part/\y.Page.Part<y.Page.Count
def Oj (a seq:Int) (y:Ar):Int:=if a=0\/y.Page.Seq<seq then y.Page.Seq else seq
theorem AAf (r:List Ar) (hr:GG r) (t a c:Int) (hp:0<=a) (text:ByteArray) (ht:(L text).length<=10000) (seq:Int):
  ∃text2,Ap (λs:Int×ByteArray×Bool×Int×Int=>JO r t a s.1 s.2.1 s.2.2.1 s.2.2.2.1 s.2.2.2.2) (c,text,false,0,seq)=some (match R5 r t a c with
   |none=>(c,text,false,seq)
   |some y=>(y.Page.Count,text2,true,Oj a seq y))/\(∀y,R5 r t a c=some y->L text2=L text++L y.Page.Text):=by
 have k:=hr.len;obtain⟨b,h1,h2⟩:=AS (body:=λs:Int×ByteArray×Bool×Int×Int=>JO r t a s.1 s.2.1 s.2.2.1 s.2.2.2.1 s.2.2.2.2) (λ(s:Int×ByteArray×Bool×Int) i=>(s.1,s.2.1,s.2.2.1,i,s.2.2.2)) r.length
  (λi s=>(s=(c,text,false,seq)/\∀(j:Nat) x,j<i->r[j]?=some x->pJ t a c x=false)\/∃y u,R5 r t a c=some y/\L u=L text++L y.Page.Text/\s=(y.Page.Count,u,true,Oj a seq y))
  (λb=>(b=(c,text,false,seq)/\R5 r t a c=none)\/∃y u,R5 r t a c=some y/\L u=L text++L y.Page.Text/\b=(y.Page.Count,u,true,Oj a seq y))
  (λs i hi hs=>by
   have hx:=Ab hi;have hm:r[i]∈r:=A3 hi;simp only[JO,KH,Ad hi,Ae,Aa]
   rcases hs with⟨rfl,hs⟩|⟨y,u,f1,f2,rfl⟩
   ·simp only[AD,Ae,Aw,hx,Aa];have f:(cond (r[i].Page.Kind !=2) (some true) (cond (r[i].Page.Tx !=t) (some true)<|cond (r[i].Page.Part !=a) (some true)<|cond (decide<|a>0) (some<|r[i].Page.Count !=c)<|some false):Option Bool)=some (!pJ t a c r[i]):=by
     unfold pJ;simp only[bne];cases r[i].Page.Kind==2<;>cases r[i].Page.Tx==t<;>cases r[i].Page.Part==a<;>cases decide (a>0)<;>cases r[i].Page.Count==c<;>rfl
    rw[f,Aa,ad1]
    cases hM:pJ t a c r[i]with
    |false=>
     refine .inl ⟨_,rfl,.inl ⟨rfl,λj x hj d=>?_⟩⟩;by_cases e:j=i
     ·subst e;rw[hx]at d
      injection d with d
      rw[<-d];exact hM
     exact hs j x (by omega) d
    |true=>
     have l:=hr.text _ hm;simp only[Ah,Ac];rw[FU _ _<|by omega];simp only[Aa];have hf:R5 r t a c=some r[i]:=kG r _ (λj x hj d=>hs j x hj d) hx hM;have g:(cond (a==0) (some true) (some<|decide<|r[i].Page.Seq<seq):Option Bool)=some (decide<|a=0\/r[i].Page.Seq<seq):=by
      by_cases e:a=0
      ·rw[show(a==0)=true by simpa using e,Ad<|show a=0\/r[i].Page.Seq<seq from .inl e];rfl
      rw[show(a==0)=false by simpa using e];simp only[Ac];by_cases e2:r[i].Page.Seq<seq
      ·rw[Ad e2,Ad<|show a=0\/r[i].Page.Seq<seq from .inr e2]
      rw[Af e2,Af (by rintro(h|h);exact e h;exact e2 h)]
     rw[g];simp only[Aa];refine .inl ⟨(r[i].Page.Count,text++r[i].Page.Text,true,Oj a seq r[i]),?_,.inr ⟨r[i],_,hf,DZ _ _,rfl⟩⟩;unfold Oj;by_cases e:a=0\/r[i].Page.Seq<seq
     ·rw[Ad e,Ay e];rfl
     rw[Af e,Av e];rfl
   simp only[Ah,Ac]
   exact .inr ⟨_,rfl,.inr ⟨y,u,f1,f2,rfl⟩⟩)
  (λs hs=>by
   refine⟨s,by simp only[JO,KH,FE,LP,Ac,Aa],?_⟩
   rcases hs with⟨rfl,hs⟩|hs
   ·exact .inl ⟨rfl,uM r _ λj x hx=>hs j x (Ag.1 hx).1 hx⟩
   exact .inr hs) (s:=(c,text,false,seq)) (.inl ⟨rfl,λj x hj=>by omega⟩)
 have h1':Ap (λs:Int×ByteArray×Bool×Int×Int=>JO r t a s.1 s.2.1 s.2.2.1 s.2.2.2.1 s.2.2.2.2) (c,text,false,0,seq)=some b:=h1;rw[h1']
 rcases h2 with⟨rfl,h2⟩|⟨y,u,f1,f2,rfl⟩
 ·rw[h2];exact⟨text,rfl,λy hy=>by cases hy⟩
 rw[f1];refine⟨u,rfl,λz hz=>?_⟩
 injection hz with hz
 rw[<-hz];exact f2
def parts (r:List Ar) (t:Int):Nat->Int->Int->List UInt8->Int->Option (List UInt8×Int)
 |0,_,_,_,_=>none
 |n+1,a,c,b,seq=>if a=0\/a<c then(match R5 r t a c with
  |none=>none
  |some y=>parts r t n (a+1) y.Page.Count (b++L y.Page.Text) (Oj a seq y))else some (b,seq)
theorem uE {t a b:Int} (h:pJ t a b y=true) (hp:0<a):y.Page.Count=b:=by
 unfold pJ at h;simp only[Ak,Cq,CG,DI,Cd]at h
 rcases h.2.2.2 with h|h
 ·omega
 exact h
theorem S3 {t a b:Int} (h:R5 r t a b=some y):y∈r/\pJ t a b y=true:=⟨List.mem_of_find?_eq_some h,List.find?_some h⟩
theorem nG (r:List Ar) (hr:GG r) (t:Int):∀(n:Nat) (part cnt:Int) (text:ByteArray) (seq:Int),part+n=11->0<=part->(part=0\/(part<=cnt/\cnt<=9))->(L text).length<=90*part.toNat->
  ∃b,Ap (λs:Int×ByteArray×Int×Int=>Qg r t s.1 s.2.1 s.2.2.1 s.2.2.2) (cnt,text,part,seq)=some b/\(match parts r t n part cnt (L text) seq with
   |none=>∃q,b= .inr (Tx.mk t q [],false)
   |some (x,q)=>∃u,b= .inl (u,q)/\L u=x/\(L u).length<=1000)
 |0,part,cnt,text,seq,hn,h0,hc,ht=>by omega
 |n+1,part,cnt,text,seq,hn,h0,hc,ht=>by
  rw[A0];simp only[Qg,parts];have a:(cond (part==0) (some true) (some (decide (part<cnt))):Option Bool)=some (decide (part=0\/part<cnt)):=by
   by_cases e:part=0
   ·rw[show(part==0)=true by simpa using e,Ad<|show part=0\/part<cnt from .inl e];rfl
   rw[show(part==0)=false by simpa using e];simp only[Ac];by_cases e2:part<cnt
   ·rw[Ad e2,Ad<|show part=0\/part<cnt from .inr e2]
   rw[Af e2,Af (by rintro(h|h);exact e h;exact e2 h)]
  rw[a];simp only[Aa];by_cases e:part=0\/part<cnt
  ·rw[Ad e,Ay e];simp only[Ae];obtain⟨text2,h1,h2⟩:=AAf r hr t part cnt h0 text (by omega) seq;rw[h1]
   cases hf:R5 r t part cnt with
   |none=>
    simp only[Aa,AD,Ae];exact⟨_,rfl,_,rfl⟩
   |some y=>
    simp only[Aa,Ah,Ac];have hy:=S3 hf;have hL:=h2 y hf;have c:=hr.text y hy.1;have d:=hr.cnt y hy.1;rw[C6,<-hL];refine nG r hr t n (part+1) y.Page.Count text2 _ (by omega) (by omega) (.inr ?_) ?_
    ·rcases e with e|e
     ·have:=hr.part y hy.1;omega
     by_cases e2:part=0
     ·omega
     have:=uE hy.2 (by omega);omega
    rw[hL,Ai];omega
  rw[Af e,Av e];simp only[Ac];exact⟨_,rfl,text,rfl,rfl,by omega⟩
noncomputable def If (r:List Ar) (t:Int):Option Tx:=match parts r t 11 0 0 [] 0 with
 |none=>none
 |some (x,q)=>(e7 (bs x)).map λl=>Tx.mk t q l
theorem AEg (u:ByteArray):bs (L u)=u:=Lf<|by rw[EY]
theorem eN (r:List Ar) (hr:GG r) (t:Int):∃x ok,Yt r t=some (x,ok)/\If r t=(if ok=true then some x else none)/\x.Recs.length<=20000:=by
 obtain⟨b,h1,h2⟩:=nG r hr t 11 0 0 (bs []) 0 (by omega) (by omega) (.inl rfl) (by rw[EY];simp);rw[EY]at h2;unfold Yt If;rw[h1];simp only[Aa]
 cases hp:parts r t 11 0 0 [] 0 with
 |none=>
  rw[hp]at h2;obtain⟨z,rfl⟩:=h2;exact⟨_,_,rfl,rfl,by simp⟩
 |some w=>
  obtain⟨x,q⟩:=w;rw[hp]at h2;obtain⟨u,rfl,rfl,h4⟩:=h2;simp only[Bz];obtain⟨l,ok,r1,r2,r3⟩:=bK u (by omega);rw[r1,AEg,r2];simp only[Aa]
  cases ok with
  |true=>exact⟨_,_,rfl,rfl,r3⟩
  |false=>exact⟨_,_,rfl,rfl,r3⟩
theorem V3 {P:List α->Prop} (nil:P []) (app:∀l x,P l->P (l++ [x])) (l:List α):P l:=by
 rw[<-List.reverse_reverse l]
 induction l.reverse with
 |nil=>exact nil
 |cons x l ih=>grind
def D0 (r:List Ar):List Int:=r.foldl (λns y=>if y.Page.Kind=2 then ins ns y.Page.Tx else ns) []
theorem VB (r:List Ar) (y:Ar):D0 (r++ [y])=if y.Page.Kind=2 then ins (D0 r) y.Page.Tx else D0 r:=by unfold D0;grind
theorem Hc (r:List Ar) (h:∀y∈r,1<=y.Page.Tx):asc (D0 r)/\(∀x,x∈D0 r↔∃y∈r,y.Page.Kind=2/\y.Page.Tx=x)/\(D0 r).length<=r.length:=by
 have main:∀n,n<=r.length->asc (D0<|r.take n)/\(∀x,x∈D0 (r.take n)↔∃y∈r.take n,y.Page.Kind=2/\y.Page.Tx=x)/\(D0<|r.take n).length<=n:=by
  intro n
  induction n with
  |zero=>intro _;simp[D0,asc]
  |succ n ih=>
   intro hn;obtain⟨h1,h2,h3⟩:=ih (by omega);have et:r.take (n+1)=r.take n++ [r[n]'(by omega)]:=Ao (by omega);have hy:=h _ (A3<|show n<r.length by omega);generalize r[n]'(by omega)=y at et hy;rw[et,VB]
   have a:∀z∈D0 (r.take n),0<z:=λz hz=>by grind
   by_cases e:y.Page.Kind=2
   ·rw[Ay e];refine⟨uJ h1,λx=>?_,by have:=ZM (D0<|r.take n) y.Page.Tx h1;omega⟩;rw[uI a,h2 x]
    grind
   grind
 have:=main r.length<|Au _
 grind
theorem cK (r:List Ar) (hr:GG r):Ap (λs:List Int×Int=>Kj r s.1 s.2) ([],0)=some (D0 r):=by
 have d:=hr.len;obtain⟨b,h1,h2⟩:=AS (body:=λs:List Int×Int=>Kj r s.1 s.2) (λ(o:List Int) i=>(o,i)) r.length (λi o=>o=D0 (r.take i)) (λb=>b=D0 r)
  (λo i hi ho=>by
   have hx:=Ab hi;have hm:r[i]∈r:=A3 hi;have f:=(hr.tx _ hm).1;have c:=Hc (r.take i) λy hy=>(hr.tx y<|List.mem_of_mem_take hy).1;have g:o.length<=1048576:=by grind
   have et:r.take (i+1)=r.take i++ [r[i]]:=Ao hi;simp only[Kj,Ez hi,Aw,hx,Aa];rw[ad1];refine .inl ?_;by_cases e:r[i].Page.Kind=2
   ·rw[show(r[i].Page.Kind !=2)=false by simp[e]];simp only[Ac]
    rw[PP (body:=λs:List Int×Int=>M7 o r[i] s.1 s.2) o (λy=>decide<|y<r[i].Page.Tx) [] (by simp;omega)
     (λu k x hk hu=>by
      have a:=(Ag.1 hk).1
      simp only[M7,Ez a,Aw,hk,Aa])
     (λu=>by simp only[M7,Ec])]
    simp only[Aa,A6];have h:=CL (λy=>decide<|y<r[i].Page.Tx) o
    rw[BP (by grind),Aa,PP (body:=λs:List Int×Int=>M6 o r[i] s.1 s.2) o (λy=>decide<|y>r[i].Page.Tx) _ (by grind)
     (λu k x hk hu=>by
      have a:=(Ag.1 hk).1
      simp only[M6,Ez a,Aw,hk,Aa])
     (λu=>by simp only[M6,Ec])]
    simp only[Aa];refine⟨_,rfl,?_⟩;rw[et,VB,Ay e,<-ho];unfold ins
    grind
   rw[show(r[i].Page.Kind !=2)=true by simpa using e]
   exact⟨o,rfl,by rw[et,VB,Av e,ho]⟩)
  (λo ho=>⟨o,by simp only[Kj,Ec],by grind⟩) (s:=[]) rfl
 grind
noncomputable def Bs (r:List Ar):List Tx:=(D0 r).filterMap (If r)
theorem SE {x:Tx} (hr:GG r) (h:If r t=some x):x.Num=t/\x.Recs.length<=20000:=by
 obtain⟨z,ok,h1,h2,h3⟩:=eN r hr t;rw[h]at h2
 cases ok with
 |false=>cases h2
 |true=>
  rw[Ay rfl]at h2
  injection h2 with h2
  subst h2;refine⟨?_,h3⟩;unfold If at h;split at h
  ·cases h
  obtain⟨l,_,rfl⟩:=AM.1 h;rfl
theorem OI (r:List Ar) (hr:GG r):RO r=some (Bs r):=by
 have c:=hr.len;have a:=Hc r λy hy=>(hr.tx y hy).1;have d:=a.2.2;unfold RO;rw[cK r hr];simp only[Aa];obtain⟨b,h1,h2⟩:=AS (body:=λs:List Tx×Int=>M5 r (D0 r) s.1 s.2) (λ(o:List Tx) i=>(o,i)) (D0 r).length (λi o=>o=((D0 r).take i).filterMap (If r)) (λb=>b=Bs r)
  (λo i hi ho=>by
   have hx:=Ab hi;have et:(D0 r).take (i+1)=(D0 r).take i++ [(D0 r)[i]]:=Ao hi;have e:o.length<=i:=by grind
   simp only[M5,Ez hi,Aw,hx,Aa];rw[ad1];obtain⟨z,ok,k1,k2,k3⟩:=eN r hr (D0 r)[i];rw[k1];simp only[Aa];refine .inl ?_
   cases ok with
   |true=>
    simp only[Ae];rw[BP<|by grind]
    grind
   |false=>grind)
  (λo ho=>⟨o,by simp only[M5,Ec],by rw[ho,Bc];rfl⟩) (s:=[]) rfl
 rw[h1,h2];rfl
def cW (x:Tx):Bool:=match x.Recs with
 |[]=>false
 |r::_=>r.Kind==1
def rX (l:List Tx):Nat:=l.zipIdx.foldl (λa z=>if cW z.1=true then z.2 else a) 0
def Dc (l:List Tx):List Tx:=l.drop<|rX l
theorem Re (l:List Tx) (x:Tx):rX (l++ [x])=if cW x=true then l.length else rX l:=by
 unfold rX
 grind
theorem rW (l:List Tx):rX l<=l.length:=by
 induction l using V3 with
 |nil=>simp[rX]
 |app l x ih=>
  rw[Re,Ai]
  grind
theorem SI (l:List Tx) (x:Tx):Dc (l++ [x])=if cW x=true then [x]else Dc l++ [x]:=by
 unfold Dc;rw[Re];by_cases e:cW x=true
 ·grind
 rw[Av e,Av e,List.drop_append_of_le_length<|rW l]
theorem lM (l:List Tx):∃A,l=A++Dc l/\(A≠ []->∃x B,Dc l=x::B/\cW x=true)/\∀x B,Dc l=x::B->∀y∈B,cW y=false:=by
 induction l using V3 with
 |nil=>exact⟨[],rfl,λh=>absurd rfl h,λx B h=>by cases h⟩
 |app l x ih=>
  obtain⟨A,h1,h2,h3⟩:=ih;rw[SI];by_cases e:cW x=true
  ·rw[Ay e];exact⟨l,rfl,λ_=>⟨x,[],rfl,e⟩,λy B h=>by grind⟩
  rw[Av e];refine⟨A,by grind,λhA=>?_,λy B h=>?_⟩
  ·grind
  cases hs:Dc l with
  |nil=>grind
  |cons w B'=>grind
theorem yK (A:List Tx):∀(B:List Tx),(A≠ []->∃x B',B=x::B'/\cW x=true)->(∀x B',B=x::B'->∀y∈B',cW y=false)->Dc (A++B)=B:=by
 intro B
 induction B using V3 with
 |nil=>
  intro h1 _
  cases A with
  |nil=>rfl
  |cons a A=>grind
 |app B y ih=>
  intro h1 h2;rw[<-Ax,SI]
  cases B with
  |nil=>
   by_cases e:cW y=true
   ·rw[Ay e];rfl
   rw[Av e]
   cases A with
   |nil=>rfl
   |cons a A=>grind
  |cons b B=>
   have hy:cW y=false:=h2 b (B++ [y]) rfl y (by simp);rw[Av (by rw[hy];simp),ih]
   ·grind
   intro x B' h z hz
   injection h with h4 h5
   subst h4 h5;exact h2 b (B++ [y]) rfl z<|by simp[hz]
theorem RN (l:List Tx) (hl:l.length<=1048576) (hr:∀x∈l,x.Recs.length<=20000):OG l=some (Dc l):=by
 unfold OG;obtain⟨b,h1,h2⟩:=AS (body:=λs:Int×Int=>It l s.1 s.2) (λ(o:Int) i=>(o,i)) l.length (λi o=>o=(rX (l.take i):Int)) (λb=>b=(rX l:Int))
  (λo i hi ho=>by
   have hx:=Ab hi;have et:l.take (i+1)=l.take i++ [l[i]]:=Ao hi;simp only[It,Ez hi,Aw,hx,Aa];rw[ad1];refine .inl ?_;have d:(l.take i).length=i:=by grind
   cases a:l[i].Recs with
   |nil=>
    refine⟨o,rfl,?_⟩;rw[et,Re,Av (by unfold cW;rw[a];simp),ho]
   |cons q m=>
    have hg:gi (q::m) 0=some q:=Aw (i:=0);rw[Ad (by rw[B4,A7];omega:ln (q::m)>0)];simp only[Ae,hg,Aa]
    cases hk:(q.Kind==1)with
    |true=>
     refine⟨(i:Int),rfl,?_⟩;rw[et,Re,Ay (by unfold cW;rw[a];exact hk),d]
    |false=>
     refine⟨o,rfl,?_⟩
     rw[et,Re,Av (by unfold cW;grind),ho])
  (λo ho=>⟨o,by simp only[It,Ec],by grind⟩) (s:=0) rfl
 rw[h1,h2];simp only[Aa];have e:=rW l;obtain⟨c,q1,q2⟩:=VG (body:=λs:List Tx×Int=>Ir l s.1 s.2) (λ(o:List Tx) i=>(o,i)) l.length (λi o=>o=(l.take i).drop (rX l)/\rX l<=i) (λb=>b=Dc l)
  (λo i hi hs=>by
   obtain⟨ho,f⟩:=hs;have hx:=Ab hi;have hm:l[i]∈l:=A3 hi;have g:=hr _ hm;have et:l.take (i+1)=l.take i++ [l[i]]:=Ao hi;have h:o.length<=1048576:=by grind
   simp only[Ir,Ez hi,Aw,hx,Aa];rw[LV (by omega),Aa,BP (by grind),Aa,ad1];refine .inl ⟨_,rfl,?_,by omega⟩
   rw[et,List.drop_append_of_le_length (by grind),<-ho])
  (λo hs=>⟨o,by simp only[Ir,Ec],by rw[hs.1,Bc];rfl⟩) (l.length-rX l) (rX l) [] (by omega) ⟨by grind,Au _⟩
 rw[q1,q2];rfl
def CM (l:Vs) (nx:Int) (a:List Cy):Option (Vs×Int):=a.foldl (λo r=>o.bind λp=>DA p.1 p.2 r)<|some (l,nx)
theorem S5 (a:List Cy):a.foldl (λ(o:Option (Vs×Int)) r=>o.bind λp=>DA p.1 p.2 r) none=none:=by
 induction a with
 |nil=>rfl
 |cons r l ih=>grind
theorem FC (l:Vs) (nx:Int) (r:Cy) (a:List Cy):CM l nx (r::a)=(DA l nx r).bind λp=>CM p.1 p.2 a:=by
 unfold CM;rw[R0];simp only[Aa]
 cases DA l nx r with
 |none=>exact S5 a
 |some p=>rfl
theorem Mp (l:Vs) (nx:Int) (a b:List Cy):CM l nx (a++b)=(CM l nx a).bind λp=>CM p.1 p.2 b:=by
 unfold CM;rw[List.foldl_append]
 cases a.foldl (λ(o:Option (Vs×Int)) r=>o.bind λp=>DA p.1 p.2 r) (some (l,nx))with
 |none=>exact S5 b
 |some p=>rfl
def LH (s:Store) (a:List Cy) (o:Option (Store×Bool)):Prop:=match CM (By s) s.Next a with
 |none=>o=some (s,false)
 |some (l,nx)=>∃t,o=some (t,true)/\CB t/\By t=l/\t.Next=nx
theorem Pb {s:Store} (h:CB s) (a:List Cy) (hr:a.length<=1048576):LH s a (JQ s a):=by
 have hl:=h.len;have e:=La h.ar (by have:=h.few;omega);have c:=Gq s e (by omega);unfold JQ;rw[c];simp only[Aa];obtain⟨b,h1,h2⟩:=AS (body:=λq:Int×List Vol×List B6×Int=>Ef s a q.1 q.2.1 q.2.2.1 q.2.2.2) (λ(t:Store) i=>(i,t.Vols,t.Arena.Knots,t.Next)) a.length
  (λi t=>CB t/\CM (By s) s.Next (a.take i)=some (By t,t.Next))
  (λb=>(b= .inr (s,false)/\CM (By s) s.Next a=none)\/∃t,b= .inl (t.Vols,t.Arena.Knots,t.Next)/\CB t/\CM (By s) s.Next a=some (By t,t.Next))
  (λt i hi hs=>by
   obtain⟨hP,he⟩:=hs;have hx:=Ab hi;obtain⟨e1,e2⟩:=JS hx;have et:a.take (i+1)=a.take i++ [a[i]]:=Ao hi;simp only[Ef,Ez hi,Aw,hx,Aa];have d:=aO hP a[i];unfold Mi at d;have f:Store.mk t.Vols (Arena.mk t.Arena.Knots) t.Next=t:=rfl;rw[f]
   cases hv:DA (By t) t.Next a[i]with
   |none=>
    rw[hv]at d;rw[d];simp only[Aa,AD,Ae];rw[c];refine .inr ⟨_,rfl,.inl ⟨rfl,?_⟩⟩;rw[e1,Mp,he,Aa,FC,hv];rfl
   |some p=>
    obtain⟨l,nx⟩:=p;rw[hv]at d;obtain⟨u,u1,u2,u3,u4⟩:=d;rw[u1];simp only[Aa,Ah,Ac];rw[ad1];refine .inl ⟨u,rfl,u2,?_⟩;rw[et,Mp,he,Aa,FC,hv,Aa,u3,u4]
    rfl)
  (λt hs=>⟨_,by simp only[Ef,Ec],.inr ⟨t,rfl,hs.1,by grind⟩⟩) (s:=s) ⟨h,rfl⟩
 rw[h1];unfold LH
 rcases h2 with⟨rfl,h2⟩|⟨t,rfl,h2,h3⟩
 ·rw[h2];rfl
 rw[h3];exact⟨t,rfl,h2,rfl,rfl⟩
def Db (r:List Ar):Int:=r.foldl (λm y=>if y.Page.Seq>=m then y.Page.Seq+1 else m) 1
def DC (r:List Ar):Int:=r.foldl (λm y=>if y.Page.Kind=2/\y.Page.Tx>=m then y.Page.Tx+1 else m) 1
def LU (l:List Tx):Int:=match l with
 |[]=>0
 |x::_=>x.Num
def LE (l:List Tx):Vs×Int:=l.foldl (λp x=>(CM p.1 p.2 x.Recs).getD p) ([],1)
theorem Ys (r:List Ar) (y:Ar):Db (r++ [y])=if y.Page.Seq>=Db r then y.Page.Seq+1 else Db r:=by unfold Db;grind
theorem UZ (r:List Ar) (y:Ar):DC (r++ [y])=if y.Page.Kind=2/\y.Page.Tx>=DC r then y.Page.Tx+1 else DC r:=by unfold DC;grind
theorem NT (r:List Ar):(∀y∈r,y.Page.Seq<Db r)/\1<=Db r/\(∀b,1<=b->(∀y∈r,y.Page.Seq<b)->Db r<=b):=by
 induction r using V3 with
 |nil=>exact⟨λy hy=>(by cases hy),by simp[Db],λb hb _=>by simpa[Db]using hb⟩
 |app r x ih=>
  obtain⟨h1,h2,h3⟩:=ih;rw[Ys]
  grind
theorem YR (r:List Ar):(∀y∈r,y.Page.Kind=2->y.Page.Tx<DC r)/\1<=DC r/\(∀b,1<=b->(∀y∈r,y.Page.Kind=2->y.Page.Tx<b)->DC r<=b):=by
 induction r using V3 with
 |nil=>exact⟨λy hy=>(by cases hy),by simp[DC],λb hb _=>by simpa[DC]using hb⟩
 |app r x ih=>
  obtain⟨h1,h2,h3⟩:=ih;rw[UZ]
  grind
theorem W7 (h:dO f r) (hf:BE f):GG r:=by
 have a:∀y∈r,(1<=y.Page.Seq/\y.Page.Seq<=1000000000)/\(1<=y.Page.Tx/\y.Page.Tx<=1000000000)/\(1<=y.Page.Count/\y.Page.Count<=9)/\(0<=y.Page.Part/\y.Page.Part<y.Page.Count):=by
  intro y hy;obtain⟨b,x,g1,g2,_,g3⟩:=h.page y hy;obtain⟨_,k1⟩:=CQ g1;obtain⟨_,k2⟩:=CQ g2;have hx:=hf.text b (Aq k1) x<|Aq k2;obtain⟨p,ok,m1,_,_,m2⟩:=IM x.Text (by omega);rw[g3]at m1
  injection m1 with m1
  injection m1 with m1 m3
  have hp:=m2 m3.symm;obtain⟨v,q1,_,q2⟩:=Tz p;rw[hp]at q1
  injection q1 with q1
  obtain⟨_,a1,a2,a3,a4,_⟩:=q2 q1.symm;rw[m1];exact⟨a1,a2,a3,a4⟩
 exact⟨h.len,h.text,λy hy=>(a y hy).1,λy hy=>(a y hy).2.1,λy hy=>(a y hy).2.2.1,λy hy=>(a y hy).2.2.2⟩
theorem Vx (r:List Ar) (hr:GG r):Ap (λs:Int×Int×Int=>HK r s.1 s.2.1 s.2.2) (0,1,1)=some (Db r,DC r):=by
 have c:=hr.len;obtain⟨b,h1,h2⟩:=AS (body:=λs:Int×Int×Int=>HK r s.1 s.2.1 s.2.2) (λ(o:Int×Int) i=>(i,o.1,o.2)) r.length (λi o=>o=(Db<|r.take i,DC<|r.take i)) (λb=>b=(Db r,DC r))
  (λo i hi ho=>by
   subst ho;have hx:=Ab hi;have hm:r[i]∈r:=A3 hi;have hs:=hr.seq _ hm;have ht:=hr.tx _ hm;have et:r.take (i+1)=r.take i++ [r[i]]:=Ao hi;simp only[HK,Ez hi,Aw,hx,Aa];rw[et,Ys,UZ,ad1];have a:(cond (decide<|r[i].Page.Seq>=Db (r.take i)) (some<|ad r[i].Page.Seq 1) (some<|Db<|r.take i):Option Int)=some (if r[i].Page.Seq>=Db (r.take i)then r[i].Page.Seq+1 else Db<|r.take i):=by
    by_cases e:r[i].Page.Seq>=Db (r.take i)
    ·rw[Ad e,Ay e,C6];rfl
    rw[Af e,Av e];rfl
   rw[a];simp only[Aa];refine .inl ?_;by_cases e:r[i].Page.Kind=2
   ·rw[show(r[i].Page.Kind==2)=true by simpa using e];simp only[Ae,Aa];by_cases e2:r[i].Page.Tx>=DC (r.take i)
    ·rw[Ad e2,Ay<|show r[i].Page.Kind=2/\r[i].Page.Tx>=DC (r.take i)from⟨e,e2⟩,C6];exact⟨(_,_),rfl,rfl⟩
    rw[Af e2,Av<|show¬(r[i].Page.Kind=2/\r[i].Page.Tx>=DC (r.take i))from λhh=>e2 hh.2];exact⟨(_,_),rfl,rfl⟩
   rw[show(r[i].Page.Kind==2)=false by simpa using e,Av<|show¬(r[i].Page.Kind=2/\r[i].Page.Tx>=DC (r.take i))from λhh=>e hh.1]
   exact⟨(_,_),rfl,rfl⟩)
  (λo ho=>⟨o,by simp only[HK,Ec],by rw[ho,Bc]⟩) (s:=(1,1)) rfl
 rw[h2]at h1;exact h1
theorem eD:CB (Store.mk [] (Arena.mk []) 1):=by
 refine⟨⟨by simp,rfl,by simp,by simp,by simp,by simp[B3],by simp[B3],by simp⟩,by simp⟩
theorem ZF (l:List Tx) (x:Tx):LE (l++ [x])=(CM (LE l).1 (LE l).2 x.Recs).getD (LE l):=by unfold LE;rw[List.foldl_append];rfl
theorem Zp (l:List Tx) (hl:l.length<=1048576) (hr:∀x∈l,x.Recs.length<=20000):∃t,Ap (λs:Int×List Vol×List B6×Int×Int=>Dz l s.1 s.2.1 s.2.2.1 s.2.2.2.1 s.2.2.2.2) (0,[],[],1,0)=some (t.Vols,t.Arena.Knots,t.Next,LU l)/\CB t/\(By t,t.Next)=LE l:=by
 obtain⟨b,h1,t,h2,h3,h4⟩:=AS (body:=λs:Int×List Vol×List B6×Int×Int=>Dz l s.1 s.2.1 s.2.2.1 s.2.2.2.1 s.2.2.2.2) (λ(o:Store×Int) i=>(i,o.1.Vols,o.1.Arena.Knots,o.1.Next,o.2)) l.length
  (λi o=>CB o.1/\(By o.1,o.1.Next)=LE (l.take i)/\o.2=LU (l.take i)) (λb=>∃t,b=(t.Vols,t.Arena.Knots,t.Next,LU l)/\CB t/\(By t,t.Next)=LE l)
  (λo i hi hs=>by
   obtain⟨t,bs0⟩:=o;obtain⟨hP,hv,hb⟩:=hs;simp only at hP hv hb;have hx:=Ab hi;have hm:l[i]∈l:=A3 hi;have j:=hr _ hm;have et:l.take (i+1)=l.take i++ [l[i]]:=Ao hi;simp only[Dz,Ez hi,Aw,hx,Aa];have g:(cond ((i:Int)==0) (some l[i].Num) (some bs0):Option Int)=some (LU<|l.take<|i+1):=by
    by_cases e:i=0
    ·subst e;rw[et];simp[LU]
    rw[show((i:Int)==0)=false by simp;omega,hb,et];simp only[Ac]
    cases h5:l.take i with
    |nil=>
     have:=BG List.length h5;rw[AW,BV]at this;omega
    |cons a m=>rfl
   rw[g];simp only[Aa];have d:=Pb hP l[i].Recs (by omega);unfold LH at d;have h:Store.mk t.Vols (Arena.mk t.Arena.Knots) t.Next=t:=rfl;have e1:By t=(LE<|l.take i).1:=BG Prod.fst hv;have e2:t.Next=(LE<|l.take i).2:=BG Prod.snd hv;rw[h,ad1];refine .inl ?_;have f:=ZF (l.take i) l[i];rw[<-et]at f
   cases c:CM (By t) t.Next l[i].Recs with
   |none=>
    rw[c]at d;rw[d];refine⟨(t,LU<|l.take<|i+1),rfl,hP,?_,rfl⟩;rw[f,<-e1,<-e2,c,Option.getD_none];exact hv
   |some p=>
    obtain⟨lv,nx⟩:=p;rw[c]at d;obtain⟨u,u1,u2,u3,u4⟩:=d;rw[u1];refine⟨(u,LU<|l.take<|i+1),rfl,u2,?_,rfl⟩;rw[f,<-e1,<-e2,c,Bl];show(By u,u.Next)=(lv,nx)
    rw[u3,u4])
  (λo hs=>⟨(o.1.Vols,o.1.Arena.Knots,o.1.Next,o.2),by simp only[Dz,Ec],o.1,by rw[hs.2.2,Bc],hs.1,by rw[hs.2.1,Bc]⟩) (s:=(Store.mk [] (Arena.mk []) 1,0)) ⟨eD,rfl,rfl⟩
 exact⟨t,by rw[<-h2];exact h1,h3,h4⟩
structure HY (d:A9) (r:List Ar):Prop where
 fl:BE d.Flash
 scan:dO d.Flash r
 sr:SR (Jq 0 d.Flash.Blocks) r
 st:CB d.Store
 ab:(By d.Store,d.Store.Next)=LE (Dc (Bs r))
 seq:d.Seq=Db r
 tx:d.Tx=DC r
 base:d.Base=LU (Dc (Bs r))
theorem HY.pages (h:HY d r):GG r:=W7 h.scan h.fl
theorem QR (hr:GG r):(Bs r).length<=1048576/\∀x∈Bs r,x.Recs.length<=20000:=by
 have b:=hr.len;have a:=Hc r λy hy=>(hr.tx y hy).1;have:=List.length_filterMap_le (If r)<|D0 r;refine⟨by unfold Bs;omega,λx hx=>?_⟩;obtain⟨t,_,ht⟩:=List.mem_filterMap.1 hx;exact(SE hr ht).2
theorem SH (l:List Tx):(Dc l).length<=l.length/\∀x∈Dc l,x∈l:=⟨by unfold Dc;rw[Cb];omega,λx hx=>List.mem_of_mem_drop hx⟩
theorem Vy (hf:BE f):∃d r,CK f=some (d,true)/\HY d r/\d.Flash=f:=by
 obtain⟨r,hs,a⟩:=AAS hf;have hr:=W7 hs hf;obtain⟨g1,g2⟩:=QR hr;obtain⟨b1,b2⟩:=SH<|Bs r;obtain⟨t,t1,t2,t3⟩:=Zp (Dc<|Bs r) (by omega) λx hx=>g2 x<|b2 x hx;refine⟨A9.mk f t (Db r) (DC r)<|LU<|Dc<|Bs r,r,?_,⟨hf,hs,a,t2,t3,rfl,rfl,rfl⟩,rfl⟩;unfold CK;rw[PV hf,hs.s,Da f hf.cap];unfold NZ;simp only[Aa,Ah,Ac];rw[Vx r hr,OI r hr];simp only[Aa];rw[RN _ g1 g2];simp only[Aa];rw[t1];rfl
theorem lS (a b:List Int) (ha:a.length<=1048576):Me a b=some (decide (a=b)):=by
 unfold Me;by_cases hl:a.length=b.length
 ·rw[show(ln a !=ln b)=false by simp[ln,hl]];simp only[Ac]
  rw[uN (body:=λs:Int=>GV a b s) a b (λx y=>x==y) hl (by omega)
   (λi x y hx hy=>by
    have hi:=(Ag.1 hx).1;simp only[GV,Ez hi,Aw,hx,hy,Aa];rw[ad1]
    cases c:x==y<;>simp[bne,c])
   (by simp only[GV,Ec])]
  have:=sT (p:=λx y:Int=>x==y) (a:=a) (b:=b) (λx _ y _=>by simp) hl
  cases hz:(a.zip b).all (λz=>z.1==z.2)with
  |true=>rw[Ad<|this.1 hz];rfl
  |false=>rw[Af (λhh=>by rw[this.2 hh]at hz;cases hz)];rfl
 rw[show(ln a !=ln b)=true by simp[ln];omega,Af λhh=>hl<|by rw[hh]];rfl
theorem XN {a b:Store} (ha:CB a) (hb:CB b):Mz a b=some (decide (By a=By b/\a.Next=b.Next)):=by
 have e:=ha.len;have f:=hb.len;have g:=ha.few;have h:=hb.few;unfold Mz;by_cases hl:a.Vols.length=b.Vols.length
 ·rw[show(ln a.Vols !=ln b.Vols)=false by simp[ln,hl]];simp only[Ac,Aa];by_cases hn:a.Next=b.Next
  ·rw[show(a.Next !=b.Next)=false by simp[hn]];simp only[Ac]
   rw[uN (body:=λs:Int=>Iv a b s) a.Vols b.Vols (λv w=>v.Id==w.Id&&decide (Fe a.Arena.Knots v.Root=Fe b.Arena.Knots w.Root)) hl (by omega)
    (λi x y hx hy=>by
     have hi:=(Ag.1 hx).1;simp only[Iv,Ez hi,Aw,hx,hy,Aa];rw[Oc _ (by omega) ha.ar<|ha.root _<|AG.2 ⟨x,Aq hx,rfl⟩,Oc _ (by omega) hb.ar<|hb.root _<|AG.2 ⟨y,Aq hy,rfl⟩];simp only[Aa];rw[lS _ _ (by unfold Fe;simp)];simp only[Aa];rw[ad1]
     cases c:x.Id==y.Id with
     |false=>simp[bne,c]
     |true=>
      simp only[bne,c,Ah,Ac,Dn]
      cases decide (Fe a.Arena.Knots x.Root=Fe b.Arena.Knots y.Root)<;>rfl)
    (by simp only[Iv,Ec])]
   have d:(a.Vols.zip b.Vols).all (λz=>z.1.Id==z.2.Id&&decide (Fe a.Arena.Knots z.1.Root=Fe b.Arena.Knots z.2.Root))=decide (By a=By b):=by
    unfold By;generalize a.Vols=l at hl;generalize b.Vols=m at hl
    induction l generalizing m with
    |nil=>cases m with
     |nil=>simp
     |cons y m=>simp at hl
    |cons x l ih=>
     cases m with
     |nil=>simp at hl
     |cons y m=>
      rw[List.zip_cons_cons,FI,ih m (by simpa using hl),DU];simp only[Ak,Cd,A5,BJ,R1,Bo]
   rw[d]
   cases hd:decide (By a=By b)with
   |true=>rw[Ad ⟨Kv hd,hn⟩];rfl
   |false=>rw[Af λhh=>of_decide_eq_false hd hh.1];rfl
  rw[show(a.Next !=b.Next)=true by simpa using hn,Af λhh=>hn hh.2];rfl
 rw[show(ln a.Vols !=ln b.Vols)=true by simp[ln];omega,Af (λhh=>hl (by have:=BG List.length hh.1;rwa [IK,IK]at this))];rfl
theorem Mt (h:HY d r):P5 d=some d:=by
 have:=h.st.len;unfold P5;rw[Da _ h.fl.cap,Gq _ (La h.st.ar (by have:=h.st.few;omega))<|by omega];rfl
theorem HY.uniq {d':A9} (h:HY d r) (h':HY d' r') (e:d.Flash=d'.Flash):r=r':=by
 have h1:=h.sr;have h2:=h'.sr;rw[<-e]at h2;exact h1.uniq h2
theorem Nt (h:HY d r):Ob d=some true:=by
 obtain⟨m,r',h1,h2,h3⟩:=Vy h.fl;obtain rfl:=h.uniq h2 h3.symm;unfold Ob;rw[h1];simp only[Aa,Ae];have e:=h2.ab.trans h.ab.symm
 injection e with e1 e2
 rw[XN h2.st h.st,Ad ⟨e1,e2⟩];simp only[Aa,Ae];rw[h2.seq,h.seq,h2.tx,h.tx,h2.base,h.base];simp only[BEq.rfl,Ae];rw[RM h.st];rfl
theorem aJ {f g:α->Option β} (h:∀x∈l,f x=g x):l.filterMap f=l.filterMap g:=by
 induction l with
 |nil=>rfl
 |cons a l ih=>grind
theorem rH {p q:α->Bool} (h:∀x∈l,p x=q x):l.find? p=l.find? q:=by
 induction l with
 |nil=>rfl
 |cons a l ih=>grind
theorem X5 (h:∀a b,R5 r' t a b=R5 r t a b):∀(n:Nat) (a b:Int) (x:List UInt8) (q:Int),parts r' t n a b x q=parts r t n a b x q
 |0,_,_,_,_=>rfl
 |n+1,a,b,x,q=>by
  simp only[parts,h];split
  ·split
   ·rfl
   exact X5 h n _ _ _ _
  rfl
theorem TY (h:∀a b,R5 r' t a b=R5 r t a b):If r' t=If r t:=by
 unfold If;rw[X5 h]
theorem WI {t a b:Int} (h:pJ t a b y=true):y.Page.Kind=2/\y.Page.Tx=t/\y.Page.Part=a:=by
 unfold pJ at h
 grind
theorem kE (r m:List Ar) (t a b:Int):R5 (r++m) t a b=(R5 r t a b).or (R5 m t a b):=by unfold R5;grind
theorem VS {t a b:Int} (h:∀y∈r,y.Page.Kind=2->y.Page.Tx≠t):R5 r t a b=none:=by
 unfold R5;rw[N9];intro y hy hm;obtain⟨h1,h2,_⟩:=WI hm;exact h y hy h1 h2
theorem uW (h:∀y∈r,y.Page.Kind=2->y.Page.Tx≠t):If r t=none:=by
 unfold If;have:parts r t 11 0 0 [] 0=none:=by
  simp only[parts];rw[Ay<|.inl trivial,VS h]
 rw[this]
theorem vP (r:List Ar) (hy:y.Page.Kind≠2):D0 (r++ [y])=D0 r:=by rw[VB,Av hy]
theorem XC (r:List Ar) (hy:y.Page.Kind≠2):Bs (r++ [y])=Bs r:=by
 unfold Bs;rw[vP r hy];congr 1;funext t
 refine TY λa b=>?_
 rw[kE,VS (r:=[y]) (λz hz hk=>by grind),Option.or_none]
structure gK (m:List Ar) (t:Int) (n:Nat) (texts:List ByteArray):Prop where
 len:m.length<=n
 pos:1<=n/\n<=9
 tl:texts.length=n
 at_:∀(i:Nat) y,m[i]?=some y->y.Page.Kind=2/\y.Page.Tx=t/\y.Page.Part=i/\y.Page.Count=n/\texts[i]?=some y.Page.Text
theorem gK.all (h:gK m t n texts) (hy:y∈m):y.Page.Kind=2/\y.Page.Tx=t:=by
 obtain⟨i,hi,rfl⟩:=AC hy;obtain⟨h1,h2,_⟩:=h.at_ i _<|Ab hi;exact⟨h1,h2⟩
theorem zT (r:List Ar) (hr:∀y∈r,1<=y.Page.Tx) (ht:∀y∈r,y.Page.Kind=2->y.Page.Tx<t) (h0:1<=t):∀(m:List Ar),m≠ []->(∀y∈m,y.Page.Kind=2/\y.Page.Tx=t)->D0 (r++m)=D0 r++ [t]:=by
 intro m hm a;have h1:=Hc (r++m) (λy hy=>by grind);have h2:=Hc r hr
 refine Wc h1.1 ?_ λx=>?_
 ·unfold asc;rw[AR];refine⟨h2.1,Ji _ _,λx hx z hz=>?_⟩
  grind
 rw[h1.2.1,Al,AE,h2.2.1];constructor
 ·grind
 rintro(⟨y,hy,hk,rfl⟩|rfl)
 ·grind
 cases m with
 |nil=>exact absurd rfl hm
 |cons y m=>exact⟨y,by simp,(a y<|by simp).1,(a y<|by simp).2⟩
theorem AB6 (h:gK m t n texts) {a:Nat} {b:Int} (hc:a=0\/b=n):R5 m t a b=m[a]? :=by
 cases hy:m[a]? with
 |none=>
  unfold R5;rw[N9];intro y c hm;obtain⟨i,hi,rfl⟩:=AC c;obtain⟨_,_,h3,_⟩:=h.at_ i _<|Ab hi;have:=(WI hm).2.2
  grind
 |some y=>
  obtain⟨h1,h2,h3,h4,_⟩:=h.at_ a y hy;refine kG m _ (λj x hj hx=>?_) hy ?_
  ·obtain⟨_,_,k3,_⟩:=h.at_ j x hx;rw[Bool.eq_false_iff];intro hm;have:=(WI hm).2.2;omega
  unfold pJ
  grind
def Pr (l:List ByteArray):List UInt8:=l.flatMap L
theorem fC (hr:∀y∈r,y.Page.Kind=2->y.Page.Tx≠t) (h:gK m t n texts):∀(k a:Nat) (c:Int) (x:List UInt8) (q:Int) (b:Nat),a+k=n->(a=0\/c=n)->k<b->
  (m.length=n->∃q',parts (r++m) t b a c x q=some (x++Pr (texts.drop a),q'))/\(m.length<n->a<=m.length->parts (r++m) t b a c x q=none)
 |k,a,c,x,q,0,hk,hc,hf=>by omega
 |0,a,c,x,q,b+1,hk,hc,hf=>by
  have hp:=h.pos;simp only[parts];rw[Av<|by omega];refine⟨λ_=>⟨q,?_⟩,λh1 h2=>by omega⟩;rw[DY (by have:=h.tl;omega)];simp[Pr]
 |k+1,a,c,x,q,b+1,hk,hc,hf=>by
  have hp:=h.pos;simp only[parts];rw[Ay (by omega),kE,VS hr,Option.none_or,AB6 h hc]
  cases hy:m[a]? with
  |none=>grind
  |some y=>
   obtain⟨h1,h2,h3,h4,h5⟩:=h.at_ a y hy;have d:=(Ag.1 hy).1;simp only[];obtain⟨k1,k2⟩:=fC hr h k (a+1) y.Page.Count (x++L y.Page.Text) (Oj a q y) b (by omega) (.inr h4) (by omega);rw[show((a+1:Nat):Int)=(a:Int)+1 from rfl]at k1 k2;refine⟨λh6=>?_,λh6 h7=>k2 h6<|by omega⟩;obtain⟨q',k3⟩:=k1 h6;refine⟨q',?_⟩
   rw[k3,show texts.drop a=y.Page.Text::texts.drop (a+1) by
    have h8:=(Ag.1 h5)
    rw[AT h8.1,h8.2]]
   simp only[Pr,Kx,Ax]
theorem rC (r:List Ar) (hr:∀y∈r,1<=y.Page.Tx) (ht:∀y∈r,y.Page.Kind=2->y.Page.Tx<t) (h0:1<=t) (h:gK m t n texts):
  (m.length<n->Bs (r++m)=Bs r)/\(m.length=n->∀a,e7 (bs (Pr texts))=some a->∃q,Bs (r++m)=Bs r++ [Tx.mk t q a]):=by
 have b:∀y∈r,y.Page.Kind=2->y.Page.Tx≠t:=λy hy hk=>by grind
 have old:∀x∈D0 r,If (r++m) x=If r x:=by
  intro x hx;have:=Hc r hr;obtain⟨y,hy,hk,rfl⟩:=(this.2.1 x).1 hx;have:=ht y hy hk
  refine TY λd f=>?_
  rw[kE,VS (r:=m) (λz hz g=>by rw[(h.all hz).2];omega),Option.or_none]
 have oldG:(D0 r).filterMap (If<|r++m)=Bs r:=by
  unfold Bs;exact aJ old
 by_cases hm:m=[]
 ·subst hm;have:=h.pos
  grind
 have c:=zT r hr ht h0 m hm λy hy=>h.all hy;have hg:Bs (r++m)=Bs r++(match If (r++m) t with|some x=>[x]|none=>[]):=by
  have:Bs (r++m)=(D0<|r++m).filterMap (If<|r++m):=rfl
  grind
 have hp:=h.pos;obtain⟨p1,p2⟩:=fC b h n 0 0 [] 0 11 (by omega) (.inl rfl) (by omega);refine⟨λh1=>?_,λh1 a e=>?_⟩
 ·have:If (r++m) t=none:=by
   unfold If
   grind
  grind
 obtain⟨q,p3⟩:=p1 h1;rw[show((0:Nat):Int)=0 from rfl]at p3;have:If (r++m) t=some (Tx.mk t q a):=by
  unfold If
  grind
 grind
structure o7 (r:List Ar):Prop where
 uniq:∀y∈r,∀z∈r,y.Page.Kind=2->z.Page.Kind=2->y.Page.Tx=z.Page.Tx->y.Page.Part=z.Page.Part->y=z
theorem rG (h:o7 r) (p:Ar->Bool) {t a b:Int} (hf:R5 (r.filter p) t a b=some y):R5 r t a b=some y:=by
 obtain⟨h1,h2⟩:=S3 hf;have h3:=(Bf.1 h1).1
 cases hz:R5 r t a b with
 |none=>
  unfold R5 at hz
  grind
 |some z=>
  obtain⟨k1,k2⟩:=S3 hz;obtain⟨a1,a2,a3⟩:=WI h2;obtain⟨b1,b2,b3⟩:=WI k2;rw[h.uniq z k1 y h3 b1 a1 (by rw[a2,b2])<|by rw[a3,b3]]
theorem V8 (h:o7 r) (p:Ar->Bool):∀(n:Nat) (a b:Int) (x:List UInt8) (q:Int) (w:List UInt8×Int),parts (r.filter p) t n a b x q=some w->parts r t n a b x q=some w
 |0,_,_,_,_,_,hw=>by cases hw
 |n+1,a,b,x,q,w,hw=>by
  simp only[parts]at hw⊢;split
  ·rename_i hc;rw[Ay hc]at hw
   cases hf:R5 (r.filter p) t a b with
   |none=>grind
   |some y=>
    rw[hf]at hw;rw[rG h p hf];exact V8 h p n _ _ _ _ w hw
  grind
theorem lH {x:Tx} (h:o7 r) (p:Ar->Bool) (hx:If (r.filter p) t=some x):If r t=some x:=by
 unfold If at hx⊢
 cases hp:parts (r.filter p) t 11 0 0 [] 0 with
 |none=>grind
 |some w=>
  rw[hp]at hx;rw[V8 h p _ _ _ _ _ w hp];exact hx
theorem rD (r:List Ar) (hr:GG r):(Bs r).Pairwise λx y=>x.Num<y.Num:=by
 have h1:=(Hc r λy hy=>(hr.tx y hy).1).1;unfold Bs;rw[List.pairwise_filterMap];refine List.Pairwise.imp ?_ h1;intro a b c x hx y hy;rw[(SE hr hx).1,(SE hr hy).1];exact c
theorem VV (l:List α) (f:α->Option β) (q:β->Bool):(l.filterMap f).filter q=l.filterMap (λa=>(f a).filter q):=by
 induction l with
 |nil=>rfl
 |cons a l ih=>grind
theorem gV (r:List Ar) (hr:GG r) (h:o7 r) (p:Ar->Bool) (hp:∀y∈r,y.Page.Kind=2->LU (Dc (Bs r))<=y.Page.Tx->p y=true):Dc (Bs (r.filter p))=Dc (Bs r):=by
 have hr':GG (r.filter p):=⟨by have:=CL p r;have:=hr.len;omega,λy hy=>hr.text y (Bf.1 hy).1,λy hy=>hr.seq y (Bf.1 hy).1,λy hy=>hr.tx y (Bf.1 hy).1,λy hy=>hr.cnt y (Bf.1 hy).1,λy hy=>hr.part y (Bf.1 hy).1⟩;have s1:=Hc r λy hy=>(hr.tx y hy).1;have s2:=Hc (r.filter p) λy hy=>(hr'.tx y hy).1;have e1:Bs (r.filter p)=(D0 r).filterMap (If<|r.filter p):=by
  have hn:D0 (r.filter p)=(D0 r).filter (λt=>decide<|t∈D0 (r.filter p)):=by
   refine Wc s2.1 (List.Pairwise.filter _ s1.1) λx=>?_
   grind
  unfold Bs
  conv=>lhs;rw[hn]
  rw[List.filterMap_filter]
  refine aJ λt ht=>?_
  by_cases e:t∈D0 (r.filter p)
  ·grind
  rw[Av<|by simpa using e];symm
  refine uW λy hy hk c=>e<|(s2.2.1 t).2 ⟨y,hy,hk,c⟩
 have keep:∀t,LU (Dc<|Bs r)<=t->If (r.filter p) t=If r t:=by
  intro t ht
  refine TY λpart cnt=>?_
  unfold R5;rw[List.find?_filter]
  refine rH λy hy=>?_
  cases hm:pJ t part cnt y with
  |false=>simp
  |true=>
   obtain⟨a1,a2,_⟩:=WI hm
   grind
 have e2:Bs (r.filter p)=(Bs r).filter λx=>(If (r.filter p) x.Num).isSome:=by
  rw[e1];unfold Bs;rw[VV]
  refine aJ λt ht=>?_
  cases hx:If (r.filter p) t with
  |some x=>
   have h1:=lH h p hx;rw[h1];have h2:=(SE hr h1).1
   grind
  |none=>
   cases hy:If r t with
   |none=>rfl
   |some x=>
    have h2:=(SE hr hy).1
    grind
 obtain⟨A,h1,h2,h3⟩:=lM<|Bs r;have a:=rD r hr;have hB:(Dc<|Bs r).filter (λx=>(If (r.filter p) x.Num).isSome)=Dc (Bs r):=by
  rw[GI];intro x hx;have d:=(SH<|Bs r).2 x hx;obtain⟨t,_,ht⟩:=List.mem_filterMap.1 d;have hn:=(SE hr ht).1;have g:LU (Dc<|Bs r)<=x.Num:=by
   rw[h1,AR]at a
   cases hb:Dc (Bs r)with
   |nil=>grind
   |cons b B=>
    have f:=a.2.1;rw[hb,C3]at f;rw[hb,CC]at hx;simp only[LU]
    grind
  grind
 rw[e2]
 conv=>lhs;rw[h1]
 rw[AO,hB];refine yK _ _ (λi=>h2 λhA=>?_) h3
 grind
theorem WT:∀n:Nat,∃ds x,Cw n=ds++ [x]/\(∀d∈ds,128<=d.toNat)/\x.toNat<128/\Fx (Cw n)=n
 |n=>by
  by_cases h:n<=127
  ·rw[JV h];have:(UInt8.ofNat n).toNat=n:=by rw[Hl];omega
   exact⟨[],_,rfl,by simp,by omega,by simp only[Fx];omega⟩
  obtain⟨ds,x,h1,h2,h3,h4⟩:=WT<|n/128;rw[S7 h];have e:(UInt8.ofNat<|n %128+128).toNat=n %128+128:=by rw[Hl];omega
  refine⟨UInt8.ofNat (n %128+128)::ds,x,by rw[h1];rfl,?_,h3,?_⟩
  ·intro d hd
   rcases CC.1 hd with rfl|hd
   ·omega
   exact h2 d hd
  simp only[Fx];rw[h4,e];omega
termination_by n=>n
decreasing_by omega
theorem II (h:n<=1000000000):1<=(Cw n).length/\(Cw n).length<=5:=by
 have a:∀(k n:Nat),n<128^(k+1)->(Cw n).length<=k+1:=by
  intro k
  induction k with
  |zero=>intro n hn;rw[JV<|by omega];simp
  |succ k ih=>
   intro n hn;by_cases h:n<=127
   ·rw[JV h];simp
   rw[S7 h,A7];have:=ih (n/128) (by rw[Yj]at hn;omega);omega
 refine⟨?_,a 4 n<|by omega⟩;obtain⟨ds,x,h1,_⟩:=WT n;rw[h1];simp
theorem oX (t:ByteArray) (ht:(L t).length<=20000) (a n:Nat) (hn:n<=1000000000) (rest:List UInt8) (h:(L t).drop a=Cw n++rest):Kh t (a:Int)=some ((n:Int),((a+(Cw n).length:Nat):Int),true):=by
 obtain⟨ds,x,hD,u,hx,hv⟩:=WT n;obtain⟨h1,h2⟩:=II hn;have h0:(L t).length-a=(Cw n).length+rest.length:=by
  have:=BG List.length h;rw[Cb,Ai]at this;exact this
 have h3:(Cw n).length=ds.length+1:=by rw[hD];simp
 have f:∀k,k<=(Cw n).length->((L t).drop a).take k=(Cw n).take k:=λk hk=>by rw[h,FO hk]
 have v:∀(m k:Nat),k+m=ds.length->Ap (λs:Int×Int×Int=>DT t (a:Int) s.1 s.2.1 s.2.2) (((Fx ((Cw n).take k):Nat):Int),((128^k:Nat):Int),((a+k:Nat):Int))=some (.inr ((n:Int),((a+(Cw n).length:Nat):Int),true)):=by
  intro m
  induction m with
  |zero=>
   intro k hk;have g:k=ds.length:=by omega
   suffices d:DT t (a:Int) ((Fx ((Cw n).take k):Nat):Int) ((128^k:Nat):Int) ((a+k:Nat):Int)=some (.inr<|.inr ((n:Int),((a+(Cw n).length:Nat):Int),true)) by
    rw[A0];simp only[d]
   simp only[DT];have e:a+k<(L t).length:=by omega
   rw[C6 (b:=5) (by omega) (by omega),B9,Ad (by omega:((a+k:Nat):Int)<(a:Int)+5),Ad (by omega:((a+k:Nat):Int)<((L t).length:Int))];simp only[Ae,Aa,Fl t e];have hb:(L t)[a+k]=x:=by
    have:((L t).drop a)[k]?=some x:=by
     rw[h,hD,Bm (by simp;omega),g,Bq<|Au _,Yi];rfl
    rw[C4,Ab e]at this;injection this
   rw[hb];have c:=O9 ds [x];rw[<-hD,hv]at c;have w:(Cw n).take k=ds:=by rw[hD,g,Rz rfl]
   rw[w];simp only[Fx,Nat.mul_zero,HV]at c;have hp:=iW k (by omega);have hw:IntKind.i64.wrap (x.toNat:Int)=x.toNat:=Pw (by omega) (by omega);have l:x.toNat %128*128^k<=127*268435456:=dQ (by omega) hp;have emul:ml ((x.toNat %128:Nat):Int) ((128^k:Nat):Int)=((x.toNat %128*128^k:Nat):Int):=by
    have ec:((x.toNat %128:Nat):Int)*((128^k:Nat):Int)=((x.toNat %128*128^k:Nat):Int):=by norm_cast
    rw[PE (by rw[ec];omega) (by rw[ec];omega),ec]
   have i:=Yo ds;rw[<-g]at i c;have enew:ad ((Fx ds:Nat):Int) ((x.toNat %128*128^k:Nat):Int)=(n:Int):=by
    rw[C6,c,sJ<|128^k];omega
   rw[hw,gR,emul,enew,Ad (by omega:(x.toNat:Int)<128),Af (by omega:¬(n:Int)>1000000000),ad1];simp only[Ae,Ac];obtain⟨s,y,z⟩:=IY n (by omega);rw[FK t (by omega) (by omega),y];simp only[Aa];have o:seq s (t.extract a<|a+k+1)=true:=by
    rw[Rp,z,IP,show a+k+1-a=k+1 by omega,f _ (by omega),AN<|by omega];simp
   rw[o];simp only[Ah,Ac];rw[show a+k+1=a+(Cw n).length by omega]
  |succ m ih=>
   intro k hk;suffices d:DT t (a:Int) ((Fx ((Cw n).take k):Nat):Int) ((128^k:Nat):Int) ((a+k:Nat):Int)=some (.inl (((Fx ((Cw n).take<|k+1):Nat):Int),((128^(k+1):Nat):Int),((a+(k+1):Nat):Int))) by
    rw[A0];simp only[d];exact ih (k+1)<|by omega
   simp only[DT];have e:a+k<(L t).length:=by omega
   rw[C6 (b:=5) (by omega) (by omega),B9,Ad (by omega:((a+k:Nat):Int)<(a:Int)+5),Ad (by omega:((a+k:Nat):Int)<((L t).length:Int))];simp only[Ae,Aa,Fl t e];have j:k<ds.length:=by omega
   have p:(Cw n)[k]?=some ds[k]:=by rw[hD,Bm j,Ab j]
   have hb:(L t)[a+k]=ds[k]:=by
    have:((L t).drop a)[k]?=some ds[k]:=by
     rw[h,Bm (by omega),p]
    rw[C4,Ab e]at this;injection this
   rw[hb];have h128:=u _<|A3 j;have hx:=lG ds[k];have q:(Cw n).take (k+1)=(Cw n).take k++ [ds[k]]:=by rw[Ei,p];rfl
   have r:((Cw n).take k).length=k:=by rw[AW];omega
   have c:=O9 ((Cw n).take k) [ds[k]];rw[<-q,r]at c;have i:=Yo<|(Cw n).take k;rw[r]at i;have hp:=iW k (by omega);generalize ds[k]=x at hx q c h128;simp only[Fx,Nat.mul_zero,HV]at c;have hw:IntKind.i64.wrap (x.toNat:Int)=x.toNat:=Pw (by omega) (by omega);have l:x.toNat %128*128^k<=127*268435456:=dQ (by omega) hp;have emul:ml ((x.toNat %128:Nat):Int) ((128^k:Nat):Int)=((x.toNat %128*128^k:Nat):Int):=by
    have ec:((x.toNat %128:Nat):Int)*((128^k:Nat):Int)=((x.toNat %128*128^k:Nat):Int):=by norm_cast
    rw[PE (by rw[ec];omega) (by rw[ec];omega),ec]
   have enew:ad (((Fx ((Cw n).take k):Nat)):Int) ((x.toNat %128*128^k:Nat):Int)=((Fx ((Cw n).take<|k+1):Nat):Int):=by
    rw[C6,c,sJ<|128^k];omega
   have e1:ml ((128^k:Nat):Int) 128=((128^(k+1):Nat):Int):=by
    rw[PE (by omega) (by omega),Yj];norm_cast
   rw[hw,gR,emul,enew,Af (by omega:¬(x.toNat:Int)<128),e1,ad1];rfl
 unfold Kh;rw[B9,EB,Ad<|by omega];simp only[Aa,Ah,Ac];have k0:=v ds.length 0 (by omega);simp only[Jh,Fx,Nat.pow_zero,HV]at k0;rw[show((0:Nat):Int)=0 from rfl,show((1:Nat):Int)=1 from rfl]at k0;rw[k0];rfl
theorem LF (t:ByteArray) (ht:(L t).length<=20000) (a n:Nat) (hn:n<=1000000000) (rest:List UInt8) (h:(L t).drop a=Cw n++rest):Dt (EA.mk t (a:Int) false)=some ((n:Int),EA.mk t ((a+(Cw n).length:Nat):Int) false):=by
 rw[Km t _ ht<|oX t ht a n hn rest h];rfl
def qF (r:Cy):List UInt8:=UInt8.ofNat (16*r.Kind+r.Vol).toNat::(Cw r.Arg.toNat++Cw r.Chunk.toNat)
theorem iS {r:Cy} (h:GL r=true):1<=r.Kind/\r.Kind<=5/\0<=r.Vol/\r.Vol<=9/\0<=r.Arg/\r.Arg<=1000000000/\0<=r.Chunk/\r.Chunk<=1000000000:=by
 unfold GL at h
 cases k1:(r.Kind==1)with
 |true=>
  have e1:r.Kind=1:=by simpa using k1
  rw[k1]at h;simp at h;omega
 |false=>
  rw[k1]at h;cases k2:(r.Kind==2)<;>cases k3:(r.Kind==3)<;>cases k4:(r.Kind==4)<;>rw[k2,k3,k4]at h<;>simp at h k2 k3 k4<;>omega
theorem iE {r:Cy} (h:GL r=true):∃t,NC r=some (t,true)/\L t=qF r:=by
 obtain⟨h1,h2,h3,h4,h5,h6,h7,h8⟩:=iS h;obtain⟨sa,a1,a2⟩:=IY r.Arg.toNat (by omega);obtain⟨sc,c1,c2⟩:=IY r.Chunk.toNat (by omega);rw[AY h5]at a1;rw[AY h7]at c1;unfold NC Kd;rw[ND,h];simp only[Aa,Ah,Ac];rw[PE (by omega) (by omega),C6,a1];simp only[Aa];have l1:=(II<|show r.Arg.toNat<=1000000000 by omega).2;have l2:=(II<|show r.Chunk.toNat<=1000000000 by omega).2;have hb:∀x,(L<|Fo [x]).length=1:=RD;rw[FU _ _ (by rw[hb,a2];omega),c1];simp only[Aa];rw[FU _ _ (by rw[DZ,Ai,hb,a2,c2];omega)];simp only[Aa];refine⟨_,rfl,?_⟩;rw[DZ,DZ,LX,a2,c2];unfold qF;have hw:IntKind.u8.wrap (16*r.Kind+r.Vol)=16*r.Kind+r.Vol:=by
  rw[IntKind.wrap_u8];omega
 simp only[BJ,sK,hw,D6,B5,A6]
def Hr (l:List Cy):List UInt8:=l.flatMap qF
theorem zA {r:Cy} (h:GL r=true):3<=(qF r).length/\(qF r).length<=11:=by
 obtain⟨h1,h2,h3,h4,h5,h6,h7,h8⟩:=iS h;have l1:=II (show r.Arg.toNat<=1000000000 by omega);have l2:=II (show r.Chunk.toNat<=1000000000 by omega);unfold qF;rw[A7,Ai];omega
theorem eZ (t:ByteArray) (ht:(L t).length<=20000):∀(l:List Cy) (a:Nat) (b:List Cy),(∀r∈l,GL r=true)->(L t).drop a=Hr l->a<=(L t).length->b.length<=a->Ap (λs:List Cy×ByteArray×Int×Bool=>DN t s.1 s.2.1 s.2.2.1 s.2.2.2) (b,t,(a:Int),false)=some (.inl (b++l))
 |[],a,b,hl,h,ha,ho=>by
  have:(L t).length=a:=by
   have:=BG List.length h;rw[Cb]at this;simp[Hr]at this;omega
  rw[A0];simp only[DN];rw[B9,Af (by omega),A4];rfl
 |r::l,a,b,hl,h,ha,ho=>by
  have hr:=hl r (by simp);obtain⟨h1,h2,h3,h4,h5,h6,h7,h8⟩:=iS hr;have h':(L t).drop a=UInt8.ofNat (16*r.Kind+r.Vol).toNat::(Cw r.Arg.toNat++(Cw r.Chunk.toNat++Hr l)):=by
   rw[h];simp only[Hr,Kx,qF,B5,Ax]
  have c:a<(L t).length:=by
   have:=BG List.length h';rw[Cb,A7]at this;omega
  have d:=AT c;rw[h']at d
  injection d with hx hd
  rw[A0];simp only[DN];rw[B9,Ad<|by omega];simp only[Ae,Aa,AD];rw[Fl t c,ad1,Aa,LF t ht (a+1) r.Arg.toNat (by omega) _ hd.symm];simp only[Aa];have e:(L t).drop (a+1+(Cw r.Arg.toNat).length)=Cw r.Chunk.toNat++Hr l:=by
   rw[<-CI,<-hd,G5 rfl]
  rw[LF t ht _ r.Chunk.toNat (by omega) _ e];simp only[Aa,Ac];have hw:IntKind.i64.wrap (((L t)[a]).toNat:Int)=16*r.Kind+r.Vol:=by
   rw[<-hx,Hl,Pw (by omega)<|by omega];omega
  have e1:qu (IntKind.i64.wrap (((L t)[a]).toNat:Int)) 16=r.Kind:=by
   rw[hw];unfold qu;rw[Int.tdiv_eq_ediv_of_nonneg (by omega),Pw (by omega)<|by omega];omega
  have e2:Int.tmod (IntKind.i64.wrap (((L t)[a]).toNat:Int)) 16=r.Vol:=by
   rw[hw,Lj<|by omega];omega
  rw[e1,e2,AY h5,AY h7];have f:Cy.mk r.Kind r.Vol r.Arg r.Chunk=r:=rfl;rw[f,ND,hr];simp only[Aa,Ah,Ac];rw[BP (by simp only[A8];omega)];simp only[Aa];have l1:=II (show r.Arg.toNat<=1000000000 by omega);have l2:=II (show r.Chunk.toNat<=1000000000 by omega);have g:(L t).drop (a+1+(Cw r.Arg.toNat).length+(Cw r.Chunk.toNat).length)=Hr l:=by
   rw[<-CI,e,G5 rfl]
  have i:a+1+(Cw r.Arg.toNat).length+(Cw r.Chunk.toNat).length<=(L t).length:=by
   have h9:=BG List.length h';rw[Cb,A7,Ai,Ai]at h9;omega
  have:=eZ t ht l _ (b++ [r]) (λx hx=>hl x<|by simp[hx]) g i (by simp;omega);rw[Ax,D6]at this;exact this
theorem qE {l:List Cy} (hl:∀r∈l,GL r=true) (a:(Hr l).length<=20000):e7 (bs (Hr l))=some l:=by
 have h:=eZ (bs<|Hr l) (by rw[EY];exact a) l 0 [] hl (by rw[EY];rfl) (by omega) (by simp);unfold e7 Iw;have h':Ap (λs:List Cy×ByteArray×Int×Bool=>DN (bs<|Hr l) s.1 s.2.1 s.2.2.1 s.2.2.2) ([],bs<|Hr l,0,false)=some (.inl<|[]++l):=h;rw[h',A6];rfl
theorem r7 {v:Int} (u:ByteArray) (hu:(L u).length<=20000) (hv:OF u=some v):L5 (u++four v)=some (u,true):=by
 have a:(L<|u++four v).length=(L u).length+4:=by rw[DZ,Ai,VR]
 have e4:sb (FM<|u++four v) 4=((L u).length:Int):=by rw[B9,a,Cj];omega
 unfold L5;rw[e4,Af (by omega),Af<|by omega];simp only[Ac];have c:sub (u++four v) 0 ((L u).length:Int)=some u:=by
  rw[show(0:Int)=((0:Nat):Int)from rfl,FK _ (by omega)<|by omega];congr 1;apply Lf;rw[IP,DZ];simp
 have b:sub (u++four v) ((L u).length:Int) (FM<|u++four v)=some (four v):=by
  rw[B9,FK _ (by omega)<|by omega];congr 1;apply Lf;rw[IP,a,DZ,G5 rfl,AN (by rw[VR];omega)]
 rw[c,b];simp only[Aa];rw[hv];have h3:L3 v=some (four v):=rfl;simp only[Aa,h3];have:seq (four v) (four v)=true:=by rw[Lu];simp
 rw[this];rfl
def J6 (p:Page):Prop:=(p.Kind=1\/p.Kind=2)/\(1<=p.Seq/\p.Seq<=1000000000)/\(1<=p.Tx/\p.Tx<=1000000000)/\(1<=p.Count/\p.Count<=9)/\(0<=p.Part/\p.Part<p.Count)/\(L p.Text).length<=90/\(p.Kind=2\/p.Count=1)
theorem Uk (p:Page):∃v,K9 p=some v/\(v=true↔J6 p):=by
 unfold K9 J6;rw[EB,EB,EB,EB,B9];simp only[Aa];by_cases h1:1<=p.Kind/\p.Kind<=2
 ·rw[Ad h1];by_cases h2:1<=p.Seq/\p.Seq<=1000000000
  ·rw[Ad h2];by_cases h3:1<=p.Tx/\p.Tx<=1000000000
   ·rw[Ad h3];by_cases h4:1<=p.Count/\p.Count<=9
    ·rw[Ad h4];simp only[Ah,Ac];rw[Cj,EB];simp only[Aa];by_cases h5:0<=p.Part/\p.Part<=p.Count-1
     ·rw[Ad h5];simp only[Ah,Ac,Aa];by_cases h6:((L p.Text).length:Int)>90
      ·rw[Ad h6];exact⟨_,rfl,by simp only[BB,WP];omega⟩
      rw[Af h6];simp only[Ac];by_cases h7:p.Kind=2
      ·rw[show(p.Kind==2)=true by simpa using h7];exact⟨_,rfl,by simp only[true_iff];omega⟩
      rw[show(p.Kind==2)=false by simpa using h7];refine⟨_,rfl,?_⟩;rw[Cd];omega
     rw[Af h5];exact⟨_,rfl,by simp only[BB,WP];omega⟩
    rw[Af h4];exact⟨_,rfl,by simp only[BB,WP];omega⟩
   rw[Af h3];exact⟨_,rfl,by simp only[BB,WP];omega⟩
  rw[Af h2];exact⟨_,rfl,by simp only[BB,WP];omega⟩
 rw[Af h1];exact⟨_,rfl,by simp only[BB,WP];omega⟩
theorem zK (h:J6 p):K9 p=some true:=by
 obtain⟨v,h1,h2⟩:=Uk p;rw[h1,h2.2 h]
theorem vJ (h:J6 p):∃t,E9 p=some (t,true)/\1<=(L t).length/\(L t).length<=120/\F7 t=some (p,true):=by
 obtain⟨h1,h2,h3,h4,h5,h6,h7⟩:=h
 let k:UInt8:=UInt8.ofNat p.Kind.toNat
 have hk:(k.toNat:Int)=p.Kind:=by
  show((UInt8.ofNat p.Kind.toNat).toNat:Int)=p.Kind;rw[Hl];omega
 let u:=bs<|[k]++Cw p.Seq.toNat++Cw p.Tx.toNat++Cw p.Part.toNat++Cw p.Count.toNat++L p.Text
 have hu:L u=[k]++Cw p.Seq.toNat++Cw p.Tx.toNat++Cw p.Part.toNat++Cw p.Count.toNat++L p.Text:=EY _;have l1:=II (show p.Seq.toNat<=1000000000 by omega);have l2:=II (show p.Tx.toNat<=1000000000 by omega);have l3:=II (show p.Part.toNat<=1000000000 by omega);have l4:=II (show p.Count.toNat<=1000000000 by omega);have e:(L u).length=1+(Cw p.Seq.toNat).length+(Cw p.Tx.toNat).length+(Cw p.Part.toNat).length+(Cw p.Count.toNat).length+(L p.Text).length:=by
  rw[hu];simp only[Ai,A8]
 have l5:(L u).length<=116:=by omega
 obtain⟨v,hv,hs⟩:=(Ty u).2 (by omega);have c:=zK ⟨h1,h2,h3,h4,h5,h6,h7⟩;have a:=XT p u k p.Seq.toNat p.Tx.toNat p.Part.toNat p.Count.toNat c hk.symm (by omega) (by omega) (by omega) (by omega) (by omega) (by omega) (by omega) (by omega) (by omega) hu;rw[hs]at a;refine⟨u++four v,a,by rw[DZ,Ai];omega,by rw[DZ,Ai,VR];omega,?_⟩;unfold F7;rw[r7 u (by omega) hv];simp only[Aa,Ah,Ac];rw[B9,Af<|by omega];have d0:(L u).drop 1=Cw p.Seq.toNat++(Cw p.Tx.toNat++(Cw p.Part.toNat++(Cw p.Count.toNat++L p.Text))):=by
  rw[hu];simp only[Ax,D6,B5,List.drop_succ_cons,List.drop_zero,A6]
 rw[show(1:Int)=((1:Nat):Int)from rfl,LF u (by omega) 1 p.Seq.toNat (by omega) _ d0];simp only[Aa];have d1:(L u).drop (1+(Cw p.Seq.toNat).length)=Cw p.Tx.toNat++(Cw p.Part.toNat++(Cw p.Count.toNat++L p.Text)):=by rw[<-CI,d0,G5 rfl]
 rw[LF u (by omega) _ p.Tx.toNat (by omega) _ d1];simp only[Aa];have d2:(L u).drop (1+(Cw p.Seq.toNat).length+(Cw p.Tx.toNat).length)=Cw p.Part.toNat++(Cw p.Count.toNat++L p.Text):=by rw[<-CI,d1,G5 rfl]
 rw[LF u (by omega) _ p.Part.toNat (by omega) _ d2];simp only[Aa];have d3:(L u).drop (1+(Cw p.Seq.toNat).length+(Cw p.Tx.toNat).length+(Cw p.Part.toNat).length)=Cw p.Count.toNat++L p.Text:=by rw[<-CI,d2,G5 rfl]
 rw[LF u (by omega) _ p.Count.toNat (by omega) _ d3];simp only[Aa,Ac];have d4:(L u).drop (1+(Cw p.Seq.toNat).length+(Cw p.Tx.toNat).length+(Cw p.Part.toNat).length+(Cw p.Count.toNat).length)=L p.Text:=by rw[<-CI,d3,G5 rfl]
 have d:sx u 0=some ((k.toNat:Nat):Int):=by
  rw[show(0:Int)=((0:Nat):Int)from rfl,Fl u<|by omega];have:(L u)[0]?=some k:=by rw[hu];simp
  rw[Ab<|by omega]at this
  injection this with this
  rw[this]
 rw[d];simp only[Aa];have b:sub u ((1+(Cw p.Seq.toNat).length+(Cw p.Tx.toNat).length+(Cw p.Part.toNat).length+(Cw p.Count.toNat).length:Nat):Int) ((L u).length:Int)=some p.Text:=by
  rw[FK u (by omega)<|by omega];congr 1;apply Lf;rw[IP,d4,AN<|by omega]
 rw[b,Aa,Pw (by omega) (by omega),hk,AY (by omega),AY (by omega),AY (by omega),AY<|by omega];have hp:Page.mk p.Kind p.Seq p.Tx p.Part p.Count p.Text=p:=rfl;rw[hp,a];simp only[Aa,Ah,Ac];have:seq (u++four v) (u++four v)=true:=by rw[Lu];simp
 rw[this];rfl
theorem zJ (h:¬J6 p):E9 p=some (bs [],false):=by
 obtain⟨v,h1,h2⟩:=Uk p;unfold E9;rw[h1]
 cases v with
 |true=>exact absurd (h2.1 rfl) h
 |false=>rfl
theorem u9 (s:ByteArray) (f a:Nat) (hf:f<a) (ha:a<=(L s).length) (hs:(L s).length<=64):∃k:Nat,NY s (f:Int) (a:Int)=some (k:Int)/\k<=31/\a+k<=(L s).length/\∀j,j<k->(L s)[f+j]?=(L s)[a+j]? :=by
 obtain⟨b,h1,k,rfl,h2,h3,h4⟩:=AS (body:=λn:Int=>HJ s (f:Int) (a:Int) n) (λ(_:Unit) i=>i) 31 (λi _=>a+i<=(L s).length/\∀j,j<i->(L s)[f+j]?=(L s)[a+j]?) (λb=>∃k:Nat,b=(k:Int)/\k<=31/\a+k<=(L s).length/\∀j,j<k->(L s)[f+j]?=(L s)[a+j]?)
  (λ_ i hi hs=>by
   simp only[HJ];rw[cT,C6,C6,B9];by_cases c:a+i<(L s).length
   ·rw[cT];have e1:((f:Int)+(i:Int))=((f+i:Nat):Int):=by omega
    have e2:((a:Int)+(i:Int))=((a+i:Nat):Int):=by omega
    rw[e1,e2,Fl s (by omega),Fl s c];simp only[Aa]
    cases hq:((((L s)[f+i]).toNat:Int)==(((L s)[a+i]).toNat:Int))with
    |true=>
     simp only[Ae];rw[ad1];refine .inl ⟨(),rfl,by omega,λj hj=>?_⟩;by_cases e:j=i
     ·subst e;rw[Ab (by omega),Ab c];congr 1;apply UInt8.toNat_inj.1;have:(((L s)[f+j]).toNat:Int)=(((L s)[a+j]).toNat:Int):=by simpa using hq
      omega
     exact hs.2 j<|by omega
    |false=>exact .inr ⟨_,rfl,i,rfl,by omega,hs.1,hs.2⟩
   rw[cF]
   exact .inr ⟨_,rfl,i,rfl,by omega,hs.1,hs.2⟩)
  (λ_ hs=>by
   simp only[HJ];rw[cF]
   exact⟨_,rfl,31,rfl,by omega,hs.1,hs.2⟩) (s:=()) ⟨by omega,λj hj=>by omega⟩
 refine⟨k,?_,h2,h3,h4⟩;unfold NY;have h1':Ap (λn:Int=>HJ s (f:Int) (a:Int) n) 0=some (k:Int):=h1;rw[h1'];rfl
def AAK (s:ByteArray) (a z b:Nat):Prop:=z<=31/\a+z<=(L s).length/\(z=0\/(4<=z/\1<=b/\b<=a/\∀j,j<z->(L s)[a-b+j]?=(L s)[a+j]?))
theorem yR (s:ByteArray) (a:Nat) (ha:a<=(L s).length) (hs:(L s).length<=64):∃z b:Nat,Ap (λq:Int×Int×Int=>EF s (a:Int) q.1 q.2.1 q.2.2) (0,0,sb (a:Int) 1)=some ((z:Int),(b:Int))/\AAK s a z b:=by
 rw[Cj];obtain⟨r,h1,z,b,rfl,h2⟩:=AS (body:=λq:Int×Int×Int=>EF s (a:Int) q.1 q.2.1 q.2.2) (λ(q:Nat×Nat) i=>((q.1:Int),(q.2:Int),(a:Int)-1-i)) a (λi q=>AAK s a q.1 q.2) (λr=>∃z b:Nat,r=((z:Int),(b:Int))/\AAK s a z b)
  (λq i hi hq=>by
   obtain⟨k,m1,m2,m3,m4⟩:=u9 s (a-1-i) a (by omega) ha hs;have e1:((a:Int)-1-(i:Int))=((a-1-i:Nat):Int):=by omega
   simp only[EF,e1];rw[Ad (by omega:(((a-1-i:Nat)):Int)>=0),Ae,m1,Aa,Cj,Cj];refine .inl ?_;have e2:(((a-1-i:Nat):Int)-1)=(a:Int)-1-((i+1:Nat):Int):=by omega
   have e3:((a:Int)-((a-1-i:Nat):Int))=((1+i:Nat):Int):=by omega
   rw[e2,e3];by_cases h4:4<=k
   ·rw[cT];by_cases h5:q.1<k
    ·rw[Ad (by omega:(k:Int)>(q.1:Int))];exact⟨(k,1+i),rfl,m2,m3,.inr ⟨h4,by omega,by omega,λj hj=>by rw[show a-(1+i)=a-1-i by omega];exact m4 j hj⟩⟩
    rw[Af (by omega:¬(k:Int)>(q.1:Int))];exact⟨q,rfl,hq⟩
   rw[cF]
   exact⟨q,rfl,hq⟩)
  (λq hq=>by
   simp only[EF];rw[cF]
   exact⟨_,rfl,q.1,q.2,rfl,hq⟩) (s:=(0,0)) ⟨by omega,by omega,.inl rfl⟩
 have e0:(((0:Nat):Int),((0:Nat):Int),(a:Int)-1-0)=((0:Int),(0:Int),(a:Int)-1):=by simp
 simp only[e0]at h1;exact⟨z,b,h1,h2⟩
def VY:Nat->Nat->List UInt8->List UInt8
 |0,_,out=>out
 |n+1,b,out=>VY n b (out++ [(out[out.length-b]?).getD 0])
def WQ (a:List UInt8) (t:Bj):List UInt8:=if t.Back=0 then a++L t.Text else VY t.Size.toNat t.Back.toNat a
def F9 (l:List Bj):List UInt8:=l.foldl WQ []
def okT (a:List UInt8) (t:Bj):Prop:=(t.Back=0/\t.Size=0/\1<=(L t.Text).length/\(L t.Text).length<=31)\/(1<=t.Back/\t.Back<=(a.length:Int)/\1<=t.Size/\t.Size<=31/\L t.Text=[])
def zS (l:List Bj):Prop:=∀(i:Nat) t,l[i]?=some t->okT (F9<|l.take i) t
theorem PB (l:List Bj) (t:Bj):F9 (l++ [t])=WQ (F9 l) t:=by unfold F9;rw[List.foldl_append];rfl
theorem i8 {l:List Bj} {t:Bj} (h:zS l) (ht:okT (F9 l) t):zS (l++ [t]):=by
 intro i x hx;by_cases e:i<l.length
 ·rw[Bm e]at hx;rw[FO<|by omega];exact h i x hx
 have hi:=(Ag.1 hx).1;rw[Ai,A8]at hi;obtain rfl:i=l.length:=by omega
 rw[Bq<|Au _,Yi]at hx;simp only[DJ,An]at hx;rw[Rz rfl,<-hx];exact ht
theorem zR {l:List Bj} {t:Bj} (h:zS (l++ [t])):zS l/\okT (F9 l) t:=by
 refine⟨λi x hx=>?_,?_⟩
 ·have hi:=(Ag.1 hx).1;have:=h i x (by rw[Bm hi];exact hx);rw[FO<|by omega]at this;exact this
 have:=h l.length t (by rw[Bq<|Au _,Yi];rfl);rw[Rz rfl]at this;exact this
theorem f7 (S:List UInt8):∀(n a b:Nat),a+n<=S.length->1<=b->b<=a->(∀j,j<n->S[a-b+j]?=S[a+j]?)->VY n b (S.take a)=S.take (a+n)
 |0,a,b,_,_,_,_=>rfl
 |n+1,a,b,h1,h2,h3,h4=>by
  rw[VY];have hl:(S.take a).length=a:=by rw[AW];omega
  have e:((S.take a)[(S.take a).length-b]?).getD 0=S[a]'(by omega):=by
   rw[hl,List.getElem?_take_of_lt<|by omega];have:=h4 0 (by omega);rw[HV,HV]at this;rw[this,Ab<|by omega];rfl
  rw[e,<-Ao (by omega),f7 S n (a+1) b (by omega) h2 (by omega) (λj hj=>by
   have:=h4 (j+1) (by omega);rw[show a+1-b+j=a-b+(j+1) by omega,this];congr 1
   omega)]
  congr 1;omega
theorem oE:∀(n b:Nat) (a:List UInt8),(VY n b a).length=a.length+n
 |0,_,_=>rfl
 |n+1,b,a=>by rw[VY,oE];simp;omega
theorem Vc (s:ByteArray) (hs:(L s).length<=64):∀(n a:Nat) (c:List Bj),(L s).length-a<=n->a<=(L s).length->c.length<=a->zS c->F9 c=(L s).take a->∃l,Ap (λq:List Bj×Int=>Cu s q.1 q.2) (c,(a:Int))=some l/\zS l/\F9 l=L s/\l.length<=64
 |n,a,c,hn,ha,h,g,d=>by
  by_cases i:a<(L s).length
  ·obtain⟨z,b,h1,h2,h3,h4⟩:=yR s a ha hs
   match n,hn with
   |0,hn=>omega
   |n+1,hn=>
   have j:((L s).take a).length=a:=by rw[AW];omega
   rcases h4 with rfl|⟨h4,h5,h6,h7⟩
   ·
    have f:sub s (a:Int) ((a+1:Nat):Int)=some (s.extract a<|a+1):=FK s (by omega) (by omega);have hx:L (s.extract a<|a+1)=[(L s)[a]]:=by
     rw[IP,show a+1-a=1 by omega,AT i];rfl
    have fresh:∃l,Ap (λq:List Bj×Int=>Cu s q.1 q.2) (c++ [Bj.mk 0 0<|s.extract a<|a+1],((a+1:Nat):Int))=some l/\zS l/\F9 l=L s/\l.length<=64:=
     Vc s hs n (a+1) _ (by omega) (by omega) (by simp;omega) (i8 g<|.inl ⟨rfl,rfl,by rw[hx];simp,by rw[hx];simp⟩) (by
      rw[PB];unfold WQ
      rw[Ay rfl,d,hx,Ao i])
    rcases Hx c with e|⟨out0,t0,e⟩
    ·subst e;obtain⟨l,f1,f2⟩:=fresh;refine⟨l,?_,f2⟩;rw[A0];have hb:Cu s [] (a:Int)=some (.inl ([Bj.mk 0 0<|s.extract a<|a+1],((a+1:Nat):Int))):=by
      simp only[Cu];rw[B9,cT,h1];simp only[Aa];rw[show decide ((((0:Nat):Int))>0)=false from rfl,Ac,ad1,f,show decide ((sb (ln ([]:List Bj)) 1)>=0)=false from rfl];simp only[Ac,Aa];rw[BP<|by simp];rfl
     simp only[hb];exact f1
    rw[Hy]at e;subst e;obtain⟨ok0,okt0⟩:=zR g;have hol':out0.length+1<=a:=by simpa using h
    have p:ln (out0++ [t0])=((out0.length+1:Nat):Int):=by rw[B4];simp
    have k:sb (ln<|out0++ [t0]) 1=(out0.length:Int):=by rw[p,Cj];omega
    have m:gi (out0++ [t0]) (out0.length:Int)=some t0:=Fv _ _;by_cases hm:t0.Back=0/\(L t0.Text).length<31
    ·have o:Ie t0.Text (s.extract a<|a+1)=some (t0.Text++s.extract a (a+1)):=FU _ _ (by rw[hx];simp;omega);have hb:Cu s (out0++ [t0]) (a:Int)=some (.inl (out0++ [Bj.mk t0.Back t0.Size<|t0.Text++s.extract a (a+1)],((a+1:Nat):Int))):=by
      simp only[Cu];rw[B9,cT,h1];simp only[Aa];rw[show decide ((((0:Nat):Int))>0)=false from rfl,Ac,ad1,f,k,cT,m];simp only[Aa];rw[show(t0.Back==0)=true by simpa using hm.1,Ae,B9,Ad<|by omega];simp only[Aa,Ae];rw[o];simp only[Aa];rw[Kb]
     have hX:L (t0.Text++s.extract a (a+1))=L t0.Text++ [(L s)[a]]:=by rw[DZ,hx]
     obtain⟨l,f1,f2⟩:=Vc s hs n (a+1) (out0++ [Bj.mk t0.Back t0.Size<|t0.Text++s.extract a (a+1)]) (by omega) (by omega) (by simp at h⊢;omega) (i8 ok0 (by
      rcases okt0 with⟨k1,k2,k3,k4⟩|⟨k1,_⟩
      ·exact .inl ⟨k1,k2,by rw[hX];simp,by rw[hX];simp;omega⟩
      ·omega)) (by
      rw[PB]at d⊢;unfold WQ at d⊢;rw[Ay hm.1]at d⊢
      rw[hX,<-Ax,d,Ao i])
     refine⟨l,?_,f2⟩;rw[A0];simp only[hb];exact f1
    have hb:Cu s (out0++ [t0]) (a:Int)=some (.inl (out0++ [t0]++ [Bj.mk 0 0<|s.extract a<|a+1],((a+1:Nat):Int))):=by
     simp only[Cu];rw[B9,cT,h1];simp only[Aa];rw[show decide ((((0:Nat):Int))>0)=false from rfl,Ac,ad1,f,k,cT,m];simp only[Aa];have hj:(bif t0.Back==0 then some (decide<|FM t0.Text<31)else some false:Option Bool)=some false:=by
      by_cases e0:t0.Back=0
      ·rw[show(t0.Back==0)=true by simpa using e0,Ae,B9,Af (by
       intro hh;exact hm ⟨e0,by omega⟩)]
      rw[show(t0.Back==0)=false by simpa using e0];rfl
     rw[hj];simp only[Aa,Ac];rw[BP (by simp at h⊢;omega)];rfl
    obtain⟨l,f1,f2⟩:=fresh;refine⟨l,?_,f2⟩;rw[A0];simp only[hb];exact f1
   have hb:Cu s c (a:Int)=some (.inl (c++ [Bj.mk (b:Int) (z:Int)<|bs []],((a+z:Nat):Int))):=by
    simp only[Cu];rw[B9,cT,h1];simp only[Aa];rw[cT,BP (by simp;omega),C6];simp only[Aa];congr 3
   obtain⟨l,f1,f2⟩:=Vc s hs n (a+z) (c++ [Bj.mk (b:Int) (z:Int)<|bs []]) (by omega) h3 (by simp;omega) (i8 g<|.inr ⟨by simp;omega,by rw[d,j];simp;omega,by simp;omega,by simp;omega,EY _⟩) (by
    rw[PB];unfold WQ;rw[Av (by simp;omega),d];simp only[Be]
    exact f7 (L s) z a b h3 h5 h6 h7)
   refine⟨l,?_,f2⟩;rw[A0];simp only[hb];exact f1
  have ea:a=(L s).length:=by omega
  refine⟨c,?_,g,by rw[d,ea,Bc],by omega⟩;rw[A0];have hb:Cu s c (a:Int)=some (.inr c):=by
   simp only[Cu];rw[B9,cF]
  simp only[hb]
theorem AAQ (s:ByteArray) (hs:(L s).length<=64):∃l,L6 s=some l/\zS l/\F9 l=L s/\l.length<=64:=by
 obtain⟨l,h1,h2⟩:=Vc s hs (L s).length 0 [] (by omega) (by omega) (by simp) (λi t h=>by simp at h) (by simp[F9]);refine⟨l,?_,h2⟩;unfold L6;rw[B9,cF];have h1':Ap (λq:List Bj×Int=>Cu s q.1 q.2) ([],0)=some l:=h1;rw[h1'];rfl
def Na (t:Bj):List UInt8:=if t.Back=0 then UInt8.ofNat (L t.Text).length::L t.Text else [UInt8.ofNat (128+t.Size).toNat,UInt8.ofNat t.Back.toNat]
theorem tW {t:Bj} {a:List UInt8} (h:okT a t) (ho:a.length<=64):(Na t).length<=32:=by
 unfold Na
 rcases h with⟨h1,h2,h3,h4⟩|⟨h1,h2,h3,h4,h5⟩
 ·grind
 grind
theorem AB7 {t:Bj} {a:List UInt8} (h:okT a t):a.length<=(WQ a t).length:=by
 unfold WQ;split
 ·simp
 rw[oE];omega
theorem Og {l:List Bj} (h:zS l):∀i,i<=l.length->(F9 (l.take i)).length<=(F9 l).length:=by
 have step:∀i,i<l.length->(F9<|l.take i).length<=(F9<|l.take<|i+1).length:=λi hi=>by
  rw[Ao hi,PB];exact AB7<|h i _<|Ab hi
 intro i hi;have:∀k,i+k<=l.length->(F9<|l.take i).length<=(F9<|l.take<|i+k).length:=by
  intro k
  induction k with
  |zero=>grind
  |succ k ih=>grind
 have:=this (l.length-i) (by omega);rw[show i+(l.length-i)=l.length by omega,Bc]at this;exact this
theorem ADy (s:ByteArray) (hs:(L s).length<=64):∃l,zS l/\F9 l=L s/\l.length<=64/\((Fd s=some (bs (122::l.flatMap Na),true))\/Fd s=some (bs (114::L s),true)):=by
 obtain⟨l,h1,h2,h3,h4⟩:=AAQ s hs;refine⟨l,h2,h3,h4,?_⟩;unfold Fd;rw[B9,cF,h1];simp only[Aa];obtain⟨b,q1,q2⟩:=AS (body:=λq:ByteArray×Int=>Fu l q.1 q.2) (λz i=>(z,i)) l.length (λi z=>L z=122::(l.take i).flatMap Na/\(L z).length<=1+32*i) (λz=>L z=122::l.flatMap Na/\(L z).length<=3000)
  (λz i hi hz=>by
   have hx:=Ab hi;have c:=h2 i _ hx;have a:=Og h2 i (by omega);rw[h3]at a;have d:=tW c (by omega);have et:(l.take<|i+1).flatMap Na=(l.take i).flatMap Na++Na l[i]:=by rw[Ao hi,R8];simp
   simp only[Fu,Ez hi,Aw,hx,Aa];rw[ad1];refine .inl ?_
   rcases c with⟨k1,k2,k3,k4⟩|⟨k1,k2,k3,k4,k5⟩
   ·rw[show(l[i].Back==0)=true by simpa using k1,Ae,FU _ _ (by rw[RD];omega)];rw[Aa,FU _ _ (by rw[DZ,Ai,RD];omega)];have hL:L (z++Fo [IntKind.u8.wrap<|FM l[i].Text]++l[i].Text)=L z++Na l[i]:=by
     rw[DZ,DZ,LX];unfold Na;rw[Ay k1,B9];have:IntKind.u8.wrap ((L l[i].Text).length:Int)=((L l[i].Text).length:Int):=by rw[IntKind.wrap_u8];omega
     grind
    grind
   rw[show(l[i].Back==0)=false by simp;omega,Ac,C6,FU _ _ (by rw[NP];simp;omega)];have hL:L (z++Fo [IntKind.u8.wrap<|128+l[i].Size,IntKind.u8.wrap l[i].Back])=L z++Na l[i]:=by
    rw[DZ,LX];unfold Na;rw[Av<|by omega];have e1:IntKind.u8.wrap (128+l[i].Size)=128+l[i].Size:=by rw[IntKind.wrap_u8];omega
    have e2:IntKind.u8.wrap l[i].Back=l[i].Back:=by rw[IntKind.wrap_u8];omega
    grind
   grind)
  (λz hz=>⟨z,by simp only[Fu,Ec],by grind,by omega⟩) (s:=bs [122]) ⟨by rw[EY];rfl,by rw[EY];simp⟩
 rw[q1];simp only[Aa];have hb:b=bs (122::l.flatMap Na):=Lf<|by rw[q2.1,EY]
 cases decide (ad ((L s).length:Int) 1<=FM b)with
 |false=>left;rw[hb];rfl
 |true=>
  right;simp only[Ae];rw[FU _ _ (by rw[EY];simp;omega)];rfl
theorem Wq (t:ByteArray) (ht:(L t).length<=10000):∀(l:List Bj) (a:Nat) (c:List Bj),(∀x∈l,∃o:List UInt8,okT o x/\o.length<=64)->(L t).drop a=l.flatMap Na->a<=(L t).length->c.length<=a->Ap (λq:List Bj×Int=>BZ t q.1 q.2) (c,(a:Int))=some (.inl (c++l))
 |[],a,c,hl,h,ha,ho=>by
  have:(L t).length=a:=by
   have:=BG List.length h
   grind
  rw[A0];have hb:BZ t c (a:Int)=some (.inr<|.inl c):=by
   simp only[BZ];rw[B9,cF]
  grind
 |x::l,a,c,hl,h,ha,ho=>by
  obtain⟨o,m,p⟩:=hl x (by simp);rw[Kx]at h;have d:=BG List.length h;rw[Cb,Ai]at d
  rcases m with⟨k1,k2,k3,k4⟩|⟨k1,k2,k3,k4,k5⟩
  ·have he:Na x=UInt8.ofNat (L x.Text).length::L x.Text:=by unfold Na;rw[Ay k1]
   rw[he]at h d;rw[A7]at d;have f:a<(L t).length:=by omega
   have e:=AT f;rw[h,B5]at e
   injection e with hx hd
   have i:(((L t)[a]).toNat:Int)=((L x.Text).length:Int):=by rw[<-hx,Hl];omega
   have k:sub t ((a+1:Nat):Int) ((a+1+(L x.Text).length:Nat):Int)=some x.Text:=by
    rw[FK t (by omega)<|by omega];congr 1;apply Lf;rw[IP,<-hd,show a+1+(L x.Text).length-(a+1)=(L x.Text).length by omega,Rz rfl]
   have hb:BZ t c (a:Int)=some (.inl (c++ [Bj.mk 0 0 x.Text],((a+1+(L x.Text).length:Nat):Int))):=by
    simp only[BZ];rw[B9,cT,Fl t f,Aa,i,Pw (by omega) (by omega),cF,ad1,C6,cF,show((a+1:Nat):Int)+((L x.Text).length:Int)=((a+1+(L x.Text).length:Nat):Int) by omega,k,Aa,BP (by simp;omega)];rfl
   have j:Bj.mk 0 0 x.Text=x:=by
    cases x with
    |mk b z u=>grind
   rw[j]at hb;rw[A0];simp only[hb];have:=Wq t ht l (a+1+(L x.Text).length) (c++ [x]) (λy hy=>hl y<|by simp[hy]) (by rw[<-CI,<-hd,G5 rfl]) (by omega) (by simp;omega)
   grind
  have he:Na x=[UInt8.ofNat (128+x.Size).toNat,UInt8.ofNat x.Back.toNat]:=by unfold Na;grind
  rw[he]at h d;simp only[A7,BV]at d;have f:a<(L t).length:=by omega
  have e:=AT f;rw[h]at e;simp only[B5,A6]at e
  injection e with hx hd
  have g:=AT (show a+1<(L t).length by omega);rw[<-hd]at g
  injection g with hx2 hd2
  have i:(((L t)[a]).toNat:Int)=128+x.Size:=by rw[<-hx,Hl];omega
  have n:(((L t)[a+1]'(by omega)).toNat:Int)=x.Back:=by rw[<-hx2,Hl];omega
  have hb:BZ t c (a:Int)=some (.inl (c++ [Bj.mk x.Back x.Size<|bs []],((a+2:Nat):Int))):=by
   simp only[BZ];rw[B9,cT,Fl t f,Aa,i,Pw (by omega) (by omega),cT,C6 (b:=2) (by omega) (by omega),cF,ad1,Fl t (by omega),Aa,n,Pw (by omega) (by omega),Cj,BP (by simp;omega),Aa,show 128+x.Size-128=x.Size by omega];rfl
  have j:Bj.mk x.Back x.Size (bs [])=x:=by
   cases x with
   |mk b z u=>simp only at k5⊢;rw[show bs []=u from Lf<|by rw[k5,EY]]
  rw[j]at hb;rw[A0];simp only[hb];have:=Wq t ht l (a+2) (c++ [x]) (λy hy=>hl y<|by simp[hy]) (by grind) (by omega) (by simp;omega)
  grind
def Hs (l:List UInt8):List Int:=l.map λc=>(c.toNat:Int)
theorem vO (l:List UInt8):L (Fo (Hs l))=l:=by
 rw[LX,Hs,FH];have:((λn:Int=>UInt8.ofNat n.toNat)∘λc:UInt8=>(c.toNat:Int))=id:=by
  funext c;simp
 rw[this,UO]
theorem yP (b:ByteArray):pW b=Hs (L b):=rfl
theorem Z3 (x:Bj) (b:1<=x.Back) (hs:0<=x.Size/\x.Size<=31):∀(n k:Nat) (a:List UInt8),(k:Int)+n=x.Size->x.Back<=(a.length:Int)->a.length+n<=1000->Ap (λq:List Int×Int=>En x q.1 q.2) (Hs a,(k:Int))=some (Hs (VY n x.Back.toNat a))
 |0,k,a,hk,c,ho=>by
  rw[A0];have hb:En x (Hs a) (k:Int)=some (.inr (Hs a)):=by
   simp only[En];rw[cF]
  simp only[hb];rfl
 |n+1,k,a,hk,c,ho=>by
  have d:ln (Hs a)=(a.length:Int):=by rw[B4,Hs,Bg]
  have e:gi (Hs a) ((a.length:Int)-x.Back)=some (((a[a.length-x.Back.toNat]?).getD 0).toNat:Int):=by
   rw[show(a.length:Int)-x.Back=((a.length-x.Back.toNat:Nat):Int) by omega,Aw,Hs,AP,Ab<|by omega];rfl
  have hb:En x (Hs a) (k:Int)=some (.inl (Hs<|a++ [(a[a.length-x.Back.toNat]?).getD 0],((k+1:Nat):Int))):=by
   simp only[En];rw[cT,d,Cj,e,Aa,BP (by simp[Hs];omega),ad1];simp only[Aa,Hs,Co,BJ,sK]
  rw[A0];simp only[hb];rw[VY];exact Z3 x b hs n (k+1) _ (by omega) (by simp;omega) (by simp;omega)
theorem qH (l:List Bj) (hl:l.length<=64) (a:zS l) (h64:(F9 l).length<=64):Ap (λq:List Int×Int=>Eo l q.1 q.2) ([],0)=some (.inl (Hs (F9 l))):=by
 obtain⟨b,h1,h2⟩:=AS (body:=λq:List Int×Int=>Eo l q.1 q.2) (λ(o:List UInt8) i=>(Hs o,i)) l.length (λi o=>o=F9 (l.take i)) (λb=>b= .inl (Hs<|F9 l))
  (λo i hi ho=>by
   have hx:=Ab hi;have hk:=a i _ hx;have hm:=Og a i (by omega);have d:=Og a (i+1) (by omega);have et:F9 (l.take<|i+1)=WQ o l[i]:=by rw[Ao hi,PB,ho]
   rw[<-ho]at hk hm;rw[et]at d
   have c:∀q:List UInt8,ln (Hs q)=(q.length:Int):=λq=>by rw[B4,Hs,Bg]
   simp only[Eo,Ez hi,Aw,hx,Aa];refine .inl ⟨WQ o l[i],?_,et.symm⟩
   rcases hk with⟨k1,k2,k3,k4⟩|⟨k1,k2,k3,k4,k5⟩
   ·rw[show(l[i].Back==0)=true by simpa using k1,Ae,B9,EB,Ad<|by omega];simp only[Aa,Ah,Ac];rw[show(l[i].Size !=0)=false by simp[k2],yP];simp only[Ac];have e1:ap 1 (Hs o) (Hs<|L l[i].Text)=some (Hs<|WQ o l[i]):=by
     rw[BP (by simp[Hs];omega)];unfold WQ;rw[Ay k1];simp[Hs]
    rw[e1];simp only[Aa,Bz];rw[c,cF,ad1]
   rw[show(l[i].Back==0)=false by simp;omega,Ac,c,EB,Ad<|by omega];simp only[Aa,Ah,Ac];rw[EB,Ad<|by omega];simp only[Aa,Ah,Ac];have e:seq l[i].Text (bs [])=true:=by rw[Lu,A5];exact Lf<|by rw[k5,EY]
   rw[e];simp only[Ah,Ac];have e1:=Z3 l[i] k1 ⟨by omega,k4⟩ l[i].Size.toNat 0 o (by omega) k2 (by omega);rw[show((0:Nat):Int)=0 from rfl]at e1;rw[e1];have e2:VY l[i].Size.toNat l[i].Back.toNat o=WQ o l[i]:=by unfold WQ;grind
   rw[e2];simp only[Aa,Bz]
   rw[c,cF,ad1])
  (λo ho=>⟨.inl<|Hs o,by simp only[Eo,Ec],by grind⟩) (s:=[]) rfl
 rw[<-h2];exact h1
theorem oU (s:ByteArray) (hs:(L s).length<=64):∃z,Fd s=some (z,true)/\Gr z=some (s,true)/\1<=(L z).length:=by
 obtain⟨l,h1,h2,h3,h4⟩:=ADy s hs;have fin:∀z:ByteArray,Fd s=some (z,true)->((Fd s).bind λv3=>(cond (!v3.2) (some true) (some<|!(seq v3.1 z)):Option Bool).bind λj2=>cond j2 (some (bs [],false))<|some (s,true))=some (s,true):=by
  intro z hz;rw[hz];have:seq z z=true:=by rw[Lu];simp
  grind
 rcases h4 with h4|h4
 ·refine⟨_,h4,?_,by rw[EY];simp⟩;have hf:=fin _ h4;generalize hz:bs (122::l.flatMap Na)=z at h4 hf;have hL:L z=122::l.flatMap Na:=by rw[<-hz,EY]
  have h:(L z).length<=3000:=by
   have:∀m:List Bj,(∀x∈m,∃o:List UInt8,okT o x/\o.length<=64)->(m.flatMap Na).length<=32*m.length:=by
    intro m
    induction m with
    |nil=>intro _;simp
    |cons x m ih=>
     intro hm;obtain⟨o,e,f⟩:=hm x (by simp);have:=tW e f
     grind
   have:=this l (λx hx=>by
    obtain⟨i,hi,rfl⟩:=AC hx;have hm:=Og h1 i (by omega);rw[h2]at hm
    exact⟨_,h1 i _<|Ab hi,by omega⟩)
   grind
  unfold Gr;have a:1<=(L z).length:=by rw[hL];simp
  rw[B9,show(((L z).length:Int)==0)=false by grind,Ac];have b:sub z 1 ((L z).length:Int)=some (bs<|l.flatMap Na):=by
   rw[show(1:Int)=((1:Nat):Int)from rfl,FK z a<|Au _];congr 1;apply Lf;rw[IP,EY,AN (by grind),hL];rfl
  have c:sx z 0=some 122:=by
   rw[show(0:Int)=((0:Nat):Int)from rfl,Fl z (i:=0) a];have:(L z)[0]?=some 122:=by rw[hL];rfl
   rw[Ab<|by omega]at this
   injection this with this
   rw[this];rfl
  rw[b,c];simp only[Aa];rw[show((122:Int)==122)=true from rfl];simp only[Ae];have g:(L<|bs<|l.flatMap Na).length<=10000:=by rw[EY];grind
  have d:=Wq (bs<|l.flatMap Na) g l 0 [] (λx hx=>by
    obtain⟨i,hi,rfl⟩:=AC hx;have hm:=Og h1 i (by omega);rw[h2]at hm
    exact⟨_,h1 i _<|Ab hi,by omega⟩) (by rw[EY];rfl) (by omega)<|by simp
  rw[show((0:Nat):Int)=0 from rfl,A6]at d;have ht:Ke (bs<|l.flatMap Na)=some (l,true):=by
   unfold Ke;rw[d];rfl
  have hp:Gb l=some (s,true):=by
   unfold Gb;rw[qH l h3 h1 (by rw[h2];omega),h2];simp only[Aa,Bz];congr 2;apply Lf;rw[vO]
  grind
 refine⟨_,h4,?_,by rw[EY];simp⟩;have hf:=fin _ h4;generalize hz:bs (114::L s)=z at h4 hf;have hL:L z=114::L s:=by rw[<-hz,EY]
 unfold Gr;have a:1<=(L z).length:=by rw[hL];simp
 rw[B9,show(((L z).length:Int)==0)=false by grind,Ac];have b:sub z 1 ((L z).length:Int)=some s:=by
  rw[show(1:Int)=((1:Nat):Int)from rfl,FK z a<|Au _];congr 1;apply Lf;rw[IP,AN (by grind),hL];rfl
 have c:sx z 0=some 114:=by
  rw[show(0:Int)=((0:Nat):Int)from rfl,Fl z (i:=0) a];have:(L z)[0]?=some 114:=by rw[hL];rfl
  rw[Ab<|by omega]at this
  injection this with this
  rw[this];rfl
 grind
theorem Wa (a b:List ByteArray):Pr (a++b)=Pr a++Pr b:=by unfold Pr;rw[R8]
theorem vF (a b:List Cy):Hr (a++b)=Hr a++Hr b:=by unfold Hr;rw[R8]
def Ct (seq tx:Int) (T:List ByteArray):List Page:=T.mapIdx λi t=>Page.mk 2 (seq+i) tx i T.length t
theorem wO (a:List Cy) (hr:a.length<=1048576) (j:∀r∈a,GL r=true):∃T:List ByteArray,Ap (λs:List ByteArray×Int=>Em a s.1 s.2) ([bs []],0)=some (.inl T)/\1<=T.length/\T.length<=1+a.length/\Pr T=Hr a/\∀t∈T,(L t).length<=90:=by
 obtain⟨b,h1,T,h2,h3⟩:=AS (body:=λs:List ByteArray×Int=>Em a s.1 s.2) (λ(o:List ByteArray) i=>(o,i)) a.length
  (λi T=>1<=T.length/\T.length<=1+i/\Pr T=Hr (a.take i)/\∀t∈T,(L t).length<=90)
  (λb=>∃T:List ByteArray,b= .inl T/\1<=T.length/\T.length<=1+a.length/\Pr T=Hr a/\∀t∈T,(L t).length<=90)
  (λT i hi hT=>by
   obtain⟨k,l,g,h⟩:=hT;have hx:=Ab hi;obtain⟨t,t1,t2⟩:=iE<|j _<|A3 hi;have m:=zA<|j _<|A3 hi;rw[<-t2]at m;have et:Hr (a.take<|i+1)=Hr (a.take i)++L t:=by rw[Ao hi,vF,t2];simp[Hr]
   rcases Hx T with e|⟨T0,c,e⟩
   ·subst e;simp at k
   rw[Hy]at e;subst e;have n:ln (T0++ [c])=((T0.length+1:Nat):Int):=by rw[B4];simp
   rw[Ai,A8]at k l;have p:sb (ln<|T0++ [c]) 1=(T0.length:Int):=by rw[n,Cj];omega
   have q:gi (T0++ [c]) (T0.length:Int)=some c:=Fv _ _;have u:=h c (by simp);rw[Wa]at g;simp only[Em,Ez hi,Aw,hx,Aa];rw[t1];simp only[Aa,Ah,Ac];rw[p,q];simp only[Aa];rw[B9,B9,C6,ad1];refine .inl ?_;by_cases f:((L c).length:Int)+((L t).length:Int)>90
   ·rw[Ad f,Ae,BP (by simp;omega)];refine⟨T0++ [c]++ [t],rfl,by simp,by simp;omega,?_,λx d=>?_⟩
    ·rw[Wa,Wa,et,g];simp[Pr]
    rw[Al,AE]at d
    rcases d with d|rfl
    ·exact h x d
    omega
   rw[Af f,Ac,FU _ _<|by omega];simp only[Aa];rw[Kb];refine⟨T0++ [c++t],rfl,by simp,by simp;omega,?_,λx d=>?_⟩
   ·rw[Wa,et,<-g];simp[Pr,DZ]
   rw[Al,AE]at d
   rcases d with d|rfl
   ·exact h x<|by simp[d]
   rw[DZ,Ai];omega)
  (λT hT=>⟨_,by simp only[Em,Ec],T,rfl,hT.1,hT.2.1,by rw[hT.2.2.1,Bc],hT.2.2.2⟩) (s:=[bs []]) ⟨by simp,by simp,by simp[Pr,Hr,EY],λt ht=>by rw[AE]at ht;rw[ht,EY];simp⟩
 subst h2;exact⟨T,h1,h3⟩
theorem wP (seq tx:Int) (a:List Cy) (hr:a.length<=1000) (c:∀r∈a,GL r=true):∃T:List ByteArray,1<=T.length/\Pr T=Hr a/\(∀t∈T,(L t).length<=90)/\T.length<=1+a.length/\
  ((IS seq tx a=some (Ct seq tx T,true)/\T.length<=9/\1<=seq/\seq+T.length-1<=1000000000/\1<=tx/\tx<=1000000000)\/(IS seq tx a=some ([],false)/\¬(T.length<=9/\1<=seq/\seq+T.length-1<=1000000000/\1<=tx/\tx<=1000000000))):=by
 obtain⟨T,h1,h2,h2',h3,h4⟩:=wO a (by omega) c;refine⟨T,h2,h3,h4,h2',?_⟩;unfold IS;rw[h1];simp only[Aa,Bz];rw[B4];by_cases h9:(T.length:Int)>9
 ·rw[Ad h9];exact .inr ⟨rfl,λhh=>by omega⟩
 rw[Af h9];simp only[Ac];rw[Cj,C6,EB,EB];simp only[Aa];by_cases hs:1<=seq/\seq<=1000000000-(T.length:Int)+1
 ·rw[Ad hs];simp only[Ah,Ac];by_cases ht:1<=tx/\tx<=1000000000
  ·rw[Ad ht];simp only[Ah,Ac,Aa];left;obtain⟨b,q1,q2⟩:=AS (body:=λs:List Page×Int=>Gs seq tx T s.1 s.2) (λ(o:List Page) i=>(o,i)) T.length (λi o=>o=(Ct seq tx T).take i) (λb=>b=Ct seq tx T)
    (λo i hi ho=>by
     have hx:=Ab hi;have e:o.length<=i:=by rw[ho,AW];omega
     simp only[Gs,Ez hi,Aw,hx,Aa];rw[C6,B4,BP (by simp;omega),Aa,ad1];refine .inl ⟨_,rfl,?_⟩;have d:(Ct seq tx T)[i]?=some (Page.mk 2 (seq+i) tx i T.length T[i]):=by unfold Ct;rw[Li,hx];rfl
     rw[Ei,d,ho]
     rfl)
    (λo ho=>⟨o,by simp only[Gs,Ec],by rw[ho,AN];unfold Ct;rw[TA];exact Au _⟩) (s:=[]) rfl
   rw[q1,q2];exact⟨rfl,by omega,by omega,by omega,ht.1,ht.2⟩
  rw[Af ht];exact .inr ⟨rfl,λhh=>ht ⟨hh.2.2.2.1,hh.2.2.2.2⟩⟩
 rw[Af hs];exact .inr ⟨rfl,λhh=>hs ⟨hh.2.1,by omega⟩⟩
def Steps:Flash->List Bh->Flash->Prop
 |f,[],g=>g=f
 |f,s::ss,g=>Ud f s/\Steps (Ka f s) ss g
theorem NJ:∀(f:Flash) (a b:List Bh) (g:Flash),Steps f (a++b) g↔∃m,Steps f a m/\Steps m b g
 |f,[],b,g=>⟨λh=>⟨f,rfl,h⟩,λ⟨m,h1,h2⟩=>by rw[h1]at h2;exact h2⟩
 |f,s::a,b,g=>by
  rw[B5];simp only[Steps,NJ];constructor
  ·rintro⟨h1,m,h2,h3⟩;exact⟨m,⟨h1,h2⟩,h3⟩
  rintro⟨m,⟨h1,h2⟩,h3⟩;exact⟨h1,m,h2,h3⟩
theorem YE:∀{f:Flash} {a:List Bh} {g:Flash},BE f->Steps f a g->BE g
 |f,[],g,hf,h=>by rw[h];exact hf
 |f,s::a,g,hf,h=>YE (tC hf h.1) h.2
theorem sD {m:Flash} (h:Steps f a m) (hs:Ud m s):Steps f (a++ [s]) (Ka m s):=(NJ f a [s] _).2 ⟨m,h,hs,rfl⟩
theorem mP (hf:BE f) (h:Steps f a g) (ha:a.length<=1048576):Kk f a=some (g,(a.length:Int)):=by
 unfold Kk;rw[Da f hf.cap];simp only[Aa];obtain⟨b,h1,h2⟩:=AS (body:=λs:Int×List Block=>Er a s.1 s.2) (λ(o:List Block) i=>(i,o)) a.length (λi o=>Steps f (a.take i) (Flash.mk o)/\Steps (Flash.mk o) (a.drop i) g) (λb=>b= .inl g.Blocks)
  (λo i hi hs=>by
   have hx:=Ab hi;obtain⟨s1,s2⟩:=hs;rw[AT hi]at s2;simp only[Er,Ez hi,Aw,hx,Aa];have hP:=YE hf s1
   rcases Un hP a[i]with⟨k1,k2⟩|⟨k1,k2⟩
   ·rw[k2];simp only[Aa,Ah,Ac];rw[ad1];refine .inl ⟨(Ka (Flash.mk o) a[i]).Blocks,rfl,?_,s2.2⟩;rw[Ao hi];exact sD s1 k1
   exact absurd s2.1 k1)
  (λo hs=>⟨.inl o,by simp only[Er,Ec],by
   have:=hs.2;rw[List.drop_length]at this
   rw[show g=Flash.mk o from this]⟩) (s:=f.Blocks) ⟨rfl,h⟩
 rw[h1,h2];rfl
def Jl:Flash->List Bh->List Page->Flash->Prop
 |f,[],[],g=>g=f
 |f,s::ss,p::ps,g=>s.Kind=1/\nE f s.Block s.Leaf s.Text/\F7 s.Text=some (p,true)/\Jl (Ka f s) ss ps g
 |_,_,_,_=>False
theorem Fw:∀{f:Flash} {ss:List Bh} {ps:List Page} {g:Flash},Jl f ss ps g->Steps f ss g/\ss.length=ps.length
 |f,[],[],g,h=>⟨h,rfl⟩
 |f,s::ss,p::ps,g,h=>⟨⟨.inl ⟨h.1,h.2.1⟩,(Fw h.2.2.2).1⟩,by rw[A7,A7,(Fw h.2.2.2).2]⟩
 |f,[],p::ps,g,h=>h.elim
 |f,s::ss,[],g,h=>h.elim
theorem bL:∀{f:Flash} {ss:List Bh} {ps:List Page} {g:Flash} {b l:Int} {t:ByteArray} {p:Page},Jl f ss ps g->nE g b l t->F7 t=some (p,true)->Jl f (ss++ [Bh.mk 1 b l t]) (ps++ [p]) (Uv g b l (Leaf.mk 1 t))
 |f,[],[],g,b,l,t,p,h,h1,h2=>by
  have:g=f:=h;subst this;exact⟨rfl,h1,h2,by unfold Ka;rfl⟩
 |f,s::ss,q::ps,g,b,l,t,p,h,h1,h2=>⟨h.1,h.2.1,h.2.2.1,bL h.2.2.2 h1 h2⟩
 |f,[],q::ps,g,b,l,t,p,h,h1,h2=>h.elim
 |f,s::ss,[],g,b,l,t,p,h,h1,h2=>h.elim
def Cn (ss:List Bh) (ps:List Page):List Ar:=List.zipWith (λs p=>Ar.mk s.Block s.Leaf p) ss ps
def G3:Int->List Page->Prop
 |_,[]=>True
 |n,p::ps=>n<=p.Seq/\G3 (p.Seq+1) ps
theorem bM:∀{f:Flash} {ss:List Bh} {ps:List Page} {g:Flash} {r:List Ar} {n:Int},BE f->SR (Jq 0 f.Blocks) r->Jl f ss ps g->(∀y∈r,y.Page.Seq<n)->G3 n ps->SR (Jq 0 g.Blocks) (r++Cn ss ps)
 |f,[],[],g,r,n,hf,a,h,hn,ha=>by
  have:g=f:=h;subst this;unfold Cn;simpa using a
 |f,s::ss,p::ps,g,r,n,hf,a,h,hn,ha=>by
  obtain⟨h1,h2,h3,h4⟩:=h;obtain⟨k1,_,A,B,k2,k3,_⟩:=Uu hf h2;have c:Ka f s=Uv f s.Block s.Leaf (Leaf.mk 1 s.Text):=by unfold Ka;rw[Ay h1]
  rw[c]at h4;have b:SR (Jq 0 (Uv f s.Block s.Leaf<|Leaf.mk 1 s.Text).Blocks) (r++ [Ar.mk s.Block s.Leaf p]):=by
   rw[k3 p<|mW h3]
   refine SR.add (by rw[<-k2];exact a) λx hx=>?_
   have:=hn x hx;have:=ha.1;show x.Page.Seq<p.Seq;omega
  have:=bM k1 b h4 (n:=p.Seq+1) (λy hy=>by
   rw[Al,AE]at hy
   rcases hy with hy|rfl
   ·have:=hn y hy;have:=ha.1;omega
   show p.Seq<p.Seq+1;omega) ha.2
  rw[Ax]at this;exact this
 |f,[],q::ps,g,r,n,hf,a,h,hn,ha=>h.elim
 |f,s::ss,[],g,r,n,hf,a,h,hn,ha=>h.elim
theorem UJ:∀{f:Flash} {ss:List Bh} {ps:List Page} {g:Flash} (k:Nat),Jl f ss ps g->∃m,Jl f (ss.take k) (ps.take k) m
 |f,[],[],g,k,h=>⟨f,by simp[Jl]⟩
 |f,s::ss,p::ps,g,0,h=>⟨f,rfl⟩
 |f,s::ss,p::ps,g,k+1,h=>by
  obtain⟨m,hm⟩:=UJ k h.2.2.2;exact⟨m,h.1,h.2.1,h.2.2.1,hm⟩
 |f,[],q::ps,g,k,h=>h.elim
 |f,s::ss,[],g,k,h=>h.elim
theorem zG {ss:List Bh} {ps:List Page} (hg:BE g) (h:Jl f ss ps g) (hs:ss.length<=1000) (p:Page):
  (∃s g',DW g ss p=some (g',ss++ [s],true)/\Jl f (ss++ [s]) (ps++ [p]) g'/\BE g'/\J6 p/\Ux g s.Block s.Leaf)\/DW g ss p=some (g,ss,false):=by
 by_cases hp:J6 p
 ·obtain⟨t,t1,t2,t3,t4⟩:=vJ hp
  rcases Zg hg ss (by omega) p t1 (λ_=>⟨t2,t3⟩)with⟨_,b,l,q1,_,q2⟩|q
  ·left;have hm:nE g b l t:=by
    obtain⟨x,a1,a2,a3,a4⟩:=q1;exact⟨x,a1,a2,a3,a4,t2,t3⟩
   exact⟨_,_,q2,bL h hm t4,(Uu hg hm).1,hp,q1⟩
  exact .inr q
 rcases Zg hg ss (by omega) p (zJ hp) (λhh=>by cases hh)with⟨hh,_⟩|q
 ·cases hh
 exact .inr q
end Go.TI
