/- The law on moves. No condition; no program is in sight. -/
import Derived.Test.YtpafpcbnmplkfaaGreatMOP1
set_option linter.unusedVariables false
set_option linter.unusedSimpArgs false
namespace Go.TI
open Go
noncomputable def dS (t:ByteArray):Option Page:=match Fu t with
 |some (p,true)=>some p
 |_=>none
noncomputable def pg (i k:Int) (x:Leaf):List Al:=if x.Is=1 then(match dS x.Text with
 |some p=>[Al.mk i k p]
 |none=>[])else []
noncomputable def UM (i:Int):Int->List Leaf->List Al
 |_,[]=>[]
 |k,x::l=>pg i k x++UM i (k+1) l
noncomputable def LX:Int->List Block->List Al
 |_,[]=>[]
 |i,b::l=>UM i 0 b.Leaves++LX (i+1) l
theorem Wq (i:Int):∀(k:Int) (l m:List Leaf),UM i k (l++m)=UM i k l++UM i (k+l.length) m
 |k,[],m=>by simp [UM]
 |k,x::l,m=>by
  rw [BB,UM,Wq i (k+1) l m,UM,Aq,Ay];congr 3;omega
theorem QO:∀(i:Int) (l m:List Block),LX i (l++m)=LX i l++LX (i+l.length) m
 |i,[],m=>by simp [LX]
 |i,x::l,m=>by
  rw [BB,LX,QO (i+1) l m,LX,Aq,Ay];congr 3;omega
theorem AFd {i k:Int} {x:Leaf} {y:Al} (h:y∈pg i k x):y.Block=i/\y.Leaf=k/\x.Is=1/\dS x.Text=some y.Page:=by
 unfold pg at h;split at h
 ·split at h
  ·rename_i h1 _ p h2;rw [A3]at h;subst h;exact⟨rfl,rfl,h1,h2⟩
  cases h
 cases h
theorem kD {i:Int}:∀{k:Int} {l:List Leaf} {y:Al},y∈UM i k l->y.Block=i/\k<=y.Leaf/\y.Leaf<k+l.length
 |k,[],y,h=>by cases h
 |k,x::l,y,h=>by
  rw [UM,Ak]at h;rw [Ay]
  rcases h with h|h
  ·obtain⟨h1,h2,_⟩:=AFd h;exact⟨h1,by omega,by omega⟩
  obtain⟨h1,h2,h3⟩:=kD h;exact⟨h1,by omega,by omega⟩
theorem kE:∀{i:Int} {l:List Block} {y:Al},y∈LX i l->i<=y.Block/\y.Block<i+l.length
 |i,[],y,h=>by cases h
 |i,x::l,y,h=>by
  rw [LX,Ak]at h;rw [Ay]
  rcases h with h|h
  ·obtain⟨h1,_⟩:=kD h;exact⟨by omega,by omega⟩
  obtain⟨h1,h2⟩:=kE h;exact⟨by omega,by omega⟩
theorem IT {α:Type} {l:List α} {k:Nat} {x:α} (h:l[k]?=some x):l=l.take k++x::l.drop (k+1)/\(l.take k).length=k:=by
 have hk:=(Ah.1 h).1;have h2:=Bh hk;rw [(Ah.1 h).2]at h2;exact⟨by rw [<-h2,Bu],by rw [AD];omega⟩
theorem Yy {α:Type} {l:List α} {k:Nat} {x y:α} (h:l[k]?=some x):l.set k y=l.take k++y::l.drop (k+1):=by
 have hk:=(Ah.1 h).1;exact List.set_eq_take_append_cons_drop.trans (A4 hk)
theorem vY {l:List Block} {i k:Nat} {b:Block} {x:Leaf} (hb:l[i]?=some b) (hx:b.Leaves[k]?=some x):∃A B,LX 0 l=A++pg i k x++B/\∀bd w y,LX 0 (l.set i (Block.mk bd w (b.Leaves.set k y)))=A++pg i k y++B:=by
 obtain⟨h1,h2⟩:=IT hb;obtain⟨h3,h4⟩:=IT hx;refine⟨LX 0 (l.take i)++UM i 0 (b.Leaves.take k),UM i ((k:Int)+1) (b.Leaves.drop (k+1))++LX ((i:Int)+1) (l.drop (i+1)),?_,λbd w y=>?_⟩
 ·conv=>lhs;rw [h1]
  rw [QO,h2,LX,Wf]
  conv=>lhs;rw [h3]
  rw [Wq,h4,UM,Wf];simp only [Aq]
 rw [Yy hb,QO,h2,LX,Wf,Yy hx,Wq,h4,UM,Wf];simp only [Aq]
theorem qM {l:List Block} {i:Nat} {b b':Block} (hb:l[i]?=some b) (h0:UM i 0 b'.Leaves=[]):LX 0 (l.set i b')=(LX 0 l).filter λy=>y.Block !=(i:Int):=by
 obtain⟨h1,h2⟩:=IT hb;rw [Yy hb]
 conv=>rhs;rw [h1]
 rw [QO,QO,h2,LX,LX,Wf,h0,AQ,AQ];have e1:(LX 0 (l.take i)).filter (λy=>y.Block !=(i:Int))=LX 0 (l.take i):=by
  rw [Gp];intro y hy;have:=(kE hy).2;rw [h2]at this;simp;omega
 have e2:(UM i 0 b.Leaves).filter (λy=>y.Block !=(i:Int))=[]:=by
  rw [BN];intro y hy;have:=(kD hy).1;simp [this]
 have e3:(LX ((i:Int)+1) (l.drop (i+1))).filter (λy=>y.Block !=(i:Int))=LX ((i:Int)+1) (l.drop (i+1)):=by
  rw [Gp];intro y hy;have:=(kE hy).1;simp;omega
 rw [e1,e2,e3]
def lfP (x:Leaf):Prop:=(x.Is=0/\L x.Text=[])\/(x.Is=1/\1<=(L x.Text).length/\(L x.Text).length<=120)\/(x.Is=2/\(L x.Text).length<=120)
def ABw (l:List Leaf):Prop:=∀(k:Nat) x y,l[k]?=some x->l[k+1]?=some y->x.Is=0->y.Is=0
structure KJ (b:Block):Prop where
 four:b.Leaves.length=4
 wear:0<=b.Wear/\b.Wear<=1000000000
 leaf:∀x∈b.Leaves,lfP x
 turn:ABw b.Leaves
structure Co (f:Flash):Prop where
 n:3<=f.Blocks.length/\f.Blocks.length<=10
 blk:∀b∈f.Blocks,KJ b
theorem ACw (x:Leaf):∃v,Ml x=some v/\(v=true↔lfP x):=by
 unfold Ml lfP;by_cases h0:x.Is=0
 ·rw [show(x.Is==0)=true by simpa using h0];refine⟨_,rfl,?_⟩;rw [J9,A9];constructor
  ·intro h;exact .inl ⟨h0,by rw [h];rfl⟩
  rintro(h|h|h)
  ·exact HY (by rw [h.2];rfl)
  ·omega
  omega
 rw [show(x.Is==0)=false by simpa using h0];simp only [Ac];by_cases h1:x.Is=1
 ·rw [show(x.Is==1)=true by simpa using h1,EE,BO];refine⟨_,rfl,?_⟩;rw [A9];omega
 rw [show(x.Is==1)=false by simpa using h1];simp only [Ac];by_cases h2:x.Is=2
 ·rw [show(x.Is==2)=true by simpa using h2,BO];refine⟨_,rfl,?_⟩;rw [A9];omega
 rw [show(x.Is==2)=false by simpa using h2];exact⟨_,rfl,by simp only [BR,Re];omega⟩
theorem tN (f:Flash) (h:L8 f):∃v,FT f=some v/\(v=true↔Co f):=by
 unfold FT;obtain⟨r,h1,h2⟩:=Bq (body:=λs:Int=>Eb f s) (λ(_:Unit) i=>i) f.Blocks.length (λi _=>∀j b,j<i->f.Blocks[j]?=some b->KJ b) (λr=>(r= .inr false/\¬∀b∈f.Blocks,KJ b)\/r= .inl ()/\∀b∈f.Blocks,KJ b)
  (λ_ i hi hs=>by
   have hx:=Ab hi;have hm:f.Blocks[i]∈f.Blocks:=AJ hi;have m:=h.2 _ hm;have o:=h.1;simp only [Eb,AH,Ad hi,Ae,AF,hx,Aa];by_cases h4:f.Blocks[i].Leaves.length=4
   ·rw [show(ln f.Blocks[i].Leaves !=4)=false by simp [ln,h4]];simp only [Ac];rw [EE];simp only [Aa];by_cases hw:0<=f.Blocks[i].Wear/\f.Blocks[i].Wear<=1000000000
    ·rw [Ad hw];simp only [Ao,Ac];obtain⟨q,q1,q2⟩:=Bq (body:=λs:Int=>Ea f.Blocks[i] s) (λ(_:Unit) i=>i) f.Blocks[i].Leaves.length
      (λk _=>(∀j x,j<k->f.Blocks[i].Leaves[j]?=some x->lfP x)/\∀(j:Nat) x y,j+1<k->f.Blocks[i].Leaves[j]?=some x->f.Blocks[i].Leaves[j+1]?=some y->x.Is=0->y.Is=0)
      (λr=>(r= .inr (.inr (.inr false))/\¬((∀x∈f.Blocks[i].Leaves,lfP x)/\ABw f.Blocks[i].Leaves))\/r= .inl ()/\(∀x∈f.Blocks[i].Leaves,lfP x)/\ABw f.Blocks[i].Leaves)
      (λ_ k hk d=>by
       have g:=Ab hk;simp only [Ea,AH,Ad hk,Ae,AF,g,Aa];obtain⟨v,v1,v2⟩:=ACw f.Blocks[i].Leaves[k];rw [v1];simp only [Aa]
       cases hv:v with
       |false=>
        refine .inr ⟨_,rfl,.inl ⟨rfl,λhh=>?_⟩⟩;have:=v2.2 (hh.1 _ (AJ hk));rw [hv]at this;cases this
       |true=>
        have l:=v2.1 hv;simp only [Ao,Ac];by_cases p:k=0
        ·rw [Af (by omega)];simp only [Ac,Aa];rw [ad1 (by omega)];refine .inl ⟨(),rfl,λj x hj a=>?_,λj x y hj=>by omega⟩;obtain rfl:j=k:=by omega
         rw [g]at a
         injection a with a
         rw [<-a];exact l
        rw [Ad (by omega)];simp only [Ae];rw [Cw (by omega) (by omega),show(k:Int)-1=((k-1:Nat):Int) by omega,AF,Ab (by omega)];simp only [Aa];have good:(f.Blocks[i].Leaves[k-1].Is=0->f.Blocks[i].Leaves[k].Is=0)->(∀j x,j<k+1->f.Blocks[i].Leaves[j]?=some x->lfP x)/\∀(j:Nat) x y,j+1<k+1->f.Blocks[i].Leaves[j]?=some x->f.Blocks[i].Leaves[j+1]?=some y->x.Is=0->y.Is=0:=by
         intro hg;refine⟨λj x hj a=>?_,λj x y hj a c h0=>?_⟩
         ·by_cases e:j=k
          ·subst e;rw [g]at a
           injection a with a
           rw [<-a];exact l
          exact d.1 j x (by omega) a
         by_cases e:j+1=k
         ·obtain rfl:j=k-1:=by omega
          rw [Ab (by omega)]at a
          injection a with a
          rw [show k-1+1=k by omega,g]at c
          injection c with c
          rw [<-c];exact hg (by rw [a];exact h0)
         exact d.2 j x y (by omega) a c h0
        cases e0:(f.Blocks[i].Leaves[k-1].Is==0)with
        |false=>
         simp only [Ac,Aa];rw [ad1 (by omega)];exact .inl ⟨(),rfl,good (λhh=>by rw [hh]at e0;cases e0)⟩
        |true=>
         simp only [Ae,Aa]
         cases e1:(f.Blocks[i].Leaves[k].Is !=0)with
         |false=>
          simp only [Ac];rw [ad1 (by omega)];exact .inl ⟨(),rfl,good (λ_=>by simpa using e1)⟩
         |true=>
          refine .inr ⟨_,rfl,.inl ⟨rfl,λhh=>?_⟩⟩;have:=hh.2 (k-1) _ _ (Ab (by omega)) (by rw [show k-1+1=k by omega];exact g) (by simpa using e0)
          simp [this]at e1)
      (λ_ d=>⟨_,by simp only [Ea,AH,As,Aw,Ac],.inr ⟨rfl,λx a=>by
       obtain⟨j,hj,rfl⟩:=AG a
       exact d.1 j _ hj (Ab hj),λj x y a c=>d.2 j x y (Ah.1 c).1 a c⟩⟩) (s:=()) ⟨λj x hj=>by omega,λj x y hj=>by omega⟩
     have q1':Av (λs:Int=>Ea f.Blocks[i] s) 0=some q:=q1;rw [q1']
     rcases q2 with⟨rfl,q2⟩|⟨rfl,q2,q3⟩
     ·exact .inr ⟨_,rfl,.inl ⟨rfl,λhh=>q2 ⟨(hh _ hm).leaf,(hh _ hm).turn⟩⟩⟩
     simp only [Aa,BX];rw [ad1 (by omega)];refine .inl ⟨(),rfl,λj b hj hb=>?_⟩;by_cases e:j=i
     ·subst e;rw [hx]at hb
      injection hb with hb
      rw [<-hb];exact⟨h4,hw,q2,q3⟩
     exact hs j b (by omega) hb
    rw [Af hw];exact .inr ⟨_,rfl,.inl ⟨rfl,λhh=>hw (hh _ hm).wear⟩⟩
   rw [show(ln f.Blocks[i].Leaves !=4)=true by simp [ln];omega]
   exact .inr ⟨_,rfl,.inl ⟨rfl,λhh=>h4 (hh _ hm).four⟩⟩)
  (λ_ hs=>⟨_,by simp only [Eb,AH,As,Aw,Ac],.inr ⟨rfl,λb hb=>by
   obtain⟨j,hj,rfl⟩:=AG hb
   exact hs j _ hj (Ab hj)⟩⟩) (s:=()) (λj b hj=>by omega)
 have h1':Av (λs:Int=>Eb f s) 0=some r:=h1;rw [h1']
 rcases h2 with⟨rfl,h2⟩|⟨rfl,h2⟩
 ·exact⟨_,rfl,by simp only [BR,Re];exact λhh=>h2 hh.blk⟩
 simp only [Aa,BX];rw [EE,Cf];refine⟨_,rfl,?_⟩;rw [A9];constructor
 ·intro hh;exact⟨by omega,h2⟩
 intro hh;have:=hh.n;omega
theorem Co.cap {f:Flash} (h:Co f):L8 f:=⟨by have:=h.n;omega,λb hb=>by rw [(h.blk b hb).four];omega⟩
theorem Co.text {f:Flash} (h:Co f):∀b∈f.Blocks,∀x∈b.Leaves,(L x.Text).length<=120:=λb hb x hx=>by
 rcases(h.blk b hb).leaf x hx with h|h|h
 ·rw [h.2];simp
 ·exact h.2.2
 exact h.2
theorem Rn {f:Flash} (h:Co f):FT f=some true:=by
 obtain⟨v,h1,h2⟩:=tN f h.cap;rw [h1,h2.2 h]
theorem Co.few {f:Flash} (h:Co f):nl f.Blocks<=40:=by
 have:∀l:List Block,(∀b∈l,KJ b)->nl l=4*l.length:=by
  intro l
  induction l with
  |nil=>intro _;rfl
  |cons b l ih=>
   intro hh;have h1:=ih (λx hx=>hh x (by simp [hx]));have h2:=(hh b (by simp)).four;unfold Go.TI.nl at h1⊢;rw [BV,Ox,Ay,h1,h2];omega
 rw [this _ h.blk];have:=h.n;omega
end Go.TI
namespace Go.TI
open Go
def Vu (y:Al):Int:=y.Page.Seq
def SR (l r:List Al):Prop:=srt Vu r/\Ce Vu l r
theorem SR.uniq {l r r':List Al} (h:SR l r) (h':SR l r'):r=r':=O6 Vu h.1 h'.1 (λk=>by rw [h.2 k,<-h'.2 k])
theorem SR.mem {l r:List Al} (h:SR l r) {y:Al}:y∈r↔y∈l:=h.2.mem
theorem SR.filter {l r:List Al} (h:SR l r) (p:Al->Bool):SR (l.filter p) (r.filter p):=by
 refine⟨h.1.filter _,λk=>?_⟩;have:=h.2 k;rw [GG,GG]
 have e:∀m:List Al,m.filter (λx=>(Vu x==k)&&p x)=(m.filter λx=>Vu x==k).filter p:=λm=>by
  rw [GG];congr 1;funext x;exact Bool.and_comm _ _
 rw [e,e,this]
theorem SR.add {A B r:List Al} {y:Al} (h:SR (A++B) r) (hy:∀x∈r,Vu x<Vu y):SR (A++ [y]++B) (r++ [y]):=by
 refine⟨?_,λk=>?_⟩
 ·unfold srt;rw [AX];refine⟨h.1,Iz _ _,λx hx z hz=>?_⟩;rw [A3]at hz;subst hz;have:=hy x hx;omega
 have h2:=h.2 k;rw [AQ]at h2;rw [AQ,AQ,AQ];by_cases e:Vu y=k
 ·have e1:∀x∈A++B,¬(Vu x==k)=true:=λx hx=>by
   have:=hy x (h.mem.2 hx);simp;omega
  have a0:A.filter (λx=>Vu x==k)=[]:=BN.2 λx hx=>e1 x (by simp [hx])
  have b0:B.filter (λx=>Vu x==k)=[]:=BN.2 λx hx=>e1 x (by simp [hx])
  rw [a0,b0]at h2⊢;rw [h2];simp
 have:[y].filter (λx=>Vu x==k)=[]:=B9 (by simpa using e);rw [this,Az,Az];exact h2
theorem qL {t:ByteArray} {p:Page} (h:Fu t=some (p,true)):dS t=some p:=by unfold dS;rw [h]
theorem ABg {f:Flash} (h:Co f):Av (λs:List Al×Int=>Ey f s.1 s.2) ([],0)=some (LX 0 f.Blocks):=by
 have hn:=h.n;obtain⟨X,h1,h2⟩:=Bq (body:=λs:List Al×Int=>Ey f s.1 s.2) (λs i=>(s,i)) f.Blocks.length (λi o=>o=LX 0 (f.Blocks.take i)/\o.length<=4*i) (λb=>b=LX 0 f.Blocks)
  (λout i hi hs=>by
   obtain⟨ho,l⟩:=hs;have hb:f.Blocks[i]?=some f.Blocks[i]:=Ab hi;have hm:f.Blocks[i]∈f.Blocks:=AJ _;have h4:=(h.blk _ hm).four;refine .inl ?_;simp only [Ey,AH,Ad hi,Ae];obtain⟨u,q1,q2,q3⟩:=Bq (body:=λs:List Al×Int=>EW f (i:Int) s.1 s.2) (λs i=>(s,i)) f.Blocks[i].Leaves.length (λk u=>u=out++UM i 0 (f.Blocks[i].Leaves.take k)/\u.length<=out.length+k) (λu=>u=out++UM i 0 f.Blocks[i].Leaves/\u.length<=out.length+4)
    (λu k hk hu=>by
     obtain⟨d,m⟩:=hu;have hx:f.Blocks[i].Leaves[k]?=some f.Blocks[i].Leaves[k]:=Ab hk;have g:f.Blocks[i].Leaves[k]∈f.Blocks[i].Leaves:=AJ _
     have j:∀y:Al,ap 72 u [y]=some (u++ [y]):=λy=>C6 (by simp only [Aj];omega)
     have a:∀z,UM i 0 (f.Blocks[i].Leaves.take (k+1))=UM i 0 (f.Blocks[i].Leaves.take k)++z↔pg i k f.Blocks[i].Leaves[k]=z:=by
      intro z;rw [EI,hx,Wq];simp only [Option.toList,UM,Az,AD];rw [show(0:Int)+((min k f.Blocks[i].Leaves.length:Nat):Int)=(k:Int) by omega];exact⟨λe=>List.append_cancel_left e,λe=>by rw [e]⟩
     refine .inl ?_;obtain⟨p,ok,r1,r2,r3,r4⟩:=HX f.Blocks[i].Leaves[k].Text (by have:=h.text _ hm _ g;omega);simp only [EW,AH,Ad hk,Ae,AF,hb,Aa,Vj f h.cap hb hx,j]
     cases c:f.Blocks[i].Leaves[k].Is==1 with
     |false=>
      obtain⟨p',ok',t1,_⟩:=HX (bs []) (by rw [Eg];simp);simp only [Ac,Aa,t1];refine⟨u,by rw [ad1 (by omega)],?_,by omega⟩;rw [d,(a []).2 (by unfold pg;rw [A5 (by simpa using c)]),Az]
     |true=>
      simp only [Ae,Aa,r1]
      cases ok with
      |false=>
       refine⟨u,by simp only [Ac];rw [ad1 (by omega)],?_,by omega⟩;rw [d,(a []).2 (by unfold pg dS;rw [A4 (by simpa using c),r1]),Az]
      |true=>
       refine⟨u++ [Al.mk i k p],by simp only [Ae];rw [ad1 (by omega)],?_,by simp only [Ag,Aj];omega⟩
       rw [d,(a [Al.mk i k p]).2 (by unfold pg;rw [A4 (by simpa using c),qL r1]),Aq])
    (λu hu=>⟨u,by simp only [EW,AF,hb,Aa,AH,As,Aw,Ac],by rw [hu.1,Bb (A0 _)],by omega⟩) (s:=out) ⟨by simp [UM],by omega⟩
   have q1':Av (λs:List Al×Int=>EW f (i:Int) s.1 s.2) (out,0)=some u:=q1;rw [q1'];simp only [Aa];rw [ad1 (by omega)];refine⟨u,rfl,?_,by omega⟩;rw [q2,ho,EI,hb,QO];simp only [Option.toList,LX,Az,AD]
   rw [show(0:Int)+((min i f.Blocks.length:Nat):Int)=(i:Int) by omega])
  (λout hs=>⟨out,by simp only [Ey,AH,As,Aw,Ac],by rw [hs.1,Bb (A0 _)]⟩) (s:=[]) ⟨by simp [LX],by simp⟩
 rw [h2]at h1;exact h1
theorem AFy {f:Flash} (h:Co f):∃r,ADc f r/\SR (LX 0 f.Blocks) r:=by
 have hT:∀b∈f.Blocks,∀x∈b.Leaves,(L x.Text).length<=1048576:=λb hb x hx=>by have:=h.text b hb x hx;omega
 have hn:=h.few;obtain⟨r,h1,h2,h3,h4,h5⟩:=yG f h.cap hT (by omega);refine⟨r,⟨h1,h2,by omega,h4,λy hy=>AB7 hT (h4 y hy),h5⟩,h5,?_⟩;obtain⟨X,c1,_,c3,_⟩:=Si f h.cap hT (by omega);have hX:X=LX 0 f.Blocks:=by
  rw [ABg h]at c1
  injection c1 with c1
  exact c1.symm
 obtain⟨r',s1,s2,s3⟩:=cZ BJ X (by omega);have:Ix f=some r':=by
  unfold Ix;obtain⟨X',c1',c2',_⟩:=Si f h.cap hT (by omega);rw [c1]at c1'
  injection c1' with c1'
  rw [c2',<-c1',Aa,s1];rfl
 rw [h2]at this
 injection this with this
 rw [this,<-hX];exact s3
def L6 (l:List Leaf):Nat:=(l.takeWhile λx=>x.Is !=0).length
theorem wD (l:List Leaf):L6 l<=l.length:=by
 unfold L6;have:=(List.takeWhile_sublist (λx:Leaf=>x.Is !=0) (l:=l)).length_le;exact this
theorem Oa:∀(l:List Leaf),(∀(k:Nat) x,k<L6 l->l[k]?=some x->x.Is≠0)/\(∀x,l[L6 l]?=some x->x.Is=0)
 |[]=>⟨λk x h=>by simp [L6]at h,λx h=>by simp [L6]at h⟩
 |y::l=>by
  obtain⟨h1,h2⟩:=Oa l;by_cases e:y.Is=0
  ·have:L6 (y::l)=0:=by unfold L6;rw [List.takeWhile_cons_of_neg (by simp [e])];rfl
   rw [this];refine⟨λk x hk=>by omega,λx hx=>?_⟩;simp only [D4,Ap]at hx;rw [<-hx];exact e
  have:L6 (y::l)=L6 l+1:=by unfold L6;rw [List.takeWhile_cons_of_pos (by simpa using e)];rfl
  rw [this];refine⟨λk x hk hx=>?_,λx hx=>?_⟩
  ·cases k with
   |zero=>
    simp only [D4,Ap]at hx;rw [<-hx];exact e
   |succ k=>exact h1 k x (by omega) (by simpa using hx)
  exact h2 x (by simpa using hx)
theorem MC (b:Block) (h:b.Leaves.length=4):FZ b=some (L6 b.Leaves:Int):=by
 unfold FZ;obtain⟨h1,h2⟩:=Oa b.Leaves;have a:=wD b.Leaves;obtain⟨r,q1,q2⟩:=Bq (body:=λs:Int=>DX b s) (λ(_:Unit) i=>i) b.Leaves.length (λi _=>i<=L6 b.Leaves) (λr=>(r= .inr (L6 b.Leaves:Int))\/r= .inl ()/\L6 b.Leaves=4)
  (λ_ i hi hs=>by
   have hx:=Ab hi;simp only [DX,AH,Ad hi,Ae,AF,hx,Aa];by_cases e:i=L6 b.Leaves
   ·have:=h2 b.Leaves[i] (by rw [<-e];exact hx);rw [show(b.Leaves[i].Is==0)=true by simpa using this];exact .inr ⟨_,rfl,.inl (by rw [e])⟩
   have:=h1 i b.Leaves[i] (by omega) hx;rw [show(b.Leaves[i].Is==0)=false by simpa using this,Ac,ad1 (by omega)]
   exact .inl ⟨(),rfl,by omega⟩)
  (λ_ hs=>⟨_,by simp only [DX,AH,As,Aw,Ac],.inr ⟨rfl,by omega⟩⟩) (s:=()) (by omega)
 have q1':Av (λs:Int=>DX b s) 0=some r:=q1;rw [q1']
 rcases q2 with rfl|⟨rfl,q2⟩
 ·rfl
 rw [q2];rfl
theorem KJ.blank {b:Block} (h:KJ b) {k:Nat} {x:Leaf} (hk:L6 b.Leaves<=k) (hx:b.Leaves[k]?=some x):x.Is=0:=by
 induction k generalizing x with
 |zero=>
  have:L6 b.Leaves=0:=by omega
  exact(Oa b.Leaves).2 x (by rw [this];exact hx)
 |succ k ih=>
  by_cases e:L6 b.Leaves=k+1
  ·exact(Oa b.Leaves).2 x (by rw [e];exact hx)
  have a:=(Ah.1 hx).1;have hy:b.Leaves[k]?=some b.Leaves[k]:=Ab (by omega);exact h.turn k _ x hy hx (ih (by omega) hy)
theorem Yz {b:Block} (h:KJ b) {k:Nat} (hk:k=L6 b.Leaves) (h4:k<4) {y:Leaf} (hy:lfP y) (a:y.Is≠0):KJ (Block.mk b.Bad b.Wear (b.Leaves.set k y)):=by
 refine⟨by simpa using h.four,h.wear,λx hx=>?_,?_⟩
 ·rcases Dl hx with hx|rfl
  ·exact h.leaf x hx
  exact hy
 intro j x z hx hz h0;have hx':(b.Leaves.set k y)[j]?=some x:=hx;have hz':(b.Leaves.set k y)[j+1]?=some z:=hz;rw [Cz]at hx' hz';by_cases e:k=j
 ·subst e;rw [A4 rfl,A4 (by rw [h.four];exact h4)]at hx'
  injection hx' with hx'
  rw [<-hx']at h0;exact absurd h0 a
 rw [A5 e]at hx';by_cases e2:k=j+1
 ·have:=(Oa b.Leaves).1 j x (by omega) hx';exact absurd h0 this
 rw [A5 e2]at hz';exact h.turn j x z hx' hz' h0
theorem Qw {f:Flash} (h:Co f) {i:Nat} {b:Block} (hb:KJ b):Co (Flash.mk (f.Blocks.set i b)):=by
 refine⟨by have:=h.n;simpa using this,λx hx=>?_⟩
 rcases Dl hx with hx|rfl
 ·exact h.blk x hx
 exact hb
def qZ (f:Flash) (b l:Int) (t:ByteArray):Prop:=∃x,gi f.Blocks b=some x/\x.Bad=false/\l=(L6 x.Leaves:Int)/\L6 x.Leaves<4/\1<=(L t).length/\(L t).length<=120
def prog (f:Flash) (b l:Int) (y:Leaf):Flash:=Flash.mk (match gi f.Blocks b with
 |some x=>si f.Blocks b (Block.mk x.Bad x.Wear (si x.Leaves l y))
 |none=>f.Blocks)
theorem pJ {f:Flash} (h:Co f) (b l:Int) (t:ByteArray):(qZ f b l t/\Ku f b l t=some (prog f b l (Leaf.mk 1 t),true))\/(¬qZ f b l t/\Ku f b l t=some (f,false)):=by
 have hn:=h.n;unfold Ku SF;rw [E6 f h.cap,Rn h];simp only [Aa,Ao,Ac];rw [Cf,Cw (by omega) (by omega),EE];simp only [Aa];by_cases hb:0<=b/\b<=(f.Blocks.length:Int)-1
 ·rw [Ad hb];simp only [Ae];have hg:=Kh (l:=f.Blocks) hb.1 (by omega);have hm:f.Blocks[b.toNat]'(by omega)∈f.Blocks:=AJ _;generalize d:f.Blocks[b.toNat]'(by omega)=x at hg hm;have hP:=h.blk x hm;rw [hg];simp only [Aa]
  cases a:x.Bad with
  |true=>
   refine .inr ⟨?_,rfl⟩;rintro⟨z,hz,h2,_⟩;rw [hg]at hz
   injection hz with hz
   rw [<-hz,a]at h2;cases h2
  |false=>
   simp only [AN,Ae];by_cases c:l<4
   ·rw [Ad c];simp only [Ae];rw [MC x hP.four];simp only [Aa];by_cases hl:l=(L6 x.Leaves:Int)
    ·rw [show(l==(L6 x.Leaves:Int))=true by simpa using hl];simp only [Ae];rw [BO,EE];simp only [Aa];by_cases ht:1<=(L t).length/\(L t).length<=120
     ·rw [Ad (by omega:1<=((L t).length:Int)/\((L t).length:Int)<=120)];simp only [Ao,Ac,Aa];refine .inl ⟨⟨x,hg,a,hl,by omega,ht⟩,?_⟩;rw [Kh (l:=x.Leaves) (i:=l) (by omega) (by rw [hP.four];omega)];simp only [Aa];unfold prog;rw [hg];simp only [a]
     rw [Af (by omega:¬(1<=((L t).length:Int)/\((L t).length:Int)<=120))];refine .inr ⟨?_,rfl⟩;rintro⟨z,hz,_,_,_,h5⟩;exact ht h5
    rw [show(l==(L6 x.Leaves:Int))=false by simpa using hl];refine .inr ⟨?_,rfl⟩;rintro⟨z,hz,_,h3,_⟩;rw [hg]at hz
    injection hz with hz
    rw [<-hz]at h3;exact hl h3
   rw [Af c];refine .inr ⟨?_,rfl⟩;rintro⟨z,hz,_,h3,h4,_⟩;omega
 rw [Af hb];refine .inr ⟨?_,rfl⟩;rintro⟨z,hz,_⟩;obtain⟨k1,k2⟩:=Dy hz;have:=(Ah.1 k2).1;omega
theorem RQ {f:Flash} (h:Co f) {b l:Int} {t:ByteArray} (hm:qZ f b l t):Co (prog f b l (Leaf.mk 1 t))/\Co (prog f b l (Leaf.mk 2 t))/\∃A B,LX 0 f.Blocks=A++B/\(∀p,dS t=some p->LX 0 (prog f b l (Leaf.mk 1 t)).Blocks=A++ [Al.mk b l p]++B)/\(∀u,LX 0 (prog f b l (Leaf.mk 2 u)).Blocks=A++B):=by
 obtain⟨x,h1,h2,rfl,h4,h5⟩:=hm;obtain⟨k1,k2⟩:=Dy h1;obtain⟨c,rfl⟩:∃c:Nat,b=(c:Int):=⟨_,(B6 k1).symm⟩;rw [BA]at k2;have hP:=h.blk x (A8 k2);have hx:x.Leaves[L6 x.Leaves]?=some (x.Leaves[L6 x.Leaves]'(by rw [hP.four];exact h4)):=Ab _;have d:=hP.blank (A0 _) hx
 have a:∀y,prog f (c:Int) (L6 x.Leaves:Int) y=Flash.mk (f.Blocks.set c (Block.mk x.Bad x.Wear (x.Leaves.set (L6 x.Leaves) y))):=λy=>by
  unfold prog;rw [h1];simp only [H7]
 rw [a,a];refine⟨Qw h (Yz hP rfl h4 (.inr (.inl ⟨rfl,h5.1,h5.2⟩)) (by simp)),Qw h (Yz hP rfl h4 (.inr (.inr ⟨rfl,h5.2⟩)) (by simp)),?_⟩;obtain⟨A,B,e1,e2⟩:=vY k2 hx;have z:pg (c:Int) (L6 x.Leaves:Int) (x.Leaves[L6 x.Leaves]'(by rw [hP.four];exact h4))=[]:=by unfold pg;rw [A5 (by rw [d];omega)]
 rw [z,Az]at e1;refine⟨A,B,e1,λp hp=>?_,λu=>?_⟩
 ·rw [e2];congr 2;unfold pg;rw [A4 rfl,hp]
 rw [a,e2];have:pg (c:Int) (L6 x.Leaves:Int) (Leaf.mk 2 u)=[]:=by unfold pg;rw [A5 (by simp)]
 rw [this,Az]
end Go.TI
namespace Go.TI
open Go
theorem ACo {l:List Leaf} (h:∀x∈l,x.Is=0):nb l=l.length:=by
 induction l with
 |nil=>rfl
 |cons x l ih=>
  have h1:=ih (λy hy=>h y (by simp [hy]));unfold nb at h1⊢;rw [BV,Ox,h1,Ws,A4 (by simpa using h x (by simp)),Ay];omega
theorem ADS {l:List Leaf} (h:∀x∈l,x.Is≠0):nb l=0:=by
 induction l with
 |nil=>rfl
 |cons x l ih=>
  have h1:=ih (λy hy=>h y (by simp [hy]));unfold nb at h1⊢;rw [BV,Ox,h1,Ws,A5 (by simpa using h x (by simp))]
theorem AFi (l m:List Leaf):nb (l++m)=nb l+nb m:=by unfold nb;rw [CA,List.sum_append]
theorem KJ.nb {b:Block} (h:KJ b):nb b.Leaves=4-L6 b.Leaves:=by
 have a:=wD b.Leaves;have h4:=h.four;have e:Go.TI.nb b.Leaves=Go.TI.nb (b.Leaves.take (L6 b.Leaves))+Go.TI.nb (b.Leaves.drop (L6 b.Leaves)):=by rw [<-AFi,Bu]
 rw [e,ADS (l:=b.Leaves.take (L6 b.Leaves)),ACo (l:=b.Leaves.drop (L6 b.Leaves)),B8,h4]
 ·omega
 ·intro x hx;obtain⟨k,hk,rfl⟩:=AG hx;rw [B8]at hk;rw [Ss];exact h.blank (k:=L6 b.Leaves+k) (by omega) (Ab _)
 intro x hx;obtain⟨k,hk,rfl⟩:=AG hx;rw [AD]at hk;rw [EK];exact(Oa b.Leaves).1 k _ (by omega) (Ab _)
def RS (f:Flash) (b l:Int):Prop:=∃x,gi f.Blocks b=some x/\x.Bad=false/\l=(L6 x.Leaves:Int)/\L6 x.Leaves<4
theorem aJ {f:Flash} (h:Co f):∃v:Int,Jj f=some v/\((v= -1/\∀b∈f.Blocks,b.Bad=false->L6 b.Leaves=0\/L6 b.Leaves=4)\/∃x,gi f.Blocks v=some x/\x.Bad=false/\L6 x.Leaves<4):=by
 unfold Jj;have hn:=h.n;obtain⟨b,h1,h3⟩:=Bq (body:=λs:Int=>D7 f s) (λ(_:Unit) i=>i) f.Blocks.length (λi _=>∀(j:Nat) b,j<i->f.Blocks[j]?=some b->b.Bad=false->L6 b.Leaves=0\/L6 b.Leaves=4) (λb=>(b= .inl ()/\∀b∈f.Blocks,b.Bad=false->L6 b.Leaves=0\/L6 b.Leaves=4)\/∃i:Nat,∃x,b= .inr (i:Int)/\f.Blocks[i]?=some x/\x.Bad=false/\L6 x.Leaves<4)
  (λ_ i hi hs=>by
   have hg:f.Blocks[i]?=some f.Blocks[i]:=Ab hi;have hP:=h.blk _ (AJ hi);have c:=hP.nb;have h4:=hP.four;have d:=wD f.Blocks[i].Leaves;simp only [D7,AH,Ad hi,Ae];rw [Yg f i hg (by omega)];simp only [Aa,AF,hg];rw [ad1 (by omega)]
   cases a:f.Blocks[i].Bad with
   |true=>
    refine .inl ⟨(),rfl,λj b hj hb h0=>?_⟩;by_cases e:j=i
    ·subst e;rw [hg]at hb
     injection hb with hb
     rw [<-hb,a]at h0;cases h0
    exact hs j b (by omega) hb h0
   |false=>
    simp only [AN,Ae];by_cases e:0<L6 f.Blocks[i].Leaves/\L6 f.Blocks[i].Leaves<4
    ·rw [Ad (by omega),Ad (by omega)];exact .inr ⟨_,rfl,.inr ⟨i,_,rfl,hg,a,e.2⟩⟩
    have:(bif decide (((nb f.Blocks[i].Leaves:Nat):Int)>0)then(some (decide (((f.Blocks[i].Leaves.length-nb f.Blocks[i].Leaves:Nat):Int)>0)))else(some false):Option Bool)=some false:=by
     by_cases e2:nb f.Blocks[i].Leaves=0
     ·rw [Af (by omega)];rfl
     rw [Ad (by omega),Af (by omega)];rfl
    rw [this];refine .inl ⟨(),rfl,λj b hj hb h0=>?_⟩;by_cases e:j=i
    ·subst e;rw [hg]at hb
     injection hb with hb
     rw [<-hb];omega
    exact hs j b (by omega) hb h0)
  (λ_ hs=>⟨_,by simp only [D7,AH,As,Aw,Ac],.inl ⟨rfl,λb hb=>by
   obtain⟨j,hj,rfl⟩:=AG hb
   exact hs j _ hj (Ab hj)⟩⟩) (s:=()) (λj b hj=>by omega)
 have h1':Av (λs:Int=>D7 f s) 0=some b:=h1;rw [h1']
 rcases h3 with⟨rfl,h3⟩|⟨i,x,rfl,h4,h5,h6⟩
 ·exact⟨-1,rfl,.inl ⟨rfl,h3⟩⟩
 exact⟨(i:Int),rfl,.inr ⟨x,by rw [AF];exact h4,h5,h6⟩⟩
theorem pP {f:Flash} (h:Co f):∃b l:Int,∃ok:Bool,Kv f=some (b,l,ok)/\(ok=true->RS f b l)/\(ok=false->∀b∈f.Blocks,b.Bad=false->L6 b.Leaves=4):=by
 have hn:=h.n;obtain⟨o,o1,o2⟩:=aJ h;obtain⟨e1,_⟩:=R8 f h.cap;unfold Kv;rw [Rn h,o1,e1];simp only [Aa,Ao,Ac]
 rcases o2 with⟨rfl,o2⟩|⟨x,o2,o3,o4⟩
 ·rw [Af (by omega)];simp only [Ac];have a:∀y∈Ol f,RS f y 0:=by
   intro y hy;unfold Ol at hy;obtain⟨i,hi,rfl⟩:=AO.1 hy;obtain⟨c,d⟩:=AK.1 hi;rw [GF]at c;unfold MN at d;rw [Ab c]at d;simp only [An,Dg,A9]at d;have hP:=h.blk _ (AJ c);have:=hP.nb;have:=hP.four;exact⟨_,by rw [AF];exact Ab c,d.1,by omega,by omega⟩
  cases j:Ol f with
  |nil=>
   refine⟨0,0,false,rfl,by simp,λ_ b hb g=>?_⟩
   rcases o2 b hb g with e|e
   ·obtain⟨i,hi,rfl⟩:=AG hb;have hm:(i:Int)∈Ol f:=by
     unfold Ol;refine AO.2 ⟨i,AK.2 ⟨GF.2 hi,?_⟩,rfl⟩;unfold MN;rw [Ab hi];have hP:=h.blk _ (AJ hi);have:=hP.nb;have:=hP.four;simp only [g,AN,C8,A9];omega
    rw [j]at hm;cases hm
   exact e
  |cons x l=>
   rw [j]at a;have t:(x::l).length<=10:=by
    rw [<-j];unfold Ol;rw [Bo];have:=BI (MN f) (List.range f.Blocks.length);rw [Cj]at this;omega
   have m:(ln (x::l)==0)=false:=by simp [ln];omega
   rw [m];simp only [Ac];have p:gi (x::l) 0=some x:=AF (i:=0);rw [p];simp only [Aa]
   have k:∀y,RS f y 0->∃z,gi f.Blocks y=some z:=λy ⟨z,hz,_⟩=>⟨z,hz⟩
   obtain⟨w,w1,w2⟩:=SY (body:=λs:Int×Int=>EX f (x::l) s.1 s.2) (λ(b:Int) i=>(b,i)) (x::l).length (λ_ b=>RS f b 0) (λb=>RS f b 0)
    (λb i hi hb=>by
     have hg:(x::l)[i]?=some (x::l)[i]:=Ab hi;have hp:=a _ (AJ hi);obtain⟨z1,q⟩:=k _ hp;obtain⟨z2,r⟩:=k _ hb;simp only [EX,AH,Ad hi,Ae,AF,hg,Aa,q,r];rw [ad1 (by omega)]
     cases decide (z1.Wear<z2.Wear)with
     |true=>exact .inl ⟨_,rfl,hp⟩
     |false=>exact .inl ⟨_,rfl,hb⟩)
    (λb hb=>⟨b,by simp only [EX,AH,As,Aw,Ac],hb⟩) l.length 1 x (by simp;omega) (a x (by simp))
   have e1':((1:Nat):Int)=1:=rfl;rw [e1']at w1;rw [w1];exact⟨w,0,true,rfl,λ_=>w2,by simp⟩
 obtain⟨k1,k2⟩:=Dy o2;rw [Ad (by omega),Ae,o2];simp only [Aa];rw [MC x (h.blk x (A8 k2)).four];exact⟨_,_,true,rfl,λ_=>⟨x,o2,o3,rfl,o4⟩,by simp⟩
def ACX (f:Flash) (b:Int):Prop:=∃x,gi f.Blocks b=some x/\x.Bad=false/\x.Wear≠1000000000
def W8 (f:Flash) (b:Int):Flash:=Flash.mk (match gi f.Blocks b with
 |some x=>si f.Blocks b (Block.mk false (x.Wear+1) MS)
 |none=>f.Blocks)
theorem ABU {f:Flash} (h:Co f) (b:Int):(ACX f b/\RG f b=some (W8 f b,true))\/(¬ACX f b/\RG f b=some (f,false)):=by
 have hn:=h.n;unfold RG;rw [E6 f h.cap,Rn h];simp only [Aa,Ao,Ac];rw [Cf,Cw (by omega) (by omega),EE];simp only [Aa];by_cases hb:0<=b/\b<=(f.Blocks.length:Int)-1
 ·rw [Ad hb];simp only [Ao,Ac];have hg:=Kh (l:=f.Blocks) hb.1 (by omega);have hm:f.Blocks[b.toNat]'(by omega)∈f.Blocks:=AJ _;generalize c:f.Blocks[b.toNat]'(by omega)=x at hg hm;have hP:=h.blk x hm;rw [hg];simp only [Aa]
  cases a:x.Bad with
  |true=>
   refine .inr ⟨?_,rfl⟩;rintro⟨z,hz,h2,_⟩;rw [hg]at hz
   injection hz with hz
   rw [<-hz,a]at h2;cases h2
  |false=>
   simp only [Ac,Aa];by_cases hw:x.Wear=1000000000
   ·rw [show(x.Wear==1000000000)=true by simpa using hw];refine .inr ⟨?_,rfl⟩;rintro⟨z,hz,_,h3⟩;rw [hg]at hz
    injection hz with hz
    rw [<-hz]at h3;exact h3 hw
   rw [show(x.Wear==1000000000)=false by simpa using hw];simp only [Ac];rw [QR];simp only [Aa];have:=hP.wear;rw [CC (by omega) (by omega)];refine .inl ⟨⟨x,hg,a,hw⟩,?_⟩;unfold W8;rw [hg]
 rw [Af hb];refine .inr ⟨?_,rfl⟩;rintro⟨z,hz,_⟩;obtain⟨k1,k2⟩:=Dy hz;have:=(Ah.1 k2).1;omega
theorem s8 {bad:Bool} {w:Int} (h:0<=w/\w<=1000000000):KJ (Block.mk bad w MS):=by
 refine⟨rfl,h,λx hx=> .inl ?_,λk x y hx hy _=>?_⟩
 ·have:=Ei hx;rw [this];exact⟨rfl,rfl⟩
 have:=Ei (A8 hy);rw [this]
theorem Yd (i:Int):∀(k:Int) (l:List Leaf),(∀x∈l,x.Is≠1)->UM i k l=[]
 |k,[],_=>rfl
 |k,x::l,h=>by
  rw [UM,Yd i (k+1) l (λy hy=>h y (by simp [hy]))];unfold pg;rw [A5 (h x (by simp))];rfl
theorem Uw {f:Flash} (h:Co f) {b:Int} (hc:ACX f b):Co (W8 f b)/\LX 0 (W8 f b).Blocks=(LX 0 f.Blocks).filter λy=>y.Block !=b:=by
 obtain⟨x,h1,h2,h3⟩:=hc;obtain⟨k1,k2⟩:=Dy h1;obtain⟨c,rfl⟩:∃c:Nat,b=(c:Int):=⟨_,(B6 k1).symm⟩;rw [BA]at k2;have hP:=h.blk x (A8 k2);have hw:=hP.wear;unfold W8;rw [h1];simp only [H7];exact⟨Qw h (s8 ⟨by omega,by omega⟩),qM k2 (Yd _ _ _ λy hy=>by rw [Ei hy];simp)⟩
def RC (f:Flash) (s:Bi):Prop:=(s.Kind=1/\qZ f s.Block s.Leaf s.Text)\/(s.Kind=2/\ACX f s.Block)
def M1 (f:Flash) (s:Bi):Flash:=if s.Kind=1 then prog f s.Block s.Leaf (Leaf.mk 1 s.Text)else W8 f s.Block
theorem RK {f:Flash} (h:Co f) (s:Bi):(RC f s/\Ll f s=some (M1 f s,true))\/(¬RC f s/\Ll f s=some (f,false)):=by
 unfold Ll;by_cases k1:s.Kind=1
 ·rw [show(s.Kind==1)=true by simpa using k1];simp only [Ae]
  rcases pJ h s.Block s.Leaf s.Text with⟨h1,h2⟩|⟨h1,h2⟩
  ·rw [h2];exact .inl ⟨.inl ⟨k1,h1⟩,by unfold M1;rw [A4 k1];rfl⟩
  rw [h2];exact .inr ⟨by rintro(hh|hh);exact h1 hh.2;omega,rfl⟩
 rw [show(s.Kind==1)=false by simpa using k1];simp only [Ac];by_cases k2:s.Kind=2
 ·rw [show(s.Kind==2)=true by simpa using k2];simp only [Ae]
  rcases ABU h s.Block with⟨h1,h2⟩|⟨h1,h2⟩
  ·rw [h2];exact .inl ⟨.inr ⟨k2,h1⟩,by unfold M1;rw [A5 k1];rfl⟩
  rw [h2];exact .inr ⟨by rintro(hh|hh);omega;exact h1 hh.2,rfl⟩
 rw [show(s.Kind==2)=false by simpa using k2];simp only [Ac];rw [E6 f h.cap];exact .inr ⟨by rintro(hh|hh)<;>omega,rfl⟩
theorem ADA {f:Flash} (h:Co f) {s:Bi} (hs:RC f s):Co (M1 f s):=by
 unfold M1
 rcases hs with⟨h1,h2⟩|⟨h1,h2⟩
 ·rw [A4 h1];exact(RQ h h2).1
 rw [A5 (by omega)];exact(Uw h h2).1
theorem WX {f:Flash} (h:Co f) (steps:List Bi) (hs:steps.length<=1000) (p:Page) {t:ByteArray} {ok:Bool} (ht:Es p=some (t,ok)) (hl:ok=true->1<=(L t).length/\(L t).length<=120):
  (ok=true/\∃b l,RS f b l/\Kv f=some (b,l,true)/\DK f steps p=some (prog f b l (Leaf.mk 1 t),steps++ [Bi.mk 1 b l t],true))\/DK f steps p=some (f,steps,false):=by
 obtain⟨b,l,room,p1,p2,_⟩:=pP h;unfold DK;rw [ht,p1];simp only [Aa]
 cases ok with
 |false=>exact .inr rfl
 |true=>
  simp only [Ao,Ac,Aa]
  cases room with
  |false=>exact .inr rfl
  |true=>
   simp only [Ao,Ac];have hp:=p2 rfl;have hl':=hl rfl;have hm:qZ f b l t:=by
    obtain⟨x,a1,a2,a3,a4⟩:=hp;exact⟨x,a1,a2,a3,a4,hl'⟩
   rcases RK h (Bi.mk 1 b l t)with⟨h1,h2⟩|⟨h1,h2⟩
   ·rw [h2];simp only [Aa];rw [C6 (by simp;omega)];refine .inl ⟨trivial,b,l,hp,rfl,?_⟩;unfold M1;rfl
   exact absurd (.inl ⟨rfl,hm⟩) h1
end Go.TI
namespace Go.TI
open Go
theorem tB (u:ByteArray) (hu:(L u).length<=20000) (a:Nat) (ha:a<=(L u).length):∃n c,EB (ED.mk u (a:Int) false)=some (n,c)/\c.text_=u/\(c.bad_=true\/c.bad_=false/\∃b:Nat,c.at_=b/\a<b/\b<=(L u).length)/\(c.bad_=true->c.at_=a):=by
 obtain⟨r,h1,_,h2⟩:=KF u (a:Int) (by omega) ⟨by omega,by omega⟩;rw [Jo u _ hu h1]
 rcases h2 with⟨e1,e2,e3⟩|⟨e1,a',b,n,k1,k2,k3,k4,k5,_⟩
 ·rw [e1];exact⟨_,_,rfl,rfl,.inl rfl,λ_=>rfl⟩
 rw [e1];refine⟨_,_,rfl,rfl,.inr ⟨rfl,b,k2,by omega,k5⟩,λhh=>by cases hh⟩
theorem zM (t:ByteArray) (ht:(L t).length<=20000):∀(n a:Nat) (out:List C3),(L t).length-a<=n->a<=(L t).length->out.length<=a->∃r,Av (λs:List C3×ByteArray×Int×Bool=>Ez t s.1 s.2.1 s.2.2.1 s.2.2.2) (out,t,(a:Int),false)=some r/\(r= .inr ([],false)\/∃l:List C3,r= .inl l/\l.length<=(L t).length)
 |n,a,out,hn,ha,ho=>by
  rw [A6];simp only [Ez];rw [BO];by_cases b:a<(L t).length
  ·rw [Ad (by omega:(a:Int)<((L t).length:Int))];simp only [Ae,Aa,AN];rw [Fo t b,ad1 (by omega)];simp only [Aa];obtain⟨n1,c1,v1,t1,h1,z1⟩:=tB t ht (a+1) (by omega);rw [v1];simp only [Aa]
   rcases h1 with e1|⟨e1,b1,k1,k2,k3⟩
   ·
    have hz:=z1 e1;obtain⟨c1t,c1a,c1b⟩:=c1;simp only at t1 e1 hz;subst t1 e1 hz;rw [GU _ _ ht ⟨by omega,by omega⟩];exact⟨_,rfl,.inl rfl⟩
   obtain⟨c1t,c1a,c1b⟩:=c1;simp only at t1 e1 k1;subst t1 e1 k1;obtain⟨n2,c2,v2,t2,h2,z2⟩:=tB c1t ht b1 k3;rw [v2];simp only [Aa]
   rcases h2 with e2|⟨e2,b2,m1,m2,m3⟩
   ·rw [e2];exact⟨_,rfl,.inl rfl⟩
   rw [e2];simp only [Ac];rw [QH];simp only [Aa]
   cases Im _ with
   |false=>exact⟨_,rfl,.inl rfl⟩
   |true=>
    simp only [Ao,Ac];rw [C6 (by simp;omega),t2,m1];simp only [Aa]
    match n,hn with
    |n+1,hn=>exact zM c1t ht n b2 _ (by omega) m3 (by simp;omega)
    |0,hn=>omega
  rw [Af (by omega)];exact⟨_,rfl,.inr ⟨_,rfl,by omega⟩⟩
noncomputable def dR (t:ByteArray):Option (List C3):=match Kt t with
 |some (l,true)=>some l
 |_=>none
theorem yI (t:ByteArray) (ht:(L t).length<=20000):∃l ok,Kt t=some (l,ok)/\dR t=(if ok=true then some l else none)/\l.length<=20000:=by
 obtain⟨r,h1,h2⟩:=zM t ht (L t).length 0 [] (by omega) (by omega) (by simp);unfold dR Kt;have h1':Av (λs:List C3×ByteArray×Int×Bool=>Ez t s.1 s.2.1 s.2.2.1 s.2.2.2) ([],t,0,false)=some r:=h1;rw [h1']
 rcases h2 with rfl|⟨l,rfl,h3⟩
 ·exact⟨[],false,rfl,rfl,by simp⟩
 exact⟨l,true,rfl,rfl,by omega⟩
def isM (t part cnt:Int) (y:Al):Bool:=y.Page.Kind==2&&(y.Page.Tx==t&&(y.Page.Part==part&&(!decide (part>0)||y.Page.Count==cnt)))
def Ud (r:List Al) (t part cnt:Int):Option Al:=r.find? (isM t part cnt)
theorem AAj {α:Type} (l:List α) (p:α->Bool) {i:Nat} (h:∀j x,j<i->l[j]?=some x->p x=false) {x:α} (hx:l[i]?=some x) (hp:p x=true):l.find? p=some x:=by
 obtain⟨h1,h2⟩:=IT hx;rw [h1,List.find?_append];have:(l.take i).find? p=none:=by
  rw [Fl];intro y hy;obtain⟨j,hj,rfl⟩:=AG hy;rw [AD]at hj;rw [EK];rw [h j _ (by omega) (Ab _)];simp
 rw [this,cJ,List.find?_cons_of_pos hp]
theorem AEc {α:Type} (l:List α) (p:α->Bool) (h:∀(j:Nat) x,l[j]?=some x->p x=false):l.find? p=none:=by
 rw [Fl];intro y hy;obtain⟨j,hj,rfl⟩:=AG hy;rw [h j _ (Ab hj)];simp
structure IV (r:List Al):Prop where
 len:r.length<=1048576
 text:∀y∈r,(L y.Page.Text).length<=90
 seq:∀y∈r,1<=y.Page.Seq/\y.Page.Seq<=1000000000
 tx:∀y∈r,1<=y.Page.Tx/\y.Page.Tx<=1000000000
 cnt:∀y∈r,1<=y.Page.Count/\y.Page.Count<=9
 part:∀y∈r,0<=y.Page.Part/\y.Page.Part<y.Page.Count
def RV (part seq:Int) (y:Al):Int:=if part=0\/y.Page.Seq<seq then y.Page.Seq else seq
theorem ACx (r:List Al) (hr:IV r) (t part cnt:Int) (hp:0<=part) (text:ByteArray) (ht:(L text).length<=10000) (seq:Int):
  ∃text2,Av (λs:Int×ByteArray×Bool×Int×Int=>IQ r t part s.1 s.2.1 s.2.2.1 s.2.2.2.1 s.2.2.2.2) (cnt,text,false,0,seq)=some (match Ud r t part cnt with
   |none=>(cnt,text,false,seq)
   |some y=>(y.Page.Count,text2,true,RV part seq y))/\(∀y,Ud r t part cnt=some y->L text2=L text++L y.Page.Text):=by
 have f:=hr.len;obtain⟨b,h1,h2⟩:=Bq (body:=λs:Int×ByteArray×Bool×Int×Int=>IQ r t part s.1 s.2.1 s.2.2.1 s.2.2.2.1 s.2.2.2.2) (λ(s:Int×ByteArray×Bool×Int) i=>(s.1,s.2.1,s.2.2.1,i,s.2.2.2)) r.length
  (λi s=>(s=(cnt,text,false,seq)/\∀(j:Nat) x,j<i->r[j]?=some x->isM t part cnt x=false)\/∃y u,Ud r t part cnt=some y/\L u=L text++L y.Page.Text/\s=(y.Page.Count,u,true,RV part seq y))
  (λb=>(b=(cnt,text,false,seq)/\Ud r t part cnt=none)\/∃y u,Ud r t part cnt=some y/\L u=L text++L y.Page.Text/\b=(y.Page.Count,u,true,RV part seq y))
  (λs i hi hs=>by
   have hx:=Ab hi;have hm:r[i]∈r:=AJ hi;simp only [IQ,AH,Ad hi,Ae,Aa]
   rcases hs with⟨rfl,hs⟩|⟨y,u,f1,f2,rfl⟩
   ·simp only [AN,Ae,AF,hx,Aa];have c:(bif(r[i].Page.Kind !=2)then(some true)else(bif(r[i].Page.Tx !=t)then(some true)else(bif(r[i].Page.Part !=part)then(some true)else(bif(decide (part>0))then(some (r[i].Page.Count !=cnt))else(some false)))):Option Bool)=some (!isM t part cnt r[i]):=by
     unfold isM;simp only [bne];cases r[i].Page.Kind==2<;>cases r[i].Page.Tx==t<;>cases r[i].Page.Part==part<;>cases decide (part>0)<;>cases r[i].Page.Count==cnt<;>rfl
    rw [c];simp only [Aa];rw [ad1 (by omega)]
    cases hM:isM t part cnt r[i]with
    |false=>
     refine .inl ⟨_,rfl,.inl ⟨rfl,λj x hj a=>?_⟩⟩;by_cases e:j=i
     ·subst e;rw [hx]at a
      injection a with a
      rw [<-a];exact hM
     exact hs j x (by omega) a
    |true=>
     have g:=hr.text _ hm;simp only [Ao,Ac];rw [Gn _ _ (by omega)];simp only [Aa];have hf:Ud r t part cnt=some r[i]:=AAj r _ (λj x hj a=>hs j x hj a) hx hM;have d:(bif(part==0)then(some true)else(some (decide (r[i].Page.Seq<seq))):Option Bool)=some (decide (part=0\/r[i].Page.Seq<seq)):=by
      by_cases e:part=0
      ·rw [show(part==0)=true by simpa using e,Ad (show part=0\/r[i].Page.Seq<seq from .inl e)];rfl
      rw [show(part==0)=false by simpa using e];simp only [Ac];by_cases e2:r[i].Page.Seq<seq
      ·rw [Ad e2,Ad (show part=0\/r[i].Page.Seq<seq from .inr e2)]
      rw [Af e2,Af (by rintro(h|h);exact e h;exact e2 h)]
     rw [d];simp only [Aa];refine .inl ⟨(r[i].Page.Count,text++r[i].Page.Text,true,RV part seq r[i]),?_,.inr ⟨r[i],_,hf,DB _ _,rfl⟩⟩;unfold RV;by_cases e:part=0\/r[i].Page.Seq<seq
     ·rw [Ad e,A4 e];rfl
     rw [Af e,A5 e];rfl
   simp only [Ao,Ac]
   exact .inr ⟨_,rfl,.inr ⟨y,u,f1,f2,rfl⟩⟩)
  (λs hs=>by
   refine⟨s,by simp only [IQ,AH,As,Aw,Ac,Aa],?_⟩
   rcases hs with⟨rfl,hs⟩|hs
   ·exact .inl ⟨rfl,AEc r _ λj x hx=>hs j x (Ah.1 hx).1 hx⟩
   exact .inr hs) (s:=(cnt,text,false,seq)) (.inl ⟨rfl,λj x hj=>by omega⟩)
 have h1':Av (λs:Int×ByteArray×Bool×Int×Int=>IQ r t part s.1 s.2.1 s.2.2.1 s.2.2.2.1 s.2.2.2.2) (cnt,text,false,0,seq)=some b:=h1;rw [h1']
 rcases h2 with⟨rfl,h2⟩|⟨y,u,f1,f2,rfl⟩
 ·rw [h2];exact⟨text,rfl,λy hy=>by cases hy⟩
 rw [f1];refine⟨u,rfl,λz hz=>?_⟩
 injection hz with hz
 rw [<-hz];exact f2
def parts (r:List Al) (t:Int):Nat->Int->Int->List UInt8->Int->Option (List UInt8×Int)
 |0,_,_,_,_=>none
 |n+1,part,cnt,text,seq=>if part=0\/part<cnt then(match Ud r t part cnt with
  |none=>none
  |some y=>parts r t n (part+1) y.Page.Count (text++L y.Page.Text) (RV part seq y))else some (text,seq)
theorem ADZ {t part cnt:Int} {y:Al} (h:isM t part cnt y=true) (hp:0<part):y.Page.Count=cnt:=by
 unfold isM at h;simp only [An,CN,Dg,AZ,Ci]at h
 rcases h.2.2.2 with h|h
 ·omega
 exact h
theorem YP {r:List Al} {t part cnt:Int} {y:Al} (h:Ud r t part cnt=some y):y∈r/\isM t part cnt y=true:=⟨List.mem_of_find?_eq_some h,List.find?_some h⟩
theorem rC (r:List Al) (hr:IV r) (t:Int):∀(n:Nat) (part cnt:Int) (text:ByteArray) (seq:Int),part+n=11->0<=part->(part=0\/(part<=cnt/\cnt<=9))->(L text).length<=90*part.toNat->
  ∃b,Av (λs:Int×ByteArray×Int×Int=>OC r t s.1 s.2.1 s.2.2.1 s.2.2.2) (cnt,text,part,seq)=some b/\(match parts r t n part cnt (L text) seq with
   |none=>∃q,b= .inr (Tx.mk t q [],false)
   |some (x,q)=>∃u,b= .inl (u,q)/\L u=x/\(L u).length<=1000)
 |0,part,cnt,text,seq,hn,h0,hc,ht=>by omega
 |n+1,part,cnt,text,seq,hn,h0,hc,ht=>by
  rw [A6];simp only [OC,parts];have a:(bif(part==0)then(some true)else(some (decide (part<cnt))):Option Bool)=some (decide (part=0\/part<cnt)):=by
   by_cases e:part=0
   ·rw [show(part==0)=true by simpa using e,Ad (show part=0\/part<cnt from .inl e)];rfl
   rw [show(part==0)=false by simpa using e];simp only [Ac];by_cases e2:part<cnt
   ·rw [Ad e2,Ad (show part=0\/part<cnt from .inr e2)]
   rw [Af e2,Af (by rintro(h|h);exact e h;exact e2 h)]
  rw [a];simp only [Aa];by_cases e:part=0\/part<cnt
  ·rw [Ad e,A4 e];simp only [Ae];obtain⟨text2,h1,h2⟩:=ACx r hr t part cnt h0 text (by omega) seq;rw [h1]
   cases hf:Ud r t part cnt with
   |none=>
    simp only [Aa,AN,Ae];exact⟨_,rfl,_,rfl⟩
   |some y=>
    simp only [Aa,Ao,Ac];have hy:=YP hf;have hL:=h2 y hf;have c:=hr.text y hy.1;have d:=hr.cnt y hy.1;rw [CC (by omega) (by omega),<-hL];refine rC r hr t n (part+1) y.Page.Count text2 _ (by omega) (by omega) (.inr ?_) ?_
    ·rcases e with e|e
     ·have:=hr.part y hy.1;omega
     by_cases e2:part=0
     ·omega
     have:=ADZ hy.2 (by omega);omega
    rw [hL,Ag];omega
  rw [Af e,A5 e];simp only [Ac];exact⟨_,rfl,text,rfl,rfl,by omega⟩
noncomputable def I4 (r:List Al) (t:Int):Option Tx:=match parts r t 11 0 0 [] 0 with
 |none=>none
 |some (x,q)=>(dR (bs x)).map λl=>Tx.mk t q l
theorem AGX (u:ByteArray):bs (L u)=u:=HY (by rw [Eg])
theorem dF (r:List Al) (hr:IV r) (t:Int):∃x ok,Wj r t=some (x,ok)/\I4 r t=(if ok=true then some x else none)/\x.Recs.length<=20000:=by
 obtain⟨b,h1,h2⟩:=rC r hr t 11 0 0 (bs []) 0 (by omega) (by omega) (.inl rfl) (by rw [Eg];simp);rw [Eg]at h2;unfold Wj I4;rw [h1];simp only [Aa]
 cases hp:parts r t 11 0 0 [] 0 with
 |none=>
  rw [hp]at h2;obtain⟨z,rfl⟩:=h2;exact⟨_,_,rfl,rfl,by simp⟩
 |some w=>
  obtain⟨x,q⟩:=w;rw [hp]at h2;obtain⟨u,rfl,rfl,h4⟩:=h2;simp only [BX];obtain⟨l,ok,r1,r2,r3⟩:=yI u (by omega);rw [r1,AGX,r2];simp only [Aa]
  cases ok with
  |true=>exact⟨_,_,rfl,rfl,r3⟩
  |false=>exact⟨_,_,rfl,rfl,r3⟩
end Go.TI
namespace Go.TI
open Go
theorem SL {α:Type} {P:List α->Prop} (nil:P []) (app:∀l x,P l->P (l++ [x])) (l:List α):P l:=by
 rw [<-List.reverse_reverse l]
 induction l.reverse with
 |nil=>exact nil
 |cons x l ih=>rw [List.reverse_cons];exact app _ _ ih
def Ee (r:List Al):List Int:=r.foldl (λns y=>if y.Page.Kind=2 then ins ns y.Page.Tx else ns) []
theorem SS (r:List Al) (y:Al):Ee (r++ [y])=if y.Page.Kind=2 then ins (Ee r) y.Page.Tx else Ee r:=by unfold Ee;rw [Ht];rfl
theorem Ip (r:List Al) (h:∀y∈r,1<=y.Page.Tx):asc (Ee r)/\(∀x,x∈Ee r↔∃y∈r,y.Page.Kind=2/\y.Page.Tx=x)/\(Ee r).length<=r.length:=by
 have main:∀n,n<=r.length->asc (Ee (r.take n))/\(∀x,x∈Ee (r.take n)↔∃y∈r.take n,y.Page.Kind=2/\y.Page.Tx=x)/\(Ee (r.take n)).length<=n:=by
  intro n
  induction n with
  |zero=>intro _;simp [Ee,asc]
  |succ n ih=>
   intro hn;obtain⟨h1,h2,h3⟩:=ih (by omega);have et:r.take (n+1)=r.take n++ [r[n]'(by omega)]:=Ax (by omega);have hy:=h _ (AJ (show n<r.length by omega));generalize r[n]'(by omega)=y at et hy;rw [et,SS]
   have a:∀z∈Ee (r.take n),0<z:=λz hz=>by
    obtain⟨w,hw,_,h5⟩:=(h2 z).1 hz;have:=h w (List.mem_of_mem_take hw);omega
   by_cases e:y.Page.Kind=2
   ·rw [A4 e];refine⟨AAf h1,λx=>?_,by have:=Y2 (Ee (r.take n)) y.Page.Tx h1;omega⟩;rw [AAe a,h2 x];simp only [Ak,A3];constructor
    ·rintro(⟨w,hw,hk,ht⟩|⟨rfl,h0⟩)
     ·exact⟨w,.inl hw,hk,ht⟩
     exact⟨y,.inr rfl,e,rfl⟩
    rintro⟨w,hw|rfl,hk,ht⟩
    ·exact .inl ⟨w,hw,hk,ht⟩
    exact .inr ⟨ht.symm,by omega⟩
   rw [A5 e];refine⟨h1,λx=>?_,by omega⟩;rw [h2 x];simp only [Ak,A3];constructor
   ·rintro⟨w,hw,hk,ht⟩;exact⟨w,.inl hw,hk,ht⟩
   rintro⟨w,hw|rfl,hk,ht⟩
   ·exact⟨w,hw,hk,ht⟩
   exact absurd hk e
 have:=main r.length (A0 _);rw [AW]at this;exact this
theorem aS (r:List Al) (hr:IV r):Av (λs:List Int×Int=>Jl r s.1 s.2) ([],0)=some (Ee r):=by
 have d:=hr.len;obtain⟨b,h1,h2⟩:=Bq (body:=λs:List Int×Int=>Jl r s.1 s.2) (λ(o:List Int) i=>(o,i)) r.length (λi o=>o=Ee (r.take i)) (λb=>b=Ee r)
  (λo i hi ho=>by
   have hx:=Ab hi;have hm:r[i]∈r:=AJ hi;have f:=(hr.tx _ hm).1;have a:=Ip (r.take i) (λy hy=>(hr.tx y (List.mem_of_mem_take hy)).1);have g:o.length<=1048576:=by rw [ho];have:=a.2.2;rw [AD]at this;omega
   have et:r.take (i+1)=r.take i++ [r[i]]:=Ax hi;simp only [Jl,AH,Ad hi,Ae,AF,hx,Aa];rw [ad1 (by omega)];refine .inl ?_;by_cases e:r[i].Page.Kind=2
   ·rw [show(r[i].Page.Kind !=2)=false by simp [e]];simp only [Ac]
    rw [Oo (body:=λs:List Int×Int=>Lk o r[i] s.1 s.2) o (λy=>decide (y<r[i].Page.Tx)) [] (by simp;omega)
     (λu k x hk hu=>by
      have c:=(Ah.1 hk).1
      simp only [Lk,AH,Ad c,Ae,AF,hk,Aa])
     (λu=>by simp only [Lk,AH,As,Aw,Ac])]
    simp only [Aa,A7];have h:=BI (λy=>decide (y<r[i].Page.Tx)) o;rw [C6 (by simp only [Aj];omega)];simp only [Aa]
    rw [Oo (body:=λs:List Int×Int=>Lj o r[i] s.1 s.2) o (λy=>decide (y>r[i].Page.Tx)) _ (by simp only [Ag,Aj];omega)
     (λu k x hk hu=>by
      have c:=(Ah.1 hk).1
      simp only [Lj,AH,Ad c,Ae,AF,hk,Aa])
     (λu=>by simp only [Lj,AH,As,Aw,Ac])]
    simp only [Aa];refine⟨_,rfl,?_⟩;rw [et,SS,A4 e,<-ho];unfold ins;rw [A4 (by omega)]
   rw [show(r[i].Page.Kind !=2)=true by simpa using e]
   exact⟨o,rfl,by rw [et,SS,A5 e,ho]⟩)
  (λo ho=>⟨o,by simp only [Jl,AH,As,Aw,Ac],by rw [ho,AW]⟩) (s:=[]) rfl
 rw [h2]at h1;exact h1
noncomputable def B4 (r:List Al):List Tx:=(Ee r).filterMap (I4 r)
theorem QB {r:List Al} (hr:IV r) {t:Int} {x:Tx} (h:I4 r t=some x):x.Num=t/\x.Recs.length<=20000:=by
 obtain⟨z,ok,h1,h2,h3⟩:=dF r hr t;rw [h]at h2
 cases ok with
 |false=>cases h2
 |true=>
  rw [A4 rfl]at h2
  injection h2 with h2
  subst h2;refine⟨?_,h3⟩;unfold I4 at h;split at h
  ·cases h
  obtain⟨l,_,rfl⟩:=Ba.1 h;rfl
theorem UI (r:List Al) (hr:IV r):PX r=some (B4 r):=by
 have c:=hr.len;have a:=Ip r (λy hy=>(hr.tx y hy).1);have d:=a.2.2;unfold PX;rw [aS r hr];simp only [Aa];obtain⟨b,h1,h2⟩:=Bq (body:=λs:List Tx×Int=>Jk r (Ee r) s.1 s.2) (λ(o:List Tx) i=>(o,i)) (Ee r).length (λi o=>o=((Ee r).take i).filterMap (I4 r)) (λb=>b=B4 r)
  (λo i hi ho=>by
   have hx:=Ab hi;have et:(Ee r).take (i+1)=(Ee r).take i++ [(Ee r)[i]]:=Ax hi;have e:o.length<=i:=by
    rw [ho];have:=List.length_filterMap_le (I4 r) ((Ee r).take i);rw [AD]at this;omega
   simp only [Jk,AH,Ad hi,Ae,AF,hx,Aa];rw [ad1 (by omega)];obtain⟨z,ok,k1,k2,k3⟩:=dF r hr (Ee r)[i];rw [k1];simp only [Aa];refine .inl ?_
   cases ok with
   |true=>
    simp only [Ae];rw [C6 (by simp only [Aj];omega)];refine⟨_,rfl,?_⟩;rw [et,NL,ho];simp only [Ic,List.filterMap_nil,k2,Cc]
   |false=>
    refine⟨o,rfl,?_⟩;rw [et,NL,ho]
    simp [k2])
  (λo ho=>⟨o,by simp only [Jk,AH,As,Aw,Ac],by rw [ho,AW];rfl⟩) (s:=[]) rfl
 have h1':Av (λs:List Tx×Int=>Jk r (Ee r) s.1 s.2) ([],0)=some b:=h1;rw [h1',h2];rfl
def rH (x:Tx):Bool:=match x.Recs with
 |[]=>false
 |r::_=>r.Kind==1
def atB (l:List Tx):Nat:=l.zipIdx.foldl (λa z=>if rH z.1=true then z.2 else a) 0
def Ek (l:List Tx):List Tx:=l.drop (atB l)
theorem Tt (l:List Tx) (x:Tx):atB (l++ [x])=if rH x=true then l.length else atB l:=by
 unfold atB;rw [List.zipIdx_append,Ht];simp
theorem AC5 (l:List Tx):atB l<=l.length:=by
 induction l using SL with
 |nil=>simp [atB]
 |app l x ih=>
  rw [Tt,Ag];split<;>simp<;>omega
theorem QD (l:List Tx) (x:Tx):Ek (l++ [x])=if rH x=true then [x]else Ek l++ [x]:=by
 unfold Ek;rw [Tt];by_cases e:rH x=true
 ·rw [A4 e,A4 e,ES rfl]
 rw [A5 e,A5 e,List.drop_append_of_le_length (AC5 l)]
theorem n9 (l:List Tx):∃A,l=A++Ek l/\(A≠ []->∃x B,Ek l=x::B/\rH x=true)/\∀x B,Ek l=x::B->∀y∈B,rH y=false:=by
 induction l using SL with
 |nil=>exact⟨[],rfl,λh=>absurd rfl h,λx B h=>by cases h⟩
 |app l x ih=>
  obtain⟨A,h1,h2,h3⟩:=ih;rw [QD];by_cases e:rH x=true
  ·rw [A4 e];exact⟨l,rfl,λ_=>⟨x,[],rfl,e⟩,λy B h=>by injection h with _ h;subst h;intro z hz;cases hz⟩
  rw [A5 e];refine⟨A,by rw [<-Aq,<-h1],λhA=>?_,λy B h=>?_⟩
  ·obtain⟨y,B,h4,h5⟩:=h2 hA;exact⟨y,B++ [x],by rw [h4];rfl,h5⟩
  cases hs:Ek l with
  |nil=>
   rw [hs]at h
   injection h with _ h
   subst h;intro z hz;cases hz
  |cons w B'=>
   rw [hs]at h
   injection h with h4 h5
   subst h4 h5;intro z hz;have hz:z∈B'++ [x]:=hz;rw [Ak,A3]at hz
   rcases hz with hz|rfl
   ·exact h3 w B' hs z hz
   simpa using e
theorem ABL (A:List Tx):∀(B:List Tx),(A≠ []->∃x B',B=x::B'/\rH x=true)->(∀x B',B=x::B'->∀y∈B',rH y=false)->Ek (A++B)=B:=by
 intro B
 induction B using SL with
 |nil=>
  intro h1 _
  cases A with
  |nil=>rfl
  |cons a A=>obtain⟨x,B',h,_⟩:=h1 (by simp);cases h
 |app B y ih=>
  intro h1 h2;rw [<-Aq,QD]
  cases B with
  |nil=>
   by_cases e:rH y=true
   ·rw [A4 e];rfl
   rw [A5 e]
   cases A with
   |nil=>rfl
   |cons a A=>
    obtain⟨x,B',h,h3⟩:=h1 (by simp)
    injection h with h4 h5
    rw [h4]at e;exact absurd h3 e
  |cons b B=>
   have hy:rH y=false:=h2 b (B++ [y]) rfl y (by simp);rw [A5 (by rw [hy];simp),ih]
   ·intro hA;obtain⟨x,B',h,h3⟩:=h1 hA
    injection h with h4 h5
    exact⟨b,B,rfl,by rw [h4];exact h3⟩
   intro x B' h z hz
   injection h with h4 h5
   subst h4 h5;exact h2 b (B++ [y]) rfl z (by simp [hz])
theorem Xy (l:List Tx) (hl:l.length<=1048576) (hr:∀x∈l,x.Recs.length<=20000):Nm l=some (Ek l):=by
 unfold Nm;obtain⟨b,h1,h2⟩:=Bq (body:=λs:Int×Int=>Gz l s.1 s.2) (λ(o:Int) i=>(o,i)) l.length (λi o=>o=(atB (l.take i):Int)) (λb=>b=(atB l:Int))
  (λo i hi ho=>by
   have hx:=Ab hi;have et:l.take (i+1)=l.take i++ [l[i]]:=Ax hi;simp only [Gz,AH,Ad hi,Ae,AF,hx,Aa];rw [ad1 (by omega)];refine .inl ?_;have d:(l.take i).length=i:=by rw [AD];omega
   cases a:l[i].Recs with
   |nil=>
    refine⟨o,rfl,?_⟩;rw [et,Tt,A5 (by unfold rH;rw [a];simp),ho]
   |cons q m=>
    have hg:gi (q::m) 0=some q:=AF (i:=0);rw [Ad (by rw [Cf,Ay];omega:ln (q::m)>0)];simp only [Ae,hg,Aa]
    cases hk:(q.Kind==1)with
    |true=>
     refine⟨(i:Int),rfl,?_⟩;rw [et,Tt,A4 (by unfold rH;rw [a];exact hk),d]
    |false=>
     refine⟨o,rfl,?_⟩
     rw [et,Tt,A5 (by unfold rH;rw [a];simp only [];rw [hk];simp),ho])
  (λo ho=>⟨o,by simp only [Gz,AH,As,Aw,Ac],by rw [ho,AW]⟩) (s:=0) rfl
 have h1':Av (λs:Int×Int=>Gz l s.1 s.2) (0,0)=some b:=h1;rw [h1',h2];simp only [Aa];have e:=AC5 l;obtain⟨c,q1,q2⟩:=SY (body:=λs:List Tx×Int=>HG l s.1 s.2) (λ(o:List Tx) i=>(o,i)) l.length (λi o=>o=(l.take i).drop (atB l)/\atB l<=i) (λb=>b=Ek l)
  (λo i hi hs=>by
   obtain⟨ho,f⟩:=hs;have hx:=Ab hi;have hm:l[i]∈l:=AJ hi;have g:=hr _ hm;have et:l.take (i+1)=l.take i++ [l[i]]:=Ax hi;have h:o.length<=1048576:=by rw [ho,B8,AD];omega
   simp only [HG,AH,Ad hi,Ae,AF,hx,Aa];rw [Px (by omega)];simp only [Aa];rw [C6 (by simp only [Aj];omega)];simp only [Aa];rw [ad1 (by omega)];refine .inl ⟨_,rfl,?_,by omega⟩
   rw [et,List.drop_append_of_le_length (by rw [AD];omega),<-ho])
  (λo hs=>⟨o,by simp only [HG,AH,As,Aw,Ac],by rw [hs.1,AW];rfl⟩) (l.length-atB l) (atB l) [] (by omega) ⟨by rw [CP];rw [AD];omega,A0 _⟩
 rw [q1,q2];rfl
def CQ (l:Vs) (nx:Int) (recs:List C3):Option (Vs×Int):=recs.foldl (λo r=>o.bind λp=>El p.1 p.2 r) (some (l,nx))
theorem Qy (recs:List C3):recs.foldl (λ(o:Option (Vs×Int)) r=>o.bind λp=>El p.1 p.2 r) none=none:=by
 induction recs with
 |nil=>rfl
 |cons r l ih=>rw [LJ];exact ih
theorem Fy (l:Vs) (nx:Int) (r:C3) (recs:List C3):CQ l nx (r::recs)=(El l nx r).bind λp=>CQ p.1 p.2 recs:=by
 unfold CQ;rw [LJ];simp only [Aa]
 cases El l nx r with
 |none=>exact Qy recs
 |some p=>rfl
theorem KS (l:Vs) (nx:Int) (a b:List C3):CQ l nx (a++b)=(CQ l nx a).bind λp=>CQ p.1 p.2 b:=by
 unfold CQ;rw [Ht]
 cases a.foldl (λ(o:Option (Vs×Int)) r=>o.bind λp=>El p.1 p.2 r) (some (l,nx))with
 |none=>exact Qy b
 |some p=>rfl
def Sa (s:Store) (recs:List C3) (o:Option (Store×Bool)):Prop:=match CQ (Cd s) s.Next recs with
 |none=>o=some (s,false)
 |some (l,nx)=>∃t,o=some (t,true)/\Em t/\Cd t=l/\t.Next=nx
theorem sN {s:Store} (h:Em s) (recs:List C3) (hr:recs.length<=1048576):Sa s recs (OM s recs):=by
 have hl:=h.len;have d:=Tq h.ar (by have:=h.few;omega);have a:=LO s d (by omega);unfold OM;rw [a];simp only [Aa];obtain⟨b,h1,h2⟩:=Bq (body:=λq:Int×List Vol×List Cb×Int=>Hl s recs q.1 q.2.1 q.2.2.1 q.2.2.2) (λ(t:Store) i=>(i,t.Vols,t.Arena.Knots,t.Next)) recs.length
  (λi t=>Em t/\CQ (Cd s) s.Next (recs.take i)=some (Cd t,t.Next))
  (λb=>(b= .inr (s,false)/\CQ (Cd s) s.Next recs=none)\/∃t,b= .inl (t.Vols,t.Arena.Knots,t.Next)/\Em t/\CQ (Cd s) s.Next recs=some (Cd t,t.Next))
  (λt i hi hs=>by
   obtain⟨hP,he⟩:=hs;have hx:=Ab hi;obtain⟨e1,e2⟩:=IT hx;have et:recs.take (i+1)=recs.take i++ [recs[i]]:=Ax hi;simp only [Hl,AH,Ad hi,Ae,AF,hx,Aa];have c:=ACP hP recs[i];unfold Pb at c;have e:Store.mk t.Vols (Arena.mk t.Arena.Knots) t.Next=t:=rfl;rw [e]
   cases hv:El (Cd t) t.Next recs[i]with
   |none=>
    rw [hv]at c;rw [c];simp only [Aa,AN,Ae];rw [a];refine .inr ⟨_,rfl,.inl ⟨rfl,?_⟩⟩;rw [e1,KS,he];simp only [Aa];rw [Fy,hv];rfl
   |some p=>
    obtain⟨l,nx⟩:=p;rw [hv]at c;obtain⟨u,u1,u2,u3,u4⟩:=c;rw [u1];simp only [Aa,Ao,Ac];rw [ad1 (by omega)];refine .inl ⟨u,rfl,u2,?_⟩;rw [et,KS,he];simp only [Aa];rw [Fy,hv];simp only [Aa];rw [u3,u4]
    rfl)
  (λt hs=>⟨_,by simp only [Hl,AH,As,Aw,Ac],.inr ⟨t,rfl,hs.1,by rw [<-hs.2,AW]⟩⟩) (s:=s) ⟨h,rfl⟩
 have h1':Av (λq:Int×List Vol×List Cb×Int=>Hl s recs q.1 q.2.1 q.2.2.1 q.2.2.2) (0,s.Vols,s.Arena.Knots,s.Next)=some b:=h1;rw [h1'];unfold Sa
 rcases h2 with⟨rfl,h2⟩|⟨t,rfl,h2,h3⟩
 ·rw [h2];rfl
 rw [h3];exact⟨t,rfl,h2,rfl,rfl⟩
def Fs (r:List Al):Int:=r.foldl (λm y=>if y.Page.Seq>=m then y.Page.Seq+1 else m) 1
def DR (r:List Al):Int:=r.foldl (λm y=>if y.Page.Kind=2/\y.Page.Tx>=m then y.Page.Tx+1 else m) 1
def KE (l:List Tx):Int:=match l with
 |[]=>0
 |x::_=>x.Num
def K3 (l:List Tx):Vs×Int:=l.foldl (λp x=>(CQ p.1 p.2 x.Recs).getD p) ([],1)
theorem fW (r:List Al) (y:Al):Fs (r++ [y])=if y.Page.Seq>=Fs r then y.Page.Seq+1 else Fs r:=by unfold Fs;rw [Ht];rfl
theorem fM (r:List Al) (y:Al):DR (r++ [y])=if y.Page.Kind=2/\y.Page.Tx>=DR r then y.Page.Tx+1 else DR r:=by unfold DR;rw [Ht];rfl
theorem RE (r:List Al):(∀y∈r,y.Page.Seq<Fs r)/\1<=Fs r/\(∀b,1<=b->(∀y∈r,y.Page.Seq<b)->Fs r<=b):=by
 induction r using SL with
 |nil=>exact⟨λy hy=>(by cases hy),by simp [Fs],λb hb _=>by simpa [Fs]using hb⟩
 |app r x ih=>
  obtain⟨h1,h2,h3⟩:=ih;rw [fW];refine⟨λy hy=>?_,?_,λb hb a=>?_⟩
  ·rw [Ak,A3]at hy
   rcases hy with hy|rfl
   ·have:=h1 y hy;split<;>omega
   split<;>omega
  ·split<;>omega
  have:=h3 b hb (λy hy=>a y (by simp [hy]));have:=a x (by simp);split<;>omega
theorem T4 (r:List Al):(∀y∈r,y.Page.Kind=2->y.Page.Tx<DR r)/\1<=DR r/\(∀b,1<=b->(∀y∈r,y.Page.Kind=2->y.Page.Tx<b)->DR r<=b):=by
 induction r using SL with
 |nil=>exact⟨λy hy=>(by cases hy),by simp [DR],λb hb _=>by simpa [DR]using hb⟩
 |app r x ih=>
  obtain⟨h1,h2,h3⟩:=ih;rw [fM];refine⟨λy hy hk=>?_,?_,λb hb a=>?_⟩
  ·rw [Ak,A3]at hy
   rcases hy with hy|rfl
   ·have:=h1 y hy hk;split<;>omega
   split
   ·omega
   rename_i h;have:¬y.Page.Tx>=DR r:=λhh=>h ⟨hk,hh⟩;omega
  ·split<;>omega
  have:=h3 b hb (λy hy=>a y (by simp [hy]));split
  ·rename_i h;have:=a x (by simp) h.1;omega
  omega
end Go.TI
namespace Go.TI
open Go
theorem dZ {f:Flash} {r:List Al} (h:ADc f r) (hf:Co f):IV r:=by
 have key:∀y∈r,(1<=y.Page.Seq/\y.Page.Seq<=1000000000)/\(1<=y.Page.Tx/\y.Page.Tx<=1000000000)/\(1<=y.Page.Count/\y.Page.Count<=9)/\(0<=y.Page.Part/\y.Page.Part<y.Page.Count):=by
  intro y hy;obtain⟨b,x,g1,g2,_,g3⟩:=h.page y hy;obtain⟨_,k1⟩:=Dy g1;obtain⟨_,k2⟩:=Dy g2;have hx:=hf.text b (A8 k1) x (A8 k2);obtain⟨p,ok,m1,_,_,m2⟩:=HX x.Text (by omega);rw [g3]at m1
  injection m1 with m1
  injection m1 with m1 m3
  have hp:=m2 m3.symm;obtain⟨v,q1,_,q2⟩:=Rm p;rw [hp]at q1
  injection q1 with q1
  obtain⟨_,a1,a2,a3,a4,_⟩:=q2 q1.symm;rw [m1];exact⟨a1,a2,a3,a4⟩
 exact⟨h.len,h.text,λy hy=>(key y hy).1,λy hy=>(key y hy).2.1,λy hy=>(key y hy).2.2.1,λy hy=>(key y hy).2.2.2⟩
theorem i9 (r:List Al) (hr:IV r):Av (λs:Int×Int×Int=>Hk r s.1 s.2.1 s.2.2) (0,1,1)=some (Fs r,DR r):=by
 have c:=hr.len;obtain⟨b,h1,h2⟩:=Bq (body:=λs:Int×Int×Int=>Hk r s.1 s.2.1 s.2.2) (λ(o:Int×Int) i=>(i,o.1,o.2)) r.length (λi o=>o=(Fs (r.take i),DR (r.take i))) (λb=>b=(Fs r,DR r))
  (λo i hi ho=>by
   subst ho;have hx:=Ab hi;have hm:r[i]∈r:=AJ hi;have hs:=hr.seq _ hm;have ht:=hr.tx _ hm;have et:r.take (i+1)=r.take i++ [r[i]]:=Ax hi;simp only [Hk,AH,Ad hi,Ae,AF,hx,Aa];rw [et,fW,fM,ad1 (by omega)];have a:(bif(decide (r[i].Page.Seq>=Fs (r.take i)))then(some (ad r[i].Page.Seq 1))else(some (Fs (r.take i))):Option Int)=some (if r[i].Page.Seq>=Fs (r.take i)then r[i].Page.Seq+1 else Fs (r.take i)):=by
    by_cases e:r[i].Page.Seq>=Fs (r.take i)
    ·rw [Ad e,A4 e,CC (by omega) (by omega)];rfl
    rw [Af e,A5 e];rfl
   rw [a];simp only [Aa];refine .inl ?_;by_cases e:r[i].Page.Kind=2
   ·rw [show(r[i].Page.Kind==2)=true by simpa using e];simp only [Ae,Aa];by_cases e2:r[i].Page.Tx>=DR (r.take i)
    ·rw [Ad e2,A4 (show r[i].Page.Kind=2/\r[i].Page.Tx>=DR (r.take i)from⟨e,e2⟩),CC (by omega) (by omega)];exact⟨(_,_),rfl,rfl⟩
    rw [Af e2,A5 (show¬(r[i].Page.Kind=2/\r[i].Page.Tx>=DR (r.take i))from λhh=>e2 hh.2)];exact⟨(_,_),rfl,rfl⟩
   rw [show(r[i].Page.Kind==2)=false by simpa using e,A5 (show¬(r[i].Page.Kind=2/\r[i].Page.Tx>=DR (r.take i))from λhh=>e hh.1)]
   exact⟨(_,_),rfl,rfl⟩)
  (λo ho=>⟨o,by simp only [Hk,AH,As,Aw,Ac],by rw [ho,AW]⟩) (s:=(1,1)) rfl
 rw [h2]at h1;exact h1
theorem AAt:Em (Store.mk [] (Arena.mk []) 1):=by
 refine⟨⟨by simp,rfl,by simp,by simp,by simp,by simp [Cr],by simp [Cr],by simp⟩,by simp⟩
theorem Yr (l:List Tx) (x:Tx):K3 (l++ [x])=(CQ (K3 l).1 (K3 l).2 x.Recs).getD (K3 l):=by unfold K3;rw [Ht];rfl
theorem XN (l:List Tx) (hl:l.length<=1048576) (hr:∀x∈l,x.Recs.length<=20000):∃t,Av (λs:Int×List Vol×List Cb×Int×Int=>Hj l s.1 s.2.1 s.2.2.1 s.2.2.2.1 s.2.2.2.2) (0,[],[],1,0)=some (t.Vols,t.Arena.Knots,t.Next,KE l)/\Em t/\(Cd t,t.Next)=K3 l:=by
 obtain⟨b,h1,t,h2,h3,h4⟩:=Bq (body:=λs:Int×List Vol×List Cb×Int×Int=>Hj l s.1 s.2.1 s.2.2.1 s.2.2.2.1 s.2.2.2.2) (λ(o:Store×Int) i=>(i,o.1.Vols,o.1.Arena.Knots,o.1.Next,o.2)) l.length
  (λi o=>Em o.1/\(Cd o.1,o.1.Next)=K3 (l.take i)/\o.2=KE (l.take i)) (λb=>∃t,b=(t.Vols,t.Arena.Knots,t.Next,KE l)/\Em t/\(Cd t,t.Next)=K3 l)
  (λo i hi hs=>by
   obtain⟨t,bs0⟩:=o;obtain⟨hP,hv,hb⟩:=hs;simp only at hP hv hb;have hx:=Ab hi;have hm:l[i]∈l:=AJ hi;have j:=hr _ hm;have et:l.take (i+1)=l.take i++ [l[i]]:=Ax hi;simp only [Hj,AH,Ad hi,Ae,AF,hx,Aa];have g:(bif((i:Int)==0)then(some l[i].Num)else(some bs0):Option Int)=some (KE (l.take (i+1))):=by
    by_cases e:i=0
    ·subst e;rw [et];simp [KE]
    rw [show((i:Int)==0)=false by simp;omega,hb,et];simp only [Ac]
    cases h5:l.take i with
    |nil=>
     have:=BH List.length h5;rw [AD,Bm]at this;omega
    |cons a m=>rfl
   rw [g];simp only [Aa];have d:=sN hP l[i].Recs (by omega);unfold Sa at d;have h:Store.mk t.Vols (Arena.mk t.Arena.Knots) t.Next=t:=rfl;have e1:Cd t=(K3 (l.take i)).1:=BH Prod.fst hv;have e2:t.Next=(K3 (l.take i)).2:=BH Prod.snd hv;rw [h,ad1 (by omega)];refine .inl ?_;have f:=Yr (l.take i) l[i];rw [<-et]at f
   cases c:CQ (Cd t) t.Next l[i].Recs with
   |none=>
    rw [c]at d;rw [d];refine⟨(t,KE (l.take (i+1))),rfl,hP,?_,rfl⟩;rw [f,<-e1,<-e2,c,Option.getD_none];exact hv
   |some p=>
    obtain⟨lv,nx⟩:=p;rw [c]at d;obtain⟨u,u1,u2,u3,u4⟩:=d;rw [u1];refine⟨(u,KE (l.take (i+1))),rfl,u2,?_,rfl⟩;rw [f,<-e1,<-e2,c,Bc];show(Cd u,u.Next)=(lv,nx)
    rw [u3,u4])
  (λo hs=>⟨(o.1.Vols,o.1.Arena.Knots,o.1.Next,o.2),by simp only [Hj,AH,As,Aw,Ac],o.1,by rw [hs.2.2,AW],hs.1,by rw [hs.2.1,AW]⟩) (s:=(Store.mk [] (Arena.mk []) 1,0)) ⟨AAt,rfl,rfl⟩
 exact⟨t,by rw [<-h2];exact h1,h3,h4⟩
structure Ju (d:AE) (r:List Al):Prop where
 fl:Co d.Flash
 scan:ADc d.Flash r
 sr:SR (LX 0 d.Flash.Blocks) r
 st:Em d.Store
 ab:(Cd d.Store,d.Store.Next)=K3 (Ek (B4 r))
 seq:d.Seq=Fs r
 tx:d.Tx=DR r
 base:d.Base=KE (Ek (B4 r))
theorem Ju.pages {d:AE} {r:List Al} (h:Ju d r):IV r:=dZ h.scan h.fl
theorem YL {r:List Al} (hr:IV r):(B4 r).length<=1048576/\∀x∈B4 r,x.Recs.length<=20000:=by
 have b:=hr.len;have a:=Ip r (λy hy=>(hr.tx y hy).1);have:=List.length_filterMap_le (I4 r) (Ee r);refine⟨by unfold B4;omega,λx hx=>?_⟩;obtain⟨t,_,ht⟩:=List.mem_filterMap.1 hx;exact(QB hr ht).2
theorem dC (l:List Tx):(Ek l).length<=l.length/\∀x∈Ek l,x∈l:=⟨by unfold Ek;rw [B8];omega,λx hx=>List.mem_of_mem_drop hx⟩
theorem SI {f:Flash} (hf:Co f):∃d r,Fv f=some (d,true)/\Ju d r/\d.Flash=f:=by
 obtain⟨r,hs,a⟩:=AFy hf;have hr:=dZ hs hf;obtain⟨g1,g2⟩:=YL hr;obtain⟨b1,b2⟩:=dC (B4 r);obtain⟨t,t1,t2,t3⟩:=XN (Ek (B4 r)) (by omega) (λx hx=>g2 x (b2 x hx));refine⟨AE.mk f t (Fs r) (DR r) (KE (Ek (B4 r))),r,?_,⟨hf,hs,a,t2,t3,rfl,rfl,rfl⟩,rfl⟩;unfold Fv;rw [Rn hf,hs.s,E6 f hf.cap];unfold OE;simp only [Aa,Ao,Ac];rw [i9 r hr,UI r hr];simp only [Aa];rw [Xy _ g1 g2];simp only [Aa];rw [t1];rfl
theorem oE (a b:List Int) (ha:a.length<=1048576):KO a b=some (decide (a=b)):=by
 unfold KO;by_cases hl:a.length=b.length
 ·rw [show(ln a !=ln b)=false by simp [ln,hl]];simp only [Ac]
  rw [AAk (body:=λs:Int=>Gw a b s) a b (λx y=>x==y) hl (by omega)
   (λi x y hx hy=>by
    have hi:=(Ah.1 hx).1;simp only [Gw,AH,Ad hi,Ae,AF,hx,hy,Aa];rw [ad1 (by omega)]
    cases c:x==y<;>simp [bne,c])
   (by simp only [Gw,AH,As,Aw,Ac])]
  have:=yU (p:=λx y:Int=>x==y) (a:=a) (b:=b) (λx _ y _=>by simp) hl
  cases hz:(a.zip b).all (λz=>z.1==z.2)with
  |true=>rw [Ad (this.1 hz)];rfl
  |false=>rw [Af (λhh=>by rw [this.2 hh]at hz;cases hz)];rfl
 rw [show(ln a !=ln b)=true by simp [ln];omega,Af (λhh=>hl (by rw [hh]))];rfl
theorem Vi {a b:Store} (ha:Em a) (hb:Em b):Le a b=some (decide (Cd a=Cd b/\a.Next=b.Next)):=by
 have d:=ha.len;have e:=hb.len;have f:=ha.few;have g:=hb.few;unfold Le;by_cases hl:a.Vols.length=b.Vols.length
 ·rw [show(ln a.Vols !=ln b.Vols)=false by simp [ln,hl]];simp only [Ac,Aa];by_cases hn:a.Next=b.Next
  ·rw [show(a.Next !=b.Next)=false by simp [hn]];simp only [Ac]
   rw [AAk (body:=λs:Int=>HI a b s) a.Vols b.Vols (λv w=>v.Id==w.Id&&decide (Fi a.Arena.Knots v.Root=Fi b.Arena.Knots w.Root)) hl (by omega)
    (λi x y hx hy=>by
     have hi:=(Ah.1 hx).1;simp only [HI,AH,Ad hi,Ae,AF,hx,hy,Aa];rw [OP _ (by omega) ha.ar (ha.root _ (AO.2 ⟨x,A8 hx,rfl⟩)),OP _ (by omega) hb.ar (hb.root _ (AO.2 ⟨y,A8 hy,rfl⟩))];simp only [Aa];rw [oE _ _ (by unfold Fi;simp)];simp only [Aa];rw [ad1 (by omega)]
     cases c:x.Id==y.Id with
     |false=>simp [bne,c]
     |true=>
      simp only [bne,c,Ao,Ac,C8]
      cases decide (Fi a.Arena.Knots x.Root=Fi b.Arena.Knots y.Root)<;>rfl)
    (by simp only [HI,AH,As,Aw,Ac])]
   have key:(a.Vols.zip b.Vols).all (λz=>z.1.Id==z.2.Id&&decide (Fi a.Arena.Knots z.1.Root=Fi b.Arena.Knots z.2.Root))=decide (Cd a=Cd b):=by
    unfold Cd;generalize a.Vols=l at hl;generalize b.Vols=m at hl
    induction l generalizing m with
    |nil=>cases m with
     |nil=>simp
     |cons y m=>simp at hl
    |cons x l ih=>
     cases m with
     |nil=>simp at hl
     |cons y m=>
      rw [List.zip_cons_cons,EG,ih m (by simpa using hl),DG];simp only [An,Ci,A9,BV,PC,Bx]
   rw [key]
   cases hd:decide (Cd a=Cd b)with
   |true=>rw [Ad ⟨Hr hd,hn⟩];rfl
   |false=>rw [Af (λhh=>of_decide_eq_false hd hh.1)];rfl
  rw [show(a.Next !=b.Next)=true by simpa using hn,Af (λhh=>hn hh.2)];rfl
 rw [show(ln a.Vols !=ln b.Vols)=true by simp [ln];omega,Af (λhh=>hl (by have:=BH List.length hh.1;rwa [Ov,Ov]at this))];rfl
theorem U7 {d:AE} {r:List Al} (h:Ju d r):NS d=some d:=by
 have:=h.st.len;unfold NS;rw [E6 _ h.fl.cap,LO _ (Tq h.st.ar (by have:=h.st.few;omega)) (by omega)];rfl
theorem Ju.uniq {d d':AE} {r r':List Al} (h:Ju d r) (h':Ju d' r') (e:d.Flash=d'.Flash):r=r':=by
 have h1:=h.sr;have h2:=h'.sr;rw [<-e]at h2;exact h1.uniq h2
theorem jO {d:AE} {r:List Al} (h:Ju d r):ON d=some true:=by
 obtain⟨m,r',h1,h2,h3⟩:=SI h.fl;obtain rfl:=h.uniq h2 h3.symm;unfold ON;rw [h1];simp only [Aa,Ae];have e:=h2.ab.trans h.ab.symm
 injection e with e1 e2
 rw [Vi h2.st h.st,Ad ⟨e1,e2⟩];simp only [Aa,Ae];rw [h2.seq,h.seq,h2.tx,h.tx,h2.base,h.base];simp only [BEq.rfl,Ae];rw [UG h.st];rfl
end Go.TI
namespace Go.TI
open Go
theorem YQ {α β:Type} {l:List α} {f g:α->Option β} (h:∀x∈l,f x=g x):l.filterMap f=l.filterMap g:=by
 induction l with
 |nil=>rfl
 |cons a l ih=>rw [Ic,Ic,h a (by simp),ih (λx hx=>h x (by simp [hx]))]
theorem xG {α:Type} {l:List α} {p q:α->Bool} (h:∀x∈l,p x=q x):l.find? p=l.find? q:=by
 induction l with
 |nil=>rfl
 |cons a l ih=>rw [List.find?_cons,List.find?_cons,h a (by simp),ih (λx hx=>h x (by simp [hx]))]
theorem UN {r r':List Al} {t:Int} (h:∀part cnt,Ud r' t part cnt=Ud r t part cnt):∀(n:Nat) (part cnt:Int) (x:List UInt8) (q:Int),parts r' t n part cnt x q=parts r t n part cnt x q
 |0,_,_,_,_=>rfl
 |n+1,part,cnt,x,q=>by
  simp only [parts,h];split
  ·split
   ·rfl
   exact UN h n _ _ _ _
  rfl
theorem R9 {r r':List Al} {t:Int} (h:∀part cnt,Ud r' t part cnt=Ud r t part cnt):I4 r' t=I4 r t:=by
 unfold I4;rw [UN h]
theorem TY {t part cnt:Int} {y:Al} (h:isM t part cnt y=true):y.Page.Kind=2/\y.Page.Tx=t/\y.Page.Part=part:=by
 unfold isM at h;simp only [An,Ci]at h;exact⟨h.1,h.2.1,h.2.2.1⟩
theorem mT (r m:List Al) (t part cnt:Int):Ud (r++m) t part cnt=(Ud r t part cnt).or (Ud m t part cnt):=by unfold Ud;rw [List.find?_append]
theorem Tj {r:List Al} {t part cnt:Int} (h:∀y∈r,y.Page.Kind=2->y.Page.Tx≠t):Ud r t part cnt=none:=by
 unfold Ud;rw [Fl];intro y hy hm;obtain⟨h1,h2,_⟩:=TY hm;exact h y hy h1 h2
theorem AAr {r:List Al} {t:Int} (h:∀y∈r,y.Page.Kind=2->y.Page.Tx≠t):I4 r t=none:=by
 unfold I4;have:parts r t 11 0 0 [] 0=none:=by
  simp only [parts];rw [A4 (.inl trivial),Tj h]
 rw [this]
theorem AAS (r:List Al) {y:Al} (hy:y.Page.Kind≠2):Ee (r++ [y])=Ee r:=by rw [SS,A5 hy]
theorem UW (r:List Al) {y:Al} (hy:y.Page.Kind≠2):B4 (r++ [y])=B4 r:=by
 unfold B4;rw [AAS r hy];congr 1;funext t
 refine R9 λpart cnt=>?_
 rw [mT,Tj (r:=[y]) (λz hz hk=>by
  rw [A3]at hz;rw [hz]at hk
  exact absurd hk hy),Option.or_none]
structure fE (m:List Al) (t:Int) (n:Nat) (texts:List ByteArray):Prop where
 len:m.length<=n
 pos:1<=n/\n<=9
 tl:texts.length=n
 at_:∀(i:Nat) y,m[i]?=some y->y.Page.Kind=2/\y.Page.Tx=t/\y.Page.Part=i/\y.Page.Count=n/\texts[i]?=some y.Page.Text
theorem fE.all {m:List Al} {t:Int} {n:Nat} {texts:List ByteArray} (h:fE m t n texts) {y:Al} (hy:y∈m):y.Page.Kind=2/\y.Page.Tx=t:=by
 obtain⟨i,hi,rfl⟩:=AG hy;obtain⟨h1,h2,_⟩:=h.at_ i _ (Ab hi);exact⟨h1,h2⟩
theorem ACj (r:List Al) (hr:∀y∈r,1<=y.Page.Tx) {t:Int} (ht:∀y∈r,y.Page.Kind=2->y.Page.Tx<t) (h0:1<=t):∀(m:List Al),m≠ []->(∀y∈m,y.Page.Kind=2/\y.Page.Tx=t)->Ee (r++m)=Ee r++ [t]:=by
 intro m hm a
 have h1:=Ip (r++m) (λy hy=>by
  rcases Ak.1 hy with hy|hy
  ·exact hr y hy
  rw [(a y hy).2];exact h0)
 have h2:=Ip r hr
 refine W0 h1.1 ?_ λx=>?_
 ·unfold asc;rw [AX];refine⟨h2.1,Iz _ _,λx hx z hz=>?_⟩;rw [A3]at hz;obtain⟨y,hy,hk,rfl⟩:=(h2.2.1 x).1 hx;rw [hz];exact ht y hy hk
 rw [h1.2.1,Ak,A3,h2.2.1];constructor
 ·rintro⟨y,hy,hk,rfl⟩
  rcases Ak.1 hy with hy|hy
  ·exact .inl ⟨y,hy,hk,rfl⟩
  exact .inr (a y hy).2
 rintro(⟨y,hy,hk,rfl⟩|rfl)
 ·exact⟨y,Ak.2 (.inl hy),hk,rfl⟩
 cases m with
 |nil=>exact absurd rfl hm
 |cons y m=>exact⟨y,by simp,(a y (by simp)).1,(a y (by simp)).2⟩
theorem AEa {m:List Al} {t:Int} {n:Nat} {texts:List ByteArray} (h:fE m t n texts) {part:Nat} {cnt:Int} (hc:part=0\/cnt=n):Ud m t part cnt=m[part]? :=by
 cases hy:m[part]? with
 |none=>
  unfold Ud;rw [Fl];intro y a hm;obtain⟨i,hi,rfl⟩:=AG a;obtain⟨_,_,h3,_⟩:=h.at_ i _ (Ab hi);have:=(TY hm).2.2;rw [List.getElem?_eq_none_iff]at hy;omega
 |some y=>
  obtain⟨h1,h2,h3,h4,_⟩:=h.at_ part y hy;refine AAj m _ (λj x hj hx=>?_) hy ?_
  ·obtain⟨_,_,k3,_⟩:=h.at_ j x hx;rw [Bool.eq_false_iff];intro hm;have:=(TY hm).2.2;omega
  unfold isM;rw [h1,h2,h3,h4];simp only [BEq.rfl,C8,CN,Dg,AZ,Ci]
  rcases hc with hc|hc
  ·left;omega
  right;omega
def NH (l:List ByteArray):List UInt8:=l.flatMap L
theorem dX {r m:List Al} {t:Int} {n:Nat} {texts:List ByteArray} (hr:∀y∈r,y.Page.Kind=2->y.Page.Tx≠t) (h:fE m t n texts):∀(k part:Nat) (cnt:Int) (x:List UInt8) (q:Int) (fuel:Nat),part+k=n->(part=0\/cnt=n)->k<fuel->
  (m.length=n->∃q',parts (r++m) t fuel part cnt x q=some (x++NH (texts.drop part),q'))/\(m.length<n->part<=m.length->parts (r++m) t fuel part cnt x q=none)
 |k,part,cnt,x,q,0,hk,hc,hf=>by omega
 |0,part,cnt,x,q,fuel+1,hk,hc,hf=>by
  have hp:=h.pos;simp only [parts];rw [A5 (by omega)];refine⟨λ_=>⟨q,?_⟩,λh1 h2=>by omega⟩;rw [CP (by have:=h.tl;omega)];simp [NH]
 |k+1,part,cnt,x,q,fuel+1,hk,hc,hf=>by
  have hp:=h.pos;simp only [parts];rw [A4 (by omega),mT,Tj hr,cJ,AEa h hc]
  cases hy:m[part]? with
  |none=>
   rw [List.getElem?_eq_none_iff]at hy;exact⟨λh1=>by omega,λ_ _=>rfl⟩
  |some y=>
   obtain⟨h1,h2,h3,h4,h5⟩:=h.at_ part y hy;have a:=(Ah.1 hy).1;simp only [];obtain⟨k1,k2⟩:=dX hr h k (part+1) y.Page.Count (x++L y.Page.Text) (RV part q y) fuel (by omega) (.inr h4) (by omega);rw [show((part+1:Nat):Int)=(part:Int)+1 from rfl]at k1 k2;refine⟨λh6=>?_,λh6 h7=>k2 h6 (by omega)⟩;obtain⟨q',k3⟩:=k1 h6;refine⟨q',?_⟩;rw [k3]
   rw [show texts.drop part=y.Page.Text::texts.drop (part+1) by
    have h8:=(Ah.1 h5)
    rw [Bh h8.1,h8.2]]
   simp only [NH,Hu,Aq]
theorem wW (r:List Al) (hr:∀y∈r,1<=y.Page.Tx) {t:Int} (ht:∀y∈r,y.Page.Kind=2->y.Page.Tx<t) (h0:1<=t) {m:List Al} {n:Nat} {texts:List ByteArray} (h:fE m t n texts):
  (m.length<n->B4 (r++m)=B4 r)/\(m.length=n->∀recs,dR (bs (NH texts))=some recs->∃q,B4 (r++m)=B4 r++ [Tx.mk t q recs]):=by
 have c:∀y∈r,y.Page.Kind=2->y.Page.Tx≠t:=λy hy hk=>by have:=ht y hy hk;omega
 have old:∀x∈Ee r,I4 (r++m) x=I4 r x:=by
  intro x hx;have:=Ip r hr;obtain⟨y,hy,hk,rfl⟩:=(this.2.1 x).1 hx;have:=ht y hy hk
  refine R9 λpart cnt=>?_
  rw [mT,Tj (r:=m) (λz hz d=>by rw [(h.all hz).2];omega),Option.or_none]
 have oldG:(Ee r).filterMap (I4 (r++m))=B4 r:=by
  unfold B4;exact YQ old
 by_cases hm:m=[]
 ·subst hm;have:=h.pos;refine⟨λ_=>by rw [Az],λh1=>by simp at h1;omega⟩
 have a:=ACj r hr ht h0 m hm (λy hy=>h.all hy);have hg:B4 (r++m)=B4 r++(match I4 (r++m) t with|some x=>[x]|none=>[]):=by
  have:B4 (r++m)=(Ee (r++m)).filterMap (I4 (r++m)):=rfl;rw [this,a,NL,oldG];congr 1
  cases hx:I4 (r++m) t with
  |none=>simp [hx]
  |some x=>simp [hx]
 have hp:=h.pos;obtain⟨p1,p2⟩:=dX c h n 0 0 [] 0 11 (by omega) (.inl rfl) (by omega);refine⟨λh1=>?_,λh1 recs b=>?_⟩
 ·have:I4 (r++m) t=none:=by
   unfold I4;have:=p2 h1 (by omega);rw [show((0:Nat):Int)=0 from rfl]at this;rw [this]
  rw [hg,this,Az]
 obtain⟨q,p3⟩:=p1 h1;rw [show((0:Nat):Int)=0 from rfl]at p3;have:I4 (r++m) t=some (Tx.mk t q recs):=by
  unfold I4;rw [p3];simp only [A7,List.drop_zero];rw [b];rfl
 exact⟨q,by rw [hg,this]⟩
structure tL (r:List Al):Prop where
 uniq:∀y∈r,∀z∈r,y.Page.Kind=2->z.Page.Kind=2->y.Page.Tx=z.Page.Tx->y.Page.Part=z.Page.Part->y=z
theorem xE {r:List Al} (h:tL r) (p:Al->Bool) {t part cnt:Int} {y:Al} (hf:Ud (r.filter p) t part cnt=some y):Ud r t part cnt=some y:=by
 obtain⟨h1,h2⟩:=YP hf;have h3:=(AK.1 h1).1
 cases hz:Ud r t part cnt with
 |none=>
  unfold Ud at hz;rw [Fl]at hz;exact absurd h2 (hz y h3)
 |some z=>
  obtain⟨k1,k2⟩:=YP hz;obtain⟨a1,a2,a3⟩:=TY h2;obtain⟨b1,b2,b3⟩:=TY k2;rw [h.uniq z k1 y h3 b1 a1 (by rw [a2,b2]) (by rw [a3,b3])]
theorem SP {r:List Al} (h:tL r) (p:Al->Bool) {t:Int}:∀(n:Nat) (part cnt:Int) (x:List UInt8) (q:Int) (w:List UInt8×Int),parts (r.filter p) t n part cnt x q=some w->parts r t n part cnt x q=some w
 |0,_,_,_,_,_,hw=>by cases hw
 |n+1,part,cnt,x,q,w,hw=>by
  simp only [parts]at hw⊢;split
  ·rename_i hc;rw [A4 hc]at hw
   cases hf:Ud (r.filter p) t part cnt with
   |none=>rw [hf]at hw;cases hw
   |some y=>
    rw [hf]at hw;rw [xE h p hf];exact SP h p n _ _ _ _ w hw
  rename_i hc;rw [A5 hc]at hw;exact hw
theorem nX {r:List Al} (h:tL r) (p:Al->Bool) {t:Int} {x:Tx} (hx:I4 (r.filter p) t=some x):I4 r t=some x:=by
 unfold I4 at hx⊢
 cases hp:parts (r.filter p) t 11 0 0 [] 0 with
 |none=>rw [hp]at hx;cases hx
 |some w=>
  rw [hp]at hx;rw [SP h p _ _ _ _ _ w hp];exact hx
theorem wX (r:List Al) (hr:IV r):(B4 r).Pairwise λx y=>x.Num<y.Num:=by
 have h1:=(Ip r (λy hy=>(hr.tx y hy).1)).1;unfold B4;rw [List.pairwise_filterMap];refine List.Pairwise.imp ?_ h1;intro a b c x hx y hy;rw [(QB hr hx).1,(QB hr hy).1];exact c
theorem Tl {α β:Type} (l:List α) (f:α->Option β) (q:β->Bool):(l.filterMap f).filter q=l.filterMap (λa=>(f a).filter q):=by
 induction l with
 |nil=>rfl
 |cons a l ih=>
  cases h:f a with
  |none=>simp [h,ih]
  |some b=>
   cases hq:q b with
   |true=>simp [h,hq,ih,Option.filter]
   |false=>simp [h,hq,ih,Option.filter]
theorem fS (r:List Al) (hr:IV r) (h:tL r) (p:Al->Bool) (hp:∀y∈r,y.Page.Kind=2->KE (Ek (B4 r))<=y.Page.Tx->p y=true):Ek (B4 (r.filter p))=Ek (B4 r):=by
 have hr':IV (r.filter p):=⟨by have:=BI p r;have:=hr.len;omega,λy hy=>hr.text y (AK.1 hy).1,λy hy=>hr.seq y (AK.1 hy).1,λy hy=>hr.tx y (AK.1 hy).1,λy hy=>hr.cnt y (AK.1 hy).1,λy hy=>hr.part y (AK.1 hy).1⟩;have s1:=Ip r (λy hy=>(hr.tx y hy).1);have s2:=Ip (r.filter p) (λy hy=>(hr'.tx y hy).1);have e1:B4 (r.filter p)=(Ee r).filterMap (I4 (r.filter p)):=by
  have hn:Ee (r.filter p)=(Ee r).filter (λt=>decide (t∈Ee (r.filter p))):=by
   refine W0 s2.1 (List.Pairwise.filter _ s1.1) λx=>?_
   rw [AK,A9];refine⟨λhx=>⟨?_,hx⟩,λhx=>hx.2⟩;obtain⟨y,hy,hk,rfl⟩:=(s2.2.1 x).1 hx;exact(s1.2.1 _).2 ⟨y,(AK.1 hy).1,hk,rfl⟩
  unfold B4
  conv=>lhs;rw [hn]
  rw [List.filterMap_filter]
  refine YQ λt ht=>?_
  by_cases e:t∈Ee (r.filter p)
  ·rw [A4 (by simpa using e)]
  rw [A5 (by simpa using e)];symm
  refine AAr λy hy hk f=>e ((s2.2.1 t).2 ⟨y,hy,hk,f⟩)
 have keep:∀t,KE (Ek (B4 r))<=t->I4 (r.filter p) t=I4 r t:=by
  intro t ht
  refine R9 λpart cnt=>?_
  unfold Ud;rw [List.find?_filter]
  refine xG λy hy=>?_
  cases hm:isM t part cnt y with
  |false=>simp
  |true=>
   obtain⟨a1,a2,_⟩:=TY hm;rw [hp y hy a1 (by omega)];rfl
 have e2:B4 (r.filter p)=(B4 r).filter λx=>(I4 (r.filter p) x.Num).isSome:=by
  rw [e1];unfold B4;rw [Tl]
  refine YQ λt ht=>?_
  cases hx:I4 (r.filter p) t with
  |some x=>
   have h1:=nX h p hx;rw [h1];have h2:=(QB hr h1).1;simp only [Option.filter,h2,hx,Rr,Cc]
  |none=>
   cases hy:I4 r t with
   |none=>rfl
   |some x=>
    have h2:=(QB hr hy).1;simp only [Option.filter,h2,hx,GD,BR,GB]
 obtain⟨A,h1,h2,h3⟩:=n9 (B4 r);have a:=wX r hr;have hB:(Ek (B4 r)).filter (λx=>(I4 (r.filter p) x.Num).isSome)=Ek (B4 r):=by
  rw [Gp];intro x hx;have g:=(dC (B4 r)).2 x hx;obtain⟨t,_,ht⟩:=List.mem_filterMap.1 g;have hn:=(QB hr ht).1;have i:KE (Ek (B4 r))<=x.Num:=by
   rw [h1,AX]at a
   cases hb:Ek (B4 r)with
   |nil=>rw [hb]at hx;cases hx
   |cons b B=>
    have c:=a.2.1;rw [hb,Cs]at c;rw [hb,By]at hx;simp only [KE]
    rcases hx with rfl|hx
    ·exact FD _
    have:=c.1 x hx;omega
  rw [keep _ i,hn,ht];rfl
 rw [e2]
 conv=>lhs;rw [h1]
 rw [AQ,hB];refine ABL _ _ (λd=>h2 λhA=>?_) h3;rw [hA]at d;exact d rfl
end Go.TI
namespace Go.TI
open Go
theorem Ui:∀n:Nat,∃ds x,Cy n=ds++ [x]/\(∀d∈ds,128<=d.toNat)/\x.toNat<128/\Fe (Cy n)=n
 |n=>by
  by_cases h:n<=127
  ·rw [IU h];have:(UInt8.ofNat n).toNat=n:=by rw [GC];omega
   exact⟨[],_,rfl,by simp,by omega,by simp only [Fe];omega⟩
  obtain⟨ds,x,h1,h2,h3,h4⟩:=Ui (n/128);rw [Qz h];have e:(UInt8.ofNat (n %128+128)).toNat=n %128+128:=by rw [GC];omega
  refine⟨UInt8.ofNat (n %128+128)::ds,x,by rw [h1];rfl,?_,h3,?_⟩
  ·intro d hd
   rcases By.1 hd with rfl|hd
   ·omega
   exact h2 d hd
  simp only [Fe];rw [h4,e];omega
termination_by n=>n
decreasing_by omega
theorem HT {n:Nat} (h:n<=1000000000):1<=(Cy n).length/\(Cy n).length<=5:=by
 have key:∀(k n:Nat),n<128^(k+1)->(Cy n).length<=k+1:=by
  intro k
  induction k with
  |zero=>intro n hn;rw [IU (by omega)];simp
  |succ k ih=>
   intro n hn;by_cases h:n<=127
   ·rw [IU h];simp
   rw [Qz h,Ay];have:=ih (n/128) (by rw [We]at hn;omega);omega
 refine⟨?_,key 4 n (by omega)⟩;obtain⟨ds,x,h1,_⟩:=Ui n;rw [h1];simp
theorem tF (t:ByteArray) (ht:(L t).length<=20000) (a n:Nat) (hn:n<=1000000000) (rest:List UInt8) (h:(L t).drop a=Cy n++rest):Ji t (a:Int)=some ((n:Int),((a+(Cy n).length:Nat):Int),true):=by
 obtain⟨ds,x,hD,u,hx,hv⟩:=Ui n;obtain⟨h0,h1⟩:=HT hn;have z:(L t).length-a=(Cy n).length+rest.length:=by
  have:=BH List.length h;rw [B8,Ag]at this;exact this
 have h2:(Cy n).length=ds.length+1:=by rw [hD];simp
 have f:∀k,k<=(Cy n).length->((L t).drop a).take k=(Cy n).take k:=λk hk=>by rw [h,I8 hk]
 have key:∀(m k:Nat),k+m=ds.length->Av (λs:Int×Int×Int=>DC t (a:Int) s.1 s.2.1 s.2.2) (((Fe ((Cy n).take k):Nat):Int),((128^k:Nat):Int),((a+k:Nat):Int))=some (.inr ((n:Int),((a+(Cy n).length:Nat):Int),true)):=by
  intro m
  induction m with
  |zero=>
   intro k hk;have g:k=ds.length:=by omega
   suffices d:DC t (a:Int) ((Fe ((Cy n).take k):Nat):Int) ((128^k:Nat):Int) ((a+k:Nat):Int)=some (.inr (.inr ((n:Int),((a+(Cy n).length:Nat):Int),true))) by
    rw [A6];simp only [d]
   simp only [DC];have e:a+k<(L t).length:=by omega
   rw [CC (b:=5) (by omega) (by omega),BO,Ad (by omega:((a+k:Nat):Int)<(a:Int)+5),Ad (by omega:((a+k:Nat):Int)<((L t).length:Int))];simp only [Ae,Aa,Fo t e];have hb:(L t)[a+k]=x:=by
    have:((L t).drop a)[k]?=some x:=by
     rw [h,hD,AS (by simp;omega),g,AU (A0 _),Q9];rfl
    rw [Cl,Ab e]at this;injection this
   rw [hb];have c:=Nd ds [x];rw [<-hD,hv]at c;have v:(Cy n).take k=ds:=by rw [hD,g,PB rfl]
   rw [v];simp only [Fe,Nat.mul_zero,Gr]at c;have hp:=kC k (by omega);have hw:IntKind.i64.wrap (x.toNat:Int)=x.toNat:=NM (by omega) (by omega);have l:x.toNat %128*128^k<=127*268435456:=cL (by omega) hp;have emul:ml ((x.toNat %128:Nat):Int) ((128^k:Nat):Int)=((x.toNat %128*128^k:Nat):Int):=by
    have ec:((x.toNat %128:Nat):Int)*((128^k:Nat):Int)=((x.toNat %128*128^k:Nat):Int):=by norm_cast
    rw [Ob (by rw [ec];omega) (by rw [ec];omega),ec]
   have i:=Wh ds;rw [<-g]at i c;have enew:ad ((Fe ds:Nat):Int) ((x.toNat %128*128^k:Nat):Int)=(n:Int):=by
    rw [CC (by omega) (by omega),c,yL (128^k)];omega
   rw [hw,fO,emul,enew,Ad (by omega:(x.toNat:Int)<128),Af (by omega:¬(n:Int)>1000000000),ad1 (by omega)];simp only [Ae,Ac];obtain⟨s,w,y⟩:=Iq n (by omega);rw [F8 t (by omega) (by omega),w];simp only [Aa];have o:seq s (t.extract a (a+k+1))=true:=by
    rw [PS,y,HZ,show a+k+1-a=k+1 by omega,f _ (by omega),Bb (by omega)];simp
   rw [o];simp only [Ao,Ac];rw [show a+k+1=a+(Cy n).length by omega]
  |succ m ih=>
   intro k hk;suffices d:DC t (a:Int) ((Fe ((Cy n).take k):Nat):Int) ((128^k:Nat):Int) ((a+k:Nat):Int)=some (.inl (((Fe ((Cy n).take (k+1)):Nat):Int),((128^(k+1):Nat):Int),((a+(k+1):Nat):Int))) by
    rw [A6];simp only [d];exact ih (k+1) (by omega)
   simp only [DC];have e:a+k<(L t).length:=by omega
   rw [CC (b:=5) (by omega) (by omega),BO,Ad (by omega:((a+k:Nat):Int)<(a:Int)+5),Ad (by omega:((a+k:Nat):Int)<((L t).length:Int))];simp only [Ae,Aa,Fo t e];have j:k<ds.length:=by omega
   have p:(Cy n)[k]?=some ds[k]:=by rw [hD,AS j,Ab j]
   have hb:(L t)[a+k]=ds[k]:=by
    have:((L t).drop a)[k]?=some ds[k]:=by
     rw [h,AS (by omega),p]
    rw [Cl,Ab e]at this;injection this
   rw [hb];have h128:=u _ (AJ j);have hx:=nW ds[k];have q:(Cy n).take (k+1)=(Cy n).take k++ [ds[k]]:=by rw [EI,p];rfl
   have r:((Cy n).take k).length=k:=by rw [AD];omega
   have c:=Nd ((Cy n).take k) [ds[k]];rw [<-q,r]at c;have i:=Wh ((Cy n).take k);rw [r]at i;have hp:=kC k (by omega);generalize ds[k]=x at hx q c h128;simp only [Fe,Nat.mul_zero,Gr]at c;have hw:IntKind.i64.wrap (x.toNat:Int)=x.toNat:=NM (by omega) (by omega);have l:x.toNat %128*128^k<=127*268435456:=cL (by omega) hp;have emul:ml ((x.toNat %128:Nat):Int) ((128^k:Nat):Int)=((x.toNat %128*128^k:Nat):Int):=by
    have ec:((x.toNat %128:Nat):Int)*((128^k:Nat):Int)=((x.toNat %128*128^k:Nat):Int):=by norm_cast
    rw [Ob (by rw [ec];omega) (by rw [ec];omega),ec]
   have enew:ad (((Fe ((Cy n).take k):Nat)):Int) ((x.toNat %128*128^k:Nat):Int)=((Fe ((Cy n).take (k+1)):Nat):Int):=by
    rw [CC (by omega) (by omega),c,yL (128^k)];omega
   have e1:ml ((128^k:Nat):Int) 128=((128^(k+1):Nat):Int):=by
    rw [Ob (by omega) (by omega),We];norm_cast
   rw [hw,fO,emul,enew,Af (by omega:¬(x.toNat:Int)<128),e1,ad1 (by omega)];rfl
 unfold Ji;rw [BO,EE,Ad (by omega)];simp only [Aa,Ao,Ac];have k0:=key ds.length 0 (by omega);simp only [Iy,Fe,Nat.pow_zero,Gr]at k0;rw [show((0:Nat):Int)=0 from rfl,show((1:Nat):Int)=1 from rfl]at k0;rw [k0];rfl
theorem K4 (t:ByteArray) (ht:(L t).length<=20000) (a n:Nat) (hn:n<=1000000000) (rest:List UInt8) (h:(L t).drop a=Cy n++rest):EB (ED.mk t (a:Int) false)=some ((n:Int),ED.mk t ((a+(Cy n).length:Nat):Int) false):=by
 rw [Jo t _ ht (tF t ht a n hn rest h)];rfl
def vT (r:C3):List UInt8:=UInt8.ofNat (16*r.Kind+r.Vol).toNat::(Cy r.Arg.toNat++Cy r.Chunk.toNat)
theorem j7 {r:C3} (h:Im r=true):1<=r.Kind/\r.Kind<=5/\0<=r.Vol/\r.Vol<=9/\0<=r.Arg/\r.Arg<=1000000000/\0<=r.Chunk/\r.Chunk<=1000000000:=by
 unfold Im at h
 cases k1:(r.Kind==1)with
 |true=>
  have e1:r.Kind=1:=by simpa using k1
  rw [k1]at h;simp at h;omega
 |false=>
  rw [k1]at h;cases k2:(r.Kind==2)<;>cases k3:(r.Kind==3)<;>cases k4:(r.Kind==4)<;>rw [k2,k3,k4]at h<;>simp at h k2 k3 k4<;>omega
theorem iK {r:C3} (h:Im r=true):∃t,Mm r=some (t,true)/\L t=vT r:=by
 obtain⟨h1,h2,h3,h4,h5,h6,h7,h8⟩:=j7 h;obtain⟨sa,a1,a2⟩:=Iq r.Arg.toNat (by omega);obtain⟨sc,c1,c2⟩:=Iq r.Chunk.toNat (by omega);rw [B6 h5]at a1;rw [B6 h7]at c1;unfold Mm Jc;rw [QH,h];simp only [Aa,Ao,Ac];rw [Ob (by omega) (by omega),CC (by omega) (by omega),a1];simp only [Aa];have l1:=(HT (show r.Arg.toNat<=1000000000 by omega)).2;have l2:=(HT (show r.Chunk.toNat<=1000000000 by omega)).2;have hb:∀x,(L (E9 [x])).length=1:=PL;rw [Gn _ _ (by rw [hb,a2];omega),c1];simp only [Aa];rw [Gn _ _ (by rw [DB,Ag,hb,a2,c2];omega)];simp only [Aa];refine⟨_,rfl,?_⟩;rw [DB,DB,IW,a2,c2];unfold vT;have hw:IntKind.u8.wrap (16*r.Kind+r.Vol)=16*r.Kind+r.Vol:=by
  rw [IntKind.wrap_u8];omega
 simp only [BV,yM,hw,Cq,BB,A7]
def GJ (l:List C3):List UInt8:=l.flatMap vT
theorem AB2 {r:C3} (h:Im r=true):3<=(vT r).length/\(vT r).length<=11:=by
 obtain⟨h1,h2,h3,h4,h5,h6,h7,h8⟩:=j7 h;have l1:=HT (show r.Arg.toNat<=1000000000 by omega);have l2:=HT (show r.Chunk.toNat<=1000000000 by omega);unfold vT;rw [Ay,Ag];omega
theorem dQ (t:ByteArray) (ht:(L t).length<=20000):∀(l:List C3) (a:Nat) (out:List C3),(∀r∈l,Im r=true)->(L t).drop a=GJ l->a<=(L t).length->out.length<=a->Av (λs:List C3×ByteArray×Int×Bool=>Ez t s.1 s.2.1 s.2.2.1 s.2.2.2) (out,t,(a:Int),false)=some (.inl (out++l))
 |[],a,out,hl,h,ha,ho=>by
  have:(L t).length=a:=by
   have:=BH List.length h;rw [B8]at this;simp [GJ]at this;omega
  rw [A6];simp only [Ez];rw [BO,Af (by omega),Az];rfl
 |r::l,a,out,hl,h,ha,ho=>by
  have hr:=hl r (by simp);obtain⟨h1,h2,h3,h4,h5,h6,h7,h8⟩:=j7 hr;have h':(L t).drop a=UInt8.ofNat (16*r.Kind+r.Vol).toNat::(Cy r.Arg.toNat++(Cy r.Chunk.toNat++GJ l)):=by
   rw [h];simp only [GJ,Hu,vT,BB,Aq]
  have b:a<(L t).length:=by
   have:=BH List.length h';rw [B8,Ay]at this;omega
  have c:=Bh b;rw [h']at c
  injection c with hx hd
  rw [A6];simp only [Ez];rw [BO,Ad (by omega)];simp only [Ae,Aa,AN];rw [Fo t b,ad1 (by omega)];simp only [Aa];rw [K4 t ht (a+1) r.Arg.toNat (by omega) _ hd.symm];simp only [Aa];have d:(L t).drop (a+1+(Cy r.Arg.toNat).length)=Cy r.Chunk.toNat++GJ l:=by
   rw [<-CE,<-hd,ES rfl]
  rw [K4 t ht _ r.Chunk.toNat (by omega) _ d];simp only [Aa,Ac];have hw:IntKind.i64.wrap (((L t)[a]).toNat:Int)=16*r.Kind+r.Vol:=by
   rw [<-hx,GC];rw [NM (by omega) (by omega)];omega
  have e1:qu (IntKind.i64.wrap (((L t)[a]).toNat:Int)) 16=r.Kind:=by
   rw [hw];unfold qu;rw [Int.tdiv_eq_ediv_of_nonneg (by omega),NM (by omega) (by omega)];omega
  have e2:Int.tmod (IntKind.i64.wrap (((L t)[a]).toNat:Int)) 16=r.Vol:=by
   rw [hw,JV (by omega)];omega
  rw [e1,e2,B6 h5,B6 h7];have e:C3.mk r.Kind r.Vol r.Arg r.Chunk=r:=rfl;rw [e,QH,hr];simp only [Aa,Ao,Ac];rw [C6 (by simp only [Aj];omega)];simp only [Aa];have l1:=HT (show r.Arg.toNat<=1000000000 by omega);have l2:=HT (show r.Chunk.toNat<=1000000000 by omega);have f:(L t).drop (a+1+(Cy r.Arg.toNat).length+(Cy r.Chunk.toNat).length)=GJ l:=by
   rw [<-CE,d,ES rfl]
  have g:a+1+(Cy r.Arg.toNat).length+(Cy r.Chunk.toNat).length<=(L t).length:=by
   have h9:=BH List.length h';rw [B8,Ay,Ag,Ag]at h9;omega
  have:=dQ t ht l _ (out++ [r]) (λx hx=>hl x (by simp [hx])) f g (by simp;omega);rw [Aq,Cq]at this;exact this
theorem vS {l:List C3} (hl:∀r∈l,Im r=true) (a:(GJ l).length<=20000):dR (bs (GJ l))=some l:=by
 have h:=dQ (bs (GJ l)) (by rw [Eg];exact a) l 0 [] hl (by rw [Eg];rfl) (by omega) (by simp);unfold dR Kt;have h':Av (λs:List C3×ByteArray×Int×Bool=>Ez (bs (GJ l)) s.1 s.2.1 s.2.2.1 s.2.2.2) ([],bs (GJ l),0,false)=some (.inl ([]++l)):=h;rw [h',A7];rfl
end Go.TI
namespace Go.TI
open Go
theorem yB (u:ByteArray) (hu:(L u).length<=20000) {v:Int} (hv:Nl u=some v):Kq (u++four v)=some (u,true):=by
 have a:(L (u++four v)).length=(L u).length+4:=by rw [DB,Ag,Ti]
 have e4:sb (FJ (u++four v)) 4=((L u).length:Int):=by rw [BO,a,Cw (by omega) (by omega)];omega
 unfold Kq;rw [e4,Af (by omega),Af (by omega)];simp only [Ac];have c:sub (u++four v) 0 ((L u).length:Int)=some u:=by
  rw [show(0:Int)=((0:Nat):Int)from rfl,F8 _ (by omega) (by omega)];congr 1;apply HY;rw [HZ,DB];simp
 have b:sub (u++four v) ((L u).length:Int) (FJ (u++four v))=some (four v):=by
  rw [BO,F8 _ (by omega) (by omega)];congr 1;apply HY;rw [HZ,a,DB,ES rfl,Bb (by rw [Ti];omega)]
 rw [c,b];simp only [Aa];rw [hv];have h3:Kp v=some (four v):=rfl;simp only [Aa,h3];have:seq (four v) (four v)=true:=by rw [J9];simp
 rw [this];rfl
def HL (p:Page):Prop:=(p.Kind=1\/p.Kind=2)/\(1<=p.Seq/\p.Seq<=1000000000)/\(1<=p.Tx/\p.Tx<=1000000000)/\(1<=p.Count/\p.Count<=9)/\(0<=p.Part/\p.Part<p.Count)/\(L p.Text).length<=90/\(p.Kind=2\/p.Count=1)
theorem RI (p:Page):∃v,JH p=some v/\(v=true↔HL p):=by
 unfold JH HL;rw [EE,EE,EE,EE,BO];simp only [Aa];by_cases h1:1<=p.Kind/\p.Kind<=2
 ·rw [Ad h1];by_cases h2:1<=p.Seq/\p.Seq<=1000000000
  ·rw [Ad h2];by_cases h3:1<=p.Tx/\p.Tx<=1000000000
   ·rw [Ad h3];by_cases h4:1<=p.Count/\p.Count<=9
    ·rw [Ad h4];simp only [Ao,Ac];rw [Cw (by omega) (by omega),EE];simp only [Aa];by_cases h5:0<=p.Part/\p.Part<=p.Count-1
     ·rw [Ad h5];simp only [Ao,Ac,Aa];by_cases h6:((L p.Text).length:Int)>90
      ·rw [Ad h6];exact⟨_,rfl,by simp only [BR,Re];omega⟩
      rw [Af h6];simp only [Ac];by_cases h7:p.Kind=2
      ·rw [show(p.Kind==2)=true by simpa using h7];exact⟨_,rfl,by simp only [true_iff];omega⟩
      rw [show(p.Kind==2)=false by simpa using h7];refine⟨_,rfl,?_⟩;rw [Ci];omega
     rw [Af h5];exact⟨_,rfl,by simp only [BR,Re];omega⟩
    rw [Af h4];exact⟨_,rfl,by simp only [BR,Re];omega⟩
   rw [Af h3];exact⟨_,rfl,by simp only [BR,Re];omega⟩
  rw [Af h2];exact⟨_,rfl,by simp only [BR,Re];omega⟩
 rw [Af h1];exact⟨_,rfl,by simp only [BR,Re];omega⟩
theorem AB9 {p:Page} (h:HL p):JH p=some true:=by
 obtain⟨v,h1,h2⟩:=RI p;rw [h1,h2.2 h]
theorem AAM {p:Page} (h:HL p):∃t,Es p=some (t,true)/\1<=(L t).length/\(L t).length<=120/\Fu t=some (p,true):=by
 obtain⟨h1,h2,h3,h4,h5,h6,h7⟩:=h
 let k:UInt8:=UInt8.ofNat p.Kind.toNat
 have hk:(k.toNat:Int)=p.Kind:=by
  show((UInt8.ofNat p.Kind.toNat).toNat:Int)=p.Kind;rw [GC];omega
 let u:=bs ([k]++Cy p.Seq.toNat++Cy p.Tx.toNat++Cy p.Part.toNat++Cy p.Count.toNat++L p.Text)
 have hu:L u=[k]++Cy p.Seq.toNat++Cy p.Tx.toNat++Cy p.Part.toNat++Cy p.Count.toNat++L p.Text:=Eg _;have l1:=HT (show p.Seq.toNat<=1000000000 by omega);have l2:=HT (show p.Tx.toNat<=1000000000 by omega);have l3:=HT (show p.Part.toNat<=1000000000 by omega);have l4:=HT (show p.Count.toNat<=1000000000 by omega);have e:(L u).length=1+(Cy p.Seq.toNat).length+(Cy p.Tx.toNat).length+(Cy p.Part.toNat).length+(Cy p.Count.toNat).length+(L p.Text).length:=by
  rw [hu];simp only [Ag,Aj]
 have l5:(L u).length<=116:=by omega
 obtain⟨v,hv,hs⟩:=(Rl u).2 (by omega);have c:=AB9 ⟨h1,h2,h3,h4,h5,h6,h7⟩;have a:=Vl p u k p.Seq.toNat p.Tx.toNat p.Part.toNat p.Count.toNat c hk.symm (by omega) (by omega) (by omega) (by omega) (by omega) (by omega) (by omega) (by omega) (by omega) hu;rw [hs]at a;refine⟨u++four v,a,by rw [DB,Ag];omega,by rw [DB,Ag,Ti];omega,?_⟩;unfold Fu;rw [yB u (by omega) hv];simp only [Aa,Ao,Ac];rw [BO,Af (by omega)];have d0:(L u).drop 1=Cy p.Seq.toNat++(Cy p.Tx.toNat++(Cy p.Part.toNat++(Cy p.Count.toNat++L p.Text))):=by
  rw [hu];simp only [Aq,Cq,BB,List.drop_succ_cons,List.drop_zero,A7]
 rw [show(1:Int)=((1:Nat):Int)from rfl,K4 u (by omega) 1 p.Seq.toNat (by omega) _ d0];simp only [Aa];have d1:(L u).drop (1+(Cy p.Seq.toNat).length)=Cy p.Tx.toNat++(Cy p.Part.toNat++(Cy p.Count.toNat++L p.Text)):=by rw [<-CE,d0,ES rfl]
 rw [K4 u (by omega) _ p.Tx.toNat (by omega) _ d1];simp only [Aa];have d2:(L u).drop (1+(Cy p.Seq.toNat).length+(Cy p.Tx.toNat).length)=Cy p.Part.toNat++(Cy p.Count.toNat++L p.Text):=by rw [<-CE,d1,ES rfl]
 rw [K4 u (by omega) _ p.Part.toNat (by omega) _ d2];simp only [Aa];have d3:(L u).drop (1+(Cy p.Seq.toNat).length+(Cy p.Tx.toNat).length+(Cy p.Part.toNat).length)=Cy p.Count.toNat++L p.Text:=by rw [<-CE,d2,ES rfl]
 rw [K4 u (by omega) _ p.Count.toNat (by omega) _ d3];simp only [Aa,Ac];have d4:(L u).drop (1+(Cy p.Seq.toNat).length+(Cy p.Tx.toNat).length+(Cy p.Part.toNat).length+(Cy p.Count.toNat).length)=L p.Text:=by rw [<-CE,d3,ES rfl]
 have d:sx u 0=some ((k.toNat:Nat):Int):=by
  rw [show(0:Int)=((0:Nat):Int)from rfl,Fo u (by omega)];have:(L u)[0]?=some k:=by rw [hu];simp
  rw [Ab (by omega)]at this
  injection this with this
  rw [this]
 rw [d];simp only [Aa];have b:sub u ((1+(Cy p.Seq.toNat).length+(Cy p.Tx.toNat).length+(Cy p.Part.toNat).length+(Cy p.Count.toNat).length:Nat):Int) ((L u).length:Int)=some p.Text:=by
  rw [F8 u (by omega) (by omega)];congr 1;apply HY;rw [HZ,d4,Bb (by omega)]
 rw [b];simp only [Aa];rw [NM (by omega) (by omega),hk,B6 (by omega),B6 (by omega),B6 (by omega),B6 (by omega)];have hp:Page.mk p.Kind p.Seq p.Tx p.Part p.Count p.Text=p:=rfl;rw [hp,a];simp only [Aa,Ao,Ac];have:seq (u++four v) (u++four v)=true:=by rw [J9];simp
 rw [this];rfl
theorem AB8 {p:Page} (h:¬HL p):Es p=some (bs [],false):=by
 obtain⟨v,h1,h2⟩:=RI p;unfold Es;rw [h1]
 cases v with
 |true=>exact absurd (h2.1 rfl) h
 |false=>rfl
end Go.TI
namespace Go.TI
open Go
theorem AAA (s:ByteArray) (f a:Nat) (hf:f<a) (ha:a<=(L s).length) (hs:(L s).length<=64):∃k:Nat,M9 s (f:Int) (a:Int)=some (k:Int)/\k<=31/\a+k<=(L s).length/\∀j,j<k->(L s)[f+j]?=(L s)[a+j]? :=by
 obtain⟨b,h1,k,rfl,h2,h3,h4⟩:=Bq (body:=λn:Int=>Hh s (f:Int) (a:Int) n) (λ(_:Unit) i=>i) 31 (λi _=>a+i<=(L s).length/\∀j,j<i->(L s)[f+j]?=(L s)[a+j]?) (λb=>∃k:Nat,b=(k:Int)/\k<=31/\a+k<=(L s).length/\∀j,j<k->(L s)[f+j]?=(L s)[a+j]?)
  (λ_ i hi hs=>by
   simp only [Hh];rw [Ad (by omega:(i:Int)<31),Ae,CC (by omega) (by omega),CC (by omega) (by omega),BO];by_cases c:a+i<(L s).length
   ·rw [Ad (by omega:((a:Int)+(i:Int))<((L s).length:Int)),Ae];have e1:((f:Int)+(i:Int))=((f+i:Nat):Int):=by omega
    have e2:((a:Int)+(i:Int))=((a+i:Nat):Int):=by omega
    rw [e1,e2,Fo s (by omega),Fo s c];simp only [Aa]
    cases hq:((((L s)[f+i]).toNat:Int)==(((L s)[a+i]).toNat:Int))with
    |true=>
     simp only [Ae];rw [ad1 (by omega)];refine .inl ⟨(),rfl,by omega,λj hj=>?_⟩;by_cases e:j=i
     ·subst e;rw [Ab (by omega),Ab c];congr 1;apply UInt8.toNat_inj.1;have:(((L s)[f+j]).toNat:Int)=(((L s)[a+j]).toNat:Int):=by simpa using hq
      omega
     exact hs.2 j (by omega)
    |false=>exact .inr ⟨_,rfl,i,rfl,by omega,hs.1,hs.2⟩
   rw [Af (by omega:¬((a:Int)+(i:Int))<((L s).length:Int)),Ac]
   exact .inr ⟨_,rfl,i,rfl,by omega,hs.1,hs.2⟩)
  (λ_ hs=>by
   simp only [Hh];rw [Af (by omega:¬((31:Nat):Int)<31),Ac]
   exact⟨_,rfl,31,rfl,by omega,hs.1,hs.2⟩) (s:=()) ⟨by omega,λj hj=>by omega⟩
 refine⟨k,?_,h2,h3,h4⟩;unfold M9;have h1':Av (λn:Int=>Hh s (f:Int) (a:Int) n) 0=some (k:Int):=h1;rw [h1'];rfl
def AC3 (s:ByteArray) (a z b:Nat):Prop:=z<=31/\a+z<=(L s).length/\(z=0\/(4<=z/\1<=b/\b<=a/\∀j,j<z->(L s)[a-b+j]?=(L s)[a+j]?))
theorem ABS (s:ByteArray) (a:Nat) (ha:a<=(L s).length) (hs:(L s).length<=64):∃z b:Nat,Av (λq:Int×Int×Int=>Ex s (a:Int) q.1 q.2.1 q.2.2) (0,0,(sb (a:Int) 1))=some ((z:Int),(b:Int))/\AC3 s a z b:=by
 rw [Cw (by omega) (by omega)];obtain⟨r,h1,z,b,rfl,h2⟩:=Bq (body:=λq:Int×Int×Int=>Ex s (a:Int) q.1 q.2.1 q.2.2) (λ(q:Nat×Nat) i=>((q.1:Int),(q.2:Int),(a:Int)-1-i)) a (λi q=>AC3 s a q.1 q.2) (λr=>∃z b:Nat,r=((z:Int),(b:Int))/\AC3 s a z b)
  (λq i hi hq=>by
   obtain⟨k,m1,m2,m3,m4⟩:=AAA s (a-1-i) a (by omega) ha hs;have e1:((a:Int)-1-(i:Int))=((a-1-i:Nat):Int):=by omega
   simp only [Ex,e1];rw [Ad (by omega:(((a-1-i:Nat)):Int)>=0),Ae,m1];simp only [Aa];rw [Cw (by omega) (by omega),Cw (by omega) (by omega)];refine .inl ?_;have e2:(((a-1-i:Nat):Int)-1)=(a:Int)-1-((i+1:Nat):Int):=by omega
   have e3:((a:Int)-((a-1-i:Nat):Int))=((1+i:Nat):Int):=by omega
   rw [e2,e3];by_cases h4:4<=k
   ·rw [Ad (by omega:(k:Int)>=4),Ae];by_cases h5:q.1<k
    ·rw [Ad (by omega:(k:Int)>(q.1:Int))];exact⟨(k,1+i),rfl,m2,m3,.inr ⟨h4,by omega,by omega,λj hj=>by rw [show a-(1+i)=a-1-i by omega];exact m4 j hj⟩⟩
    rw [Af (by omega:¬(k:Int)>(q.1:Int))];exact⟨q,rfl,hq⟩
   rw [Af (by omega:¬(k:Int)>=4),Ac]
   exact⟨q,rfl,hq⟩)
  (λq hq=>by
   simp only [Ex];rw [Af (by omega:¬((a:Int)-1-(a:Int))>=0),Ac]
   exact⟨_,rfl,q.1,q.2,rfl,hq⟩) (s:=(0,0)) ⟨by omega,by omega,.inl rfl⟩
 have e0:(((0:Nat):Int),((0:Nat):Int),(a:Int)-1-0)=((0:Int),(0:Int),(a:Int)-1):=by simp
 simp only [e0]at h1;exact⟨z,b,h1,h2⟩
def To:Nat->Nat->List UInt8->List UInt8
 |0,_,out=>out
 |n+1,b,out=>To n b (out++ [(out[out.length-b]?).getD 0])
def Ue (out:List UInt8) (t:Be):List UInt8:=if t.Back=0 then out++L t.Text else To t.Size.toNat t.Back.toNat out
def Fw (l:List Be):List UInt8:=l.foldl Ue []
def okT (out:List UInt8) (t:Be):Prop:=(t.Back=0/\t.Size=0/\1<=(L t.Text).length/\(L t.Text).length<=31)\/(1<=t.Back/\t.Back<=(out.length:Int)/\1<=t.Size/\t.Size<=31/\L t.Text=[])
def okL (l:List Be):Prop:=∀(i:Nat) t,l[i]?=some t->okT (Fw (l.take i)) t
theorem NY (l:List Be) (t:Be):Fw (l++ [t])=Ue (Fw l) t:=by unfold Fw;rw [Ht];rfl
theorem kH {l:List Be} {t:Be} (h:okL l) (ht:okT (Fw l) t):okL (l++ [t]):=by
 intro i x hx;by_cases e:i<l.length
 ·rw [AS e]at hx;rw [I8 (by omega)];exact h i x hx
 have hi:=(Ah.1 hx).1;rw [Ag,Aj]at hi;obtain rfl:i=l.length:=by omega
 rw [AU (A0 _),Q9]at hx;simp only [D4,Ap]at hx;rw [PB rfl,<-hx];exact ht
theorem ACh {l:List Be} {t:Be} (h:okL (l++ [t])):okL l/\okT (Fw l) t:=by
 refine⟨λi x hx=>?_,?_⟩
 ·have hi:=(Ah.1 hx).1;have:=h i x (by rw [AS hi];exact hx);rw [I8 (by omega)]at this;exact this
 have:=h l.length t (by rw [AU (A0 _),Q9];rfl);rw [PB rfl]at this;exact this
theorem eT (S:List UInt8):∀(n a b:Nat),a+n<=S.length->1<=b->b<=a->(∀j,j<n->S[a-b+j]?=S[a+j]?)->To n b (S.take a)=S.take (a+n)
 |0,a,b,_,_,_,_=>rfl
 |n+1,a,b,h1,h2,h3,h4=>by
  rw [To];have hl:(S.take a).length=a:=by rw [AD];omega
  have e:((S.take a)[(S.take a).length-b]?).getD 0=S[a]'(by omega):=by
   rw [hl,List.getElem?_take_of_lt (by omega)];have:=h4 0 (by omega);rw [Gr,Gr]at this;rw [this,Ab (by omega)];rfl
  rw [e,<-Ax (by omega),eT S n (a+1) b (by omega) h2 (by omega) (λj hj=>by
   have:=h4 (j+1) (by omega);rw [show a+1-b+j=a-b+(j+1) by omega,this];congr 1
   omega)]
  congr 1;omega
theorem sQ:∀(n b:Nat) (out:List UInt8),(To n b out).length=out.length+n
 |0,_,_=>rfl
 |n+1,b,out=>by rw [To,sQ];simp;omega
theorem S1 (s:ByteArray) (hs:(L s).length<=64):∀(n a:Nat) (out:List Be),(L s).length-a<=n->a<=(L s).length->out.length<=a->okL out->Fw out=(L s).take a->∃l,Av (λq:List Be×Int=>Cx s q.1 q.2) (out,(a:Int))=some l/\okL l/\Fw l=L s/\l.length<=64
 |n,a,out,hn,ha,g,f,c=>by
  by_cases h:a<(L s).length
  ·obtain⟨z,b,h1,h2,h3,h4⟩:=ABS s a ha hs
   match n,hn with
   |0,hn=>omega
   |n+1,hn=>
   have i:((L s).take a).length=a:=by rw [AD];omega
   rcases h4 with rfl|⟨h4,h5,h6,h7⟩
   ·
    have d:sub s (a:Int) ((a+1:Nat):Int)=some (s.extract a (a+1)):=F8 s (by omega) (by omega);have hx:L (s.extract a (a+1))=[(L s)[a]]:=by
     rw [HZ,show a+1-a=1 by omega,Bh h];rfl
    have fresh:∃l,Av (λq:List Be×Int=>Cx s q.1 q.2) (out++ [Be.mk 0 0 (s.extract a (a+1))],((a+1:Nat):Int))=some l/\okL l/\Fw l=L s/\l.length<=64:=
     S1 s hs n (a+1) _ (by omega) (by omega) (by simp;omega) (kH f (.inl ⟨rfl,rfl,by rw [hx];simp,by rw [hx];simp⟩)) (by
      rw [NY];unfold Ue
      rw [A4 rfl,c,hx,Ax h])
    rcases GN out with e|⟨out0,t0,e⟩
    ·subst e;obtain⟨l,f1,f2⟩:=fresh;refine⟨l,?_,f2⟩;rw [A6];have hb:Cx s [] (a:Int)=some (.inl ([Be.mk 0 0 (s.extract a (a+1))],((a+1:Nat):Int))):=by
      simp only [Cx];rw [BO,Ad (by omega),Ae,h1];simp only [Aa];rw [show decide ((((0:Nat):Int))>0)=false from rfl,Ac,ad1 (by omega),d,show decide ((sb (ln ([]:List Be)) 1)>=0)=false from rfl];simp only [Ac,Aa];rw [C6 (by simp)];rfl
     simp only [hb];exact f1
    rw [GO]at e;subst e;obtain⟨ok0,okt0⟩:=ACh f;have hol':out0.length+1<=a:=by simpa using g
    have o:ln (out0++ [t0])=((out0.length+1:Nat):Int):=by rw [Cf];simp
    have j:sb (ln (out0++ [t0])) 1=(out0.length:Int):=by rw [o,Cw (by omega) (by omega)];omega
    have k:gi (out0++ [t0]) (out0.length:Int)=some t0:=Fc _ _;by_cases hm:t0.Back=0/\(L t0.Text).length<31
    ·have m:HU t0.Text (s.extract a (a+1))=some (t0.Text++s.extract a (a+1)):=Gn _ _ (by rw [hx];simp;omega);have hb:Cx s (out0++ [t0]) (a:Int)=some (.inl (out0++ [Be.mk t0.Back t0.Size (t0.Text++s.extract a (a+1))],((a+1:Nat):Int))):=by
      simp only [Cx];rw [BO,Ad (by omega),Ae,h1];simp only [Aa];rw [show decide ((((0:Nat):Int))>0)=false from rfl,Ac,ad1 (by omega),d,j,Ad (by omega),Ae,k];simp only [Aa];rw [show(t0.Back==0)=true by simpa using hm.1,Ae,BO,Ad (by omega)];simp only [Aa,Ae];rw [m];simp only [Aa];rw [Ja]
     have hX:L (t0.Text++s.extract a (a+1))=L t0.Text++ [(L s)[a]]:=by rw [DB,hx]
     obtain⟨l,f1,f2⟩:=S1 s hs n (a+1) (out0++ [Be.mk t0.Back t0.Size (t0.Text++s.extract a (a+1))]) (by omega) (by omega) (by simp at g⊢;omega) (kH ok0 (by
      rcases okt0 with⟨k1,k2,k3,k4⟩|⟨k1,_⟩
      ·exact .inl ⟨k1,k2,by rw [hX];simp,by rw [hX];simp;omega⟩
      ·omega)) (by
      rw [NY]at c⊢;unfold Ue at c⊢;rw [A4 hm.1]at c⊢
      rw [hX,<-Aq,c,Ax h])
     refine⟨l,?_,f2⟩;rw [A6];simp only [hb];exact f1
    have hb:Cx s (out0++ [t0]) (a:Int)=some (.inl (out0++ [t0]++ [Be.mk 0 0 (s.extract a (a+1))],((a+1:Nat):Int))):=by
     simp only [Cx];rw [BO,Ad (by omega),Ae,h1];simp only [Aa];rw [show decide ((((0:Nat):Int))>0)=false from rfl,Ac,ad1 (by omega),d,j,Ad (by omega),Ae,k];simp only [Aa];have hj:(bif t0.Back==0 then some (decide (FJ t0.Text<31))else some false:Option Bool)=some false:=by
      by_cases e0:t0.Back=0
      ·rw [show(t0.Back==0)=true by simpa using e0,Ae,BO,Af (by
       intro hh;exact hm ⟨e0,by omega⟩)]
      rw [show(t0.Back==0)=false by simpa using e0];rfl
     rw [hj];simp only [Aa,Ac];rw [C6 (by simp at g⊢;omega)];rfl
    obtain⟨l,f1,f2⟩:=fresh;refine⟨l,?_,f2⟩;rw [A6];simp only [hb];exact f1
   have hb:Cx s out (a:Int)=some (.inl (out++ [Be.mk (b:Int) (z:Int) (bs [])],((a+z:Nat):Int))):=by
    simp only [Cx];rw [BO,Ad (by omega),Ae,h1];simp only [Aa];rw [Ad (by omega),Ae,C6 (by simp;omega),CC (by omega) (by omega)];simp only [Aa];congr 3
   obtain⟨l,f1,f2⟩:=S1 s hs n (a+z) (out++ [Be.mk (b:Int) (z:Int) (bs [])]) (by omega) h3 (by simp;omega) (kH f (.inr ⟨by simp;omega,by rw [c,i];simp;omega,by simp;omega,by simp;omega,Eg _⟩)) (by
    rw [NY];unfold Ue;rw [A5 (by simp;omega),c];simp only [BA]
    exact eT (L s) z a b h3 h5 h6 h7)
   refine⟨l,?_,f2⟩;rw [A6];simp only [hb];exact f1
  have ea:a=(L s).length:=by omega
  refine⟨out,?_,f,by rw [c,ea,AW],by omega⟩;rw [A6];have hb:Cx s out (a:Int)=some (.inr out):=by
   simp only [Cx];rw [BO,Af (by omega),Ac]
  simp only [hb]
theorem ADb (s:ByteArray) (hs:(L s).length<=64):∃l,Kr s=some l/\okL l/\Fw l=L s/\l.length<=64:=by
 obtain⟨l,h1,h2⟩:=S1 s hs (L s).length 0 [] (by omega) (by omega) (by simp) (λi t h=>by simp at h) (by simp [Fw]);refine⟨l,?_,h2⟩;unfold Kr;rw [BO,Af (by omega),Ac];have h1':Av (λq:List Be×Int=>Cx s q.1 q.2) ([],0)=some l:=h1;rw [h1'];rfl
end Go.TI
namespace Go.TI
open Go
def L7 (t:Be):List UInt8:=if t.Back=0 then UInt8.ofNat (L t.Text).length::L t.Text else [UInt8.ofNat (128+t.Size).toNat,UInt8.ofNat t.Back.toNat]
theorem zS {out:List UInt8} {t:Be} (h:okT out t) (ho:out.length<=64):(L7 t).length<=32:=by
 unfold L7
 rcases h with⟨h1,h2,h3,h4⟩|⟨h1,h2,h3,h4,h5⟩
 ·rw [A4 h1,Ay];omega
 rw [A5 (by omega)];simp
theorem AEd {out:List UInt8} {t:Be} (h:okT out t):out.length<=(Ue out t).length:=by
 unfold Ue;split
 ·simp
 rw [sQ];omega
theorem MG {l:List Be} (h:okL l):∀i,i<=l.length->(Fw (l.take i)).length<=(Fw l).length:=by
 have step:∀i,i<l.length->(Fw (l.take i)).length<=(Fw (l.take (i+1))).length:=λi hi=>by
  rw [Ax hi,NY];exact AEd (h i _ (Ab hi))
 intro i hi;have:∀k,i+k<=l.length->(Fw (l.take i)).length<=(Fw (l.take (i+k))).length:=by
  intro k
  induction k with
  |zero=>intro _;exact A0 _
  |succ k ih=>
   intro hk;exact Hs (ih (by omega)) (step (i+k) (by omega))
 have:=this (l.length-i) (by omega);rw [show i+(l.length-i)=l.length by omega,AW]at this;exact this
theorem AFD (s:ByteArray) (hs:(L s).length<=64):∃l,okL l/\Fw l=L s/\l.length<=64/\((EQ s=some (bs (122::l.flatMap L7),true))\/EQ s=some (bs (114::L s),true)):=by
 obtain⟨l,h1,h2,h3,h4⟩:=ADb s hs;refine⟨l,h2,h3,h4,?_⟩;unfold EQ;rw [BO,Af (by omega),Ac,h1];simp only [Aa];obtain⟨b,q1,q2⟩:=Bq (body:=λq:ByteArray×Int=>E0 l q.1 q.2) (λz i=>(z,i)) l.length (λi z=>L z=122::(l.take i).flatMap L7/\(L z).length<=1+32*i) (λz=>L z=122::l.flatMap L7/\(L z).length<=3000)
  (λz i hi hz=>by
   have hx:=Ab hi;have c:=h2 i _ hx;have a:=MG h2 i (by omega);rw [h3]at a;have d:=zS c (by omega);have et:(l.take (i+1)).flatMap L7=(l.take i).flatMap L7++L7 l[i]:=by rw [Ax hi,PG];simp
   simp only [E0,AH,Ad hi,Ae,AF,hx,Aa];rw [ad1 (by omega)];refine .inl ?_
   rcases c with⟨k1,k2,k3,k4⟩|⟨k1,k2,k3,k4,k5⟩
   ·rw [show(l[i].Back==0)=true by simpa using k1,Ae,Gn _ _ (by rw [PL];omega)];simp only [Aa];rw [Gn _ _ (by rw [DB,Ag,PL];omega)];have hL:L (z++E9 [IntKind.u8.wrap (FJ l[i].Text)]++l[i].Text)=L z++L7 l[i]:=by
     rw [DB,DB,IW];unfold L7;rw [A4 k1,BO];have:IntKind.u8.wrap ((L l[i].Text).length:Int)=((L l[i].Text).length:Int):=by rw [IntKind.wrap_u8];omega
     rw [this];simp
    refine⟨_,rfl,?_,?_⟩
    ·rw [hL,hz.1,et];rfl
    rw [hL,Ag];omega
   rw [show(l[i].Back==0)=false by simp;omega,Ac,CC (by omega) (by omega),Gn _ _ (by rw [M0];simp;omega)];have hL:L (z++E9 [IntKind.u8.wrap (128+l[i].Size),IntKind.u8.wrap l[i].Back])=L z++L7 l[i]:=by
    rw [DB,IW];unfold L7;rw [A5 (by omega)];have e1:IntKind.u8.wrap (128+l[i].Size)=128+l[i].Size:=by rw [IntKind.wrap_u8];omega
    have e2:IntKind.u8.wrap l[i].Back=l[i].Back:=by rw [IntKind.wrap_u8];omega
    rw [e1,e2];rfl
   refine⟨_,rfl,?_,?_⟩
   ·rw [hL,hz.1,et];rfl
   rw [hL,Ag];omega)
  (λz hz=>⟨z,by simp only [E0,AH,As,Aw,Ac],by rw [hz.1,AW],by omega⟩) (s:=bs [122]) ⟨by rw [Eg];rfl,by rw [Eg];simp⟩
 have q1':Av (λq:ByteArray×Int=>E0 l q.1 q.2) (bs [122],0)=some b:=q1;rw [q1'];simp only [Aa];have hb:b=bs (122::l.flatMap L7):=HY (by rw [q2.1,Eg])
 cases decide (ad ((L s).length:Int) 1<=FJ b)with
 |false=>left;rw [hb];rfl
 |true=>
  right;simp only [Ae];rw [Gn _ _ (by rw [Eg];simp;omega)];simp only [Aa];have e:bs [114]++s=bs (114::L s):=HY (by rw [DB,Eg,Eg];rfl);rw [e]
theorem T6 (t:ByteArray) (ht:(L t).length<=10000):∀(l:List Be) (a:Nat) (out:List Be),(∀x∈l,∃o:List UInt8,okT o x/\o.length<=64)->(L t).drop a=l.flatMap L7->a<=(L t).length->out.length<=a->Av (λq:List Be×Int=>Cg t q.1 q.2) (out,(a:Int))=some (.inl (out++l))
 |[],a,out,hl,h,ha,ho=>by
  have:(L t).length=a:=by
   have:=BH List.length h;rw [B8]at this;simp at this;omega
  rw [A6];have hb:Cg t out (a:Int)=some (.inr (.inl out)):=by
   simp only [Cg];rw [BO,Af (by omega),Ac]
  simp only [hb];rw [Az]
 |x::l,a,out,hl,h,ha,ho=>by
  obtain⟨o,k,n⟩:=hl x (by simp);rw [Hu]at h;have c:=BH List.length h;rw [B8,Ag]at c
  rcases k with⟨k1,k2,k3,k4⟩|⟨k1,k2,k3,k4,k5⟩
  ·have he:L7 x=UInt8.ofNat (L x.Text).length::L x.Text:=by unfold L7;rw [A4 k1]
   rw [he]at h c;rw [Ay]at c;have e:a<(L t).length:=by omega
   have d:=Bh e;rw [h,BB]at d
   injection d with hx hd
   have g:(((L t)[a]).toNat:Int)=((L x.Text).length:Int):=by rw [<-hx,GC];omega
   have j:sub t ((a+1:Nat):Int) ((a+1+(L x.Text).length:Nat):Int)=some x.Text:=by
    rw [F8 t (by omega) (by omega)];congr 1;apply HY;rw [HZ,<-hd,show a+1+(L x.Text).length-(a+1)=(L x.Text).length by omega,PB rfl]
   have hb:Cg t out (a:Int)=some (.inl (out++ [Be.mk 0 0 x.Text],((a+1+(L x.Text).length:Nat):Int))):=by
    simp only [Cg];rw [BO,Ad (by omega),Ae,Fo t e];simp only [Aa];rw [g,NM (by omega) (by omega),Af (by omega),Ac,ad1 (by omega),CC (by omega) (by omega),Af (by omega),Ac];rw [show((a+1:Nat):Int)+((L x.Text).length:Int)=((a+1+(L x.Text).length:Nat):Int) by omega,j];simp only [Aa];rw [C6 (by simp;omega)];rfl
   have i:Be.mk 0 0 x.Text=x:=by
    cases x with
    |mk b z u=>simp only at k1 k2;rw [k1,k2]
   rw [i]at hb;rw [A6];simp only [hb];have:=T6 t ht l (a+1+(L x.Text).length) (out++ [x]) (λy hy=>hl y (by simp [hy])) (by rw [<-CE,<-hd,ES rfl]) (by omega) (by simp;omega);rw [Aq,Cq]at this;exact this
  have he:L7 x=[UInt8.ofNat (128+x.Size).toNat,UInt8.ofNat x.Back.toNat]:=by unfold L7;rw [A5 (by omega)]
  rw [he]at h c;simp only [Ay,Bm]at c;have e:a<(L t).length:=by omega
  have d:=Bh e;rw [h]at d;simp only [BB,A7]at d
  injection d with hx hd
  have f:=Bh (show a+1<(L t).length by omega);rw [<-hd]at f
  injection f with hx2 hd2
  have g:(((L t)[a]).toNat:Int)=128+x.Size:=by rw [<-hx,GC];omega
  have m:(((L t)[a+1]'(by omega)).toNat:Int)=x.Back:=by rw [<-hx2,GC];omega
  have hb:Cg t out (a:Int)=some (.inl (out++ [Be.mk x.Back x.Size (bs [])],((a+2:Nat):Int))):=by
   simp only [Cg];rw [BO,Ad (by omega),Ae,Fo t e];simp only [Aa];rw [g,NM (by omega) (by omega),Ad (by omega),Ae,CC (b:=2) (by omega) (by omega),Af (by omega),Ac,ad1 (by omega),Fo t (by omega)];simp only [Aa];rw [m,NM (by omega) (by omega),Cw (by omega) (by omega),C6 (by simp;omega)];simp only [Aa];rw [show 128+x.Size-128=x.Size by omega];rfl
  have i:Be.mk x.Back x.Size (bs [])=x:=by
   cases x with
   |mk b z u=>simp only at k5⊢;rw [show bs []=u from HY (by rw [k5,Eg])]
  rw [i]at hb;rw [A6];simp only [hb];have:=T6 t ht l (a+2) (out++ [x]) (λy hy=>hl y (by simp [hy])) (by rw [show a+2=a+1+1 by omega];exact hd2.symm) (by omega) (by simp;omega);rw [Aq,Cq]at this;exact this
def GK (l:List UInt8):List Int:=l.map λc=>(c.toNat:Int)
theorem AAR (l:List UInt8):L (E9 (GK l))=l:=by
 rw [IW,GK,EJ];have:((λn:Int=>UInt8.ofNat n.toNat)∘λc:UInt8=>(c.toNat:Int))=id:=by
  funext c;simp
 rw [this,Sr]
theorem ABQ (b:ByteArray):uK b=GK (L b):=rfl
theorem Yc (x:Be) (a:1<=x.Back) (hs:0<=x.Size/\x.Size<=31):∀(n k:Nat) (out:List UInt8),(k:Int)+n=x.Size->x.Back<=(out.length:Int)->out.length+n<=1000->Av (λq:List Int×Int=>DV x q.1 q.2) (GK out,(k:Int))=some (GK (To n x.Back.toNat out))
 |0,k,out,hk,b,ho=>by
  rw [A6];have hb:DV x (GK out) (k:Int)=some (.inr (GK out)):=by
   simp only [DV];rw [Af (by omega),Ac]
  simp only [hb];rfl
 |n+1,k,out,hk,b,ho=>by
  have c:ln (GK out)=(out.length:Int):=by rw [Cf,GK,Bo]
  have d:gi (GK out) ((out.length:Int)-x.Back)=some (((out[out.length-x.Back.toNat]?).getD 0).toNat:Int):=by
   rw [show(out.length:Int)-x.Back=((out.length-x.Back.toNat:Nat):Int) by omega,AF,GK,Bf,Ab (by omega)];rfl
  have hb:DV x (GK out) (k:Int)=some (.inl (GK (out++ [(out[out.length-x.Back.toNat]?).getD 0]),((k+1:Nat):Int))):=by
   simp only [DV];rw [Ad (by omega),Ae,c,Cw (by omega) (by omega),d];simp only [Aa];rw [C6 (by simp [GK];omega),ad1 (by omega)];simp only [Aa,GK,CA,BV,yM]
  rw [A6];simp only [hb];rw [To];exact Yc x a hs n (k+1) _ (by omega) (by simp;omega) (by simp;omega)
theorem vV (l:List Be) (hl:l.length<=64) (a:okL l) (h64:(Fw l).length<=64):Av (λq:List Int×Int=>DW l q.1 q.2) ([],0)=some (.inl (GK (Fw l))):=by
 obtain⟨b,h1,h2⟩:=Bq (body:=λq:List Int×Int=>DW l q.1 q.2) (λ(o:List UInt8) i=>(GK o,i)) l.length (λi o=>o=Fw (l.take i)) (λb=>b= .inl (GK (Fw l)))
  (λo i hi ho=>by
   have hx:=Ab hi;have hk:=a i _ hx;have hm:=MG a i (by omega);have d:=MG a (i+1) (by omega);have et:Fw (l.take (i+1))=Ue o l[i]:=by rw [Ax hi,NY,ho]
   rw [<-ho]at hk hm;rw [et]at d
   have c:∀q:List UInt8,ln (GK q)=(q.length:Int):=λq=>by rw [Cf,GK,Bo]
   simp only [DW,AH,Ad hi,Ae,AF,hx,Aa];refine .inl ⟨Ue o l[i],?_,et.symm⟩
   rcases hk with⟨k1,k2,k3,k4⟩|⟨k1,k2,k3,k4,k5⟩
   ·rw [show(l[i].Back==0)=true by simpa using k1,Ae,BO,EE,Ad (by omega)];simp only [Aa,Ao,Ac];rw [show(l[i].Size !=0)=false by simp [k2],ABQ];simp only [Ac];have e1:ap 1 (GK o) (GK (L l[i].Text))=some (GK (Ue o l[i])):=by
     rw [C6 (by simp [GK];omega)];unfold Ue;rw [A4 k1];simp [GK]
    rw [e1];simp only [Aa,BX];rw [c,Af (by omega),Ac,ad1 (by omega)]
   rw [show(l[i].Back==0)=false by simp;omega,Ac,c,EE,Ad (by omega)];simp only [Aa,Ao,Ac];rw [EE,Ad (by omega)];simp only [Aa,Ao,Ac];have e:seq l[i].Text (bs [])=true:=by rw [J9,A9];exact HY (by rw [k5,Eg])
   rw [e];simp only [Ao,Ac];have e1:=Yc l[i] k1 ⟨by omega,k4⟩ l[i].Size.toNat 0 o (by omega) k2 (by omega);rw [show((0:Nat):Int)=0 from rfl]at e1;rw [e1];have e2:To l[i].Size.toNat l[i].Back.toNat o=Ue o l[i]:=by unfold Ue;rw [A5 (by omega)]
   rw [e2];simp only [Aa,BX]
   rw [c,Af (by omega),Ac,ad1 (by omega)])
  (λo ho=>⟨.inl (GK o),by simp only [DW,AH,As,Aw,Ac],by rw [ho,AW]⟩) (s:=[]) rfl
 rw [<-h2];exact h1
theorem ADa (s:ByteArray) (hs:(L s).length<=64):∃z,EQ s=some (z,true)/\FY z=some (s,true)/\1<=(L z).length:=by
 obtain⟨l,h1,h2,h3,h4⟩:=AFD s hs;have fin:∀z:ByteArray,EQ s=some (z,true)->((EQ s).bind λv3=>(bif(!v3.2)then(some true)else(some (!(seq v3.1 z))):Option (Bool)).bind λj2=>bif j2 then(some ((bs []),false))else(some (s,true)))=some (s,true):=by
  intro z hz;rw [hz];have:seq z z=true:=by rw [J9];simp
  simp only [Aa,Ao,Ac,this]
 rcases h4 with h4|h4
 ·refine⟨_,h4,?_,by rw [Eg];simp⟩;have hf:=fin _ h4;generalize hz:bs (122::l.flatMap L7)=z at h4 hf;have hL:L z=122::l.flatMap L7:=by rw [<-hz,Eg]
  have d:(L z).length<=3000:=by
   have:∀m:List Be,(∀x∈m,∃o:List UInt8,okT o x/\o.length<=64)->(m.flatMap L7).length<=32*m.length:=by
    intro m
    induction m with
    |nil=>intro _;simp
    |cons x m ih=>
     intro hm;obtain⟨o,f,g⟩:=hm x (by simp);have:=zS f g;have:=ih (λy hy=>hm y (by simp [hy]));rw [Hu,Ag,Ay];omega
   have:=this l (λx hx=>by
    obtain⟨i,hi,rfl⟩:=AG hx;have hm:=MG h1 i (by omega);rw [h2]at hm
    exact⟨_,h1 i _ (Ab hi),by omega⟩)
   rw [hL,Ay];omega
  unfold FY;have a:1<=(L z).length:=by rw [hL];simp
  rw [BO,show(((L z).length:Int)==0)=false by rw [DO];omega,Ac];have b:sub z 1 ((L z).length:Int)=some (bs (l.flatMap L7)):=by
   rw [show(1:Int)=((1:Nat):Int)from rfl,F8 z a (A0 _)];congr 1;apply HY;rw [HZ,Eg,Bb (by rw [B8];omega),hL];rfl
  have c:sx z 0=some 122:=by
   rw [show(0:Int)=((0:Nat):Int)from rfl,Fo z (i:=0) a];have:(L z)[0]?=some 122:=by rw [hL];rfl
   rw [Ab (by omega)]at this
   injection this with this
   rw [this];rfl
  rw [b,c];simp only [Aa];rw [show((122:Int)==122)=true from rfl];simp only [Ae];have h:(L (bs (l.flatMap L7))).length<=10000:=by rw [Eg];rw [hL,Ay]at d;omega
  have e:=T6 (bs (l.flatMap L7)) h l 0 [] (λx hx=>by
    obtain⟨i,hi,rfl⟩:=AG hx;have hm:=MG h1 i (by omega);rw [h2]at hm
    exact⟨_,h1 i _ (Ab hi),by omega⟩) (by rw [Eg];rfl) (by omega) (by simp)
  rw [show((0:Nat):Int)=0 from rfl,A7]at e;have ht:Je (bs (l.flatMap L7))=some (l,true):=by
   unfold Je;rw [e];rfl
  have hp:FQ l=some (s,true):=by
   unfold FQ;rw [vV l h3 h1 (by rw [h2];omega),h2];simp only [Aa,BX];congr 2;apply HY;rw [AAR]
  rw [ht];simp only [Aa];rw [hp];simp only [Aa,Ao,Ac,BX];exact hf
 refine⟨_,h4,?_,by rw [Eg];simp⟩;have hf:=fin _ h4;generalize hz:bs (114::L s)=z at h4 hf;have hL:L z=114::L s:=by rw [<-hz,Eg]
 unfold FY;have a:1<=(L z).length:=by rw [hL];simp
 rw [BO,show(((L z).length:Int)==0)=false by rw [DO];omega,Ac];have b:sub z 1 ((L z).length:Int)=some s:=by
  rw [show(1:Int)=((1:Nat):Int)from rfl,F8 z a (A0 _)];congr 1;apply HY;rw [HZ,Bb (by rw [B8];omega),hL];rfl
 have c:sx z 0=some 114:=by
  rw [show(0:Int)=((0:Nat):Int)from rfl,Fo z (i:=0) a];have:(L z)[0]?=some 114:=by rw [hL];rfl
  rw [Ab (by omega)]at this
  injection this with this
  rw [this];rfl
 rw [b,c];simp only [Aa];rw [show((114:Int)==122)=false from rfl];simp only [Ac,Aa,BX];exact hf
end Go.TI
