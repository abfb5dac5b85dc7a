/- Cleaning that is cut. No condition; no program is in sight. -/
import Derived.Test.YtpafpcbnmplkfaaGreatCCP1
set_option linter.unusedVariables false
set_option linter.unusedSimpArgs false
namespace Go.TI
open Go
noncomputable def gO (t:ByteArray):Option Page:=match F7 t with
 |some (p,true)=>some p
 |_=>none
noncomputable def pg (i k:Int) (x:Leaf):List As:=if x.Is=1 then(match gO x.Text with
 |some p=>[As.mk i k p]
 |none=>[])else []
noncomputable def Wa (i:Int):Int->List Leaf->List As
 |_,[]=>[]
 |k,x::l=>pg i k x++Wa i (k+1) l
noncomputable def Km:Int->List Block->List As
 |_,[]=>[]
 |i,b::l=>Wa i 0 b.Leaves++Km (i+1) l
theorem Xz (i:Int):∀(k:Int) (l m:List Leaf),Wa i k (l++m)=Wa i k l++Wa i (k+l.length) m
 |k,[],m=>by simp [Wa]
 |k,x::l,m=>by
  rw [BG,Wa,Xz i (k+1) l m,Wa,Ar,Ay];congr 3;omega
theorem Rv:∀(i:Int) (l m:List Block),Km i (l++m)=Km i l++Km (i+l.length) m
 |i,[],m=>by simp [Km]
 |i,x::l,m=>by
  rw [BG,Km,Rv (i+1) l m,Km,Ar,Ay];congr 3;omega
variable {r r' m:List As} {f:Flash} {t:Int} {y:As} {α β:Type} {b:Block} {k n i:Nat} {p:Page} {d:AH} {texts:List ByteArray} {x:Leaf} {l:List α}
theorem AG3 {i k:Int} (h:y∈pg i k x):y.Block=i/\y.Leaf=k/\x.Is=1/\gO x.Text=some y.Page:=by
 unfold pg at h;split at h
 ·split at h
  ·rename_i h1 _ p h2;rw [Az]at h;subst h;exact⟨rfl,rfl,h1,h2⟩
  cases h
 cases h
theorem nM {i:Int}:∀{k:Int} {l:List Leaf} {y:As},y∈Wa i k l->y.Block=i/\k<=y.Leaf/\y.Leaf<k+l.length
 |k,[],y,h=>by cases h
 |k,x::l,y,h=>by
  rw [Wa,Ak]at h;rw [Ay]
  rcases h with h|h
  ·obtain⟨h1,h2,_⟩:=AG3 h;exact⟨h1,by omega,by omega⟩
  obtain⟨h1,h2,h3⟩:=nM h;exact⟨h1,by omega,by omega⟩
theorem nN:∀{i:Int} {l:List Block} {y:As},y∈Km i l->i<=y.Block/\y.Block<i+l.length
 |i,[],y,h=>by cases h
 |i,x::l,y,h=>by
  rw [Km,Ak]at h;rw [Ay]
  rcases h with h|h
  ·obtain⟨h1,_⟩:=nM h;exact⟨by omega,by omega⟩
  obtain⟨h1,h2⟩:=nN h;exact⟨by omega,by omega⟩
theorem Jk {x:α} (h:l[k]?=some x):l=l.take k++x::l.drop (k+1)/\(l.take k).length=k:=by
 have hk:=(Ai.1 h).1;have h2:=Bh hk;rw [(Ai.1 h).2]at h2;exact⟨by rw [<-h2,Br],by rw [AF];omega⟩
theorem Zv {x y:α} (h:l[k]?=some x):l.set k y=l.take k++y::l.drop (k+1):=by
 have hk:=(Ai.1 h).1;exact List.set_eq_take_append_cons_drop.trans (A3 hk)
theorem AAb {l:List Block} (hb:l[i]?=some b) (hx:b.Leaves[k]?=some x):∃A B,Km 0 l=A++pg i k x++B/\∀bd w y,Km 0 (l.set i (Block.mk bd w (b.Leaves.set k y)))=A++pg i k y++B:=by
 obtain⟨h1,h2⟩:=Jk hb;obtain⟨h3,h4⟩:=Jk hx;refine⟨Km 0 (l.take i)++Wa i 0 (b.Leaves.take k),Wa i ((k:Int)+1) (b.Leaves.drop (k+1))++Km ((i:Int)+1) (l.drop (i+1)),?_,λbd w y=>?_⟩
 ·conv=>lhs;rw [h1]
  rw [Rv,h2,Km,Xn]
  conv=>lhs;rw [h3]
  rw [Xz,h4,Wa,Xn];simp only [Ar]
 rw [Zv hb,Rv,h2,Km,Xn,Zv hx,Xz,h4,Wa,Xn];simp only [Ar]
theorem Wc {l:List Block} {b':Block} (hb:l[i]?=some b) (h0:Wa i 0 b'.Leaves=[]):Km 0 (l.set i b')=(Km 0 l).filter λy=>y.Block !=(i:Int):=by
 obtain⟨h1,h2⟩:=Jk hb;rw [Zv hb]
 conv=>rhs;rw [h1]
 rw [Rv,Rv,h2,Km,Km,Xn,h0,AT,AT];have e1:(Km 0 (l.take i)).filter (λy=>y.Block !=(i:Int))=Km 0 (l.take i):=by
  rw [Gy];intro y hy;have:=(nN hy).2;rw [h2]at this;simp;omega
 have e2:(Wa i 0 b.Leaves).filter (λy=>y.Block !=(i:Int))=[]:=by
  rw [BI];intro y hy;have:=(nM hy).1;simp [this]
 have e3:(Km ((i:Int)+1) (l.drop (i+1))).filter (λy=>y.Block !=(i:Int))=Km ((i:Int)+1) (l.drop (i+1)):=by
  rw [Gy];intro y hy;have:=(nN hy).1;simp;omega
 rw [e1,e2,e3]
def lfP (x:Leaf):Prop:=(x.Is=0/\L x.Text=[])\/(x.Is=1/\1<=(L x.Text).length/\(L x.Text).length<=120)\/(x.Is=2/\(L x.Text).length<=120)
def ADe (l:List Leaf):Prop:=∀(k:Nat) x y,l[k]?=some x->l[k+1]?=some y->x.Is=0->y.Is=0
structure Kk (b:Block):Prop where
 four:b.Leaves.length=4
 wear:0<=b.Wear/\b.Wear<=1000000000
 leaf:∀x∈b.Leaves,lfP x
 turn:ADe b.Leaves
structure Cg (f:Flash):Prop where
 n:3<=f.Blocks.length/\f.Blocks.length<=10
 blk:∀b∈f.Blocks,Kk b
theorem AEe (x:Leaf):∃v,Mm x=some v/\(v=true↔lfP x):=by
 unfold Mm lfP;by_cases h0:x.Is=0
 ·rw [show(x.Is==0)=true by simpa using h0];refine⟨_,rfl,?_⟩;rw [Jc,A9];constructor
  ·intro h;exact .inl ⟨h0,by rw [h];rfl⟩
  rintro(h|h|h)
  ·exact Ii (by rw [h.2];rfl)
  ·omega
  omega
 rw [show(x.Is==0)=false by simpa using h0];simp only [Ac];by_cases h1:x.Is=1
 ·rw [show(x.Is==1)=true by simpa using h1,E6,BL];refine⟨_,rfl,?_⟩;rw [A9];omega
 rw [show(x.Is==1)=false by simpa using h1];simp only [Ac];by_cases h2:x.Is=2
 ·rw [show(x.Is==2)=true by simpa using h2,BL];refine⟨_,rfl,?_⟩;rw [A9];omega
 rw [show(x.Is==2)=false by simpa using h2];exact⟨_,rfl,by simp only [BH,R9];omega⟩
theorem wX (f:Flash) (h:L0 f):∃v,Gc f=some v/\(v=true↔Cg f):=by
 unfold Gc;obtain⟨r,h1,h2⟩:=Bk (body:=λs:Int=>Ej f s) (λ(_:Unit) i=>i) f.Blocks.length (λi _=>∀j b,j<i->f.Blocks[j]?=some b->Kk b) (λr=>(r= .inr false/\¬∀b∈f.Blocks,Kk b)\/r= .inl ()/\∀b∈f.Blocks,Kk b)
  (λ_ i hi hs=>by
   have hx:=Ab hi;have hm:f.Blocks[i]∈f.Blocks:=AD hi;have m:=h.2 _ hm;have o:=h.1;simp only [Ej,AE,Ad hi,Ae,AC,hx,Aa];by_cases h4:f.Blocks[i].Leaves.length=4
   ·rw [show(ln f.Blocks[i].Leaves !=4)=false by simp [ln,h4]];simp only [Ac];rw [E6];simp only [Aa];by_cases hw:0<=f.Blocks[i].Wear/\f.Blocks[i].Wear<=1000000000
    ·rw [Ad hw];simp only [Al,Ac];obtain⟨q,q1,q2⟩:=Bk (body:=λs:Int=>Ei f.Blocks[i] s) (λ(_:Unit) i=>i) f.Blocks[i].Leaves.length
      (λk _=>(∀j x,j<k->f.Blocks[i].Leaves[j]?=some x->lfP x)/\∀(j:Nat) x y,j+1<k->f.Blocks[i].Leaves[j]?=some x->f.Blocks[i].Leaves[j+1]?=some y->x.Is=0->y.Is=0)
      (λr=>(r= .inr (.inr (.inr false))/\¬((∀x∈f.Blocks[i].Leaves,lfP x)/\ADe f.Blocks[i].Leaves))\/r= .inl ()/\(∀x∈f.Blocks[i].Leaves,lfP x)/\ADe f.Blocks[i].Leaves)
      (λ_ k hk d=>by
       have g:=Ab hk;simp only [Ei,AE,Ad hk,Ae,AC,g,Aa];obtain⟨v,v1,v2⟩:=AEe f.Blocks[i].Leaves[k];rw [v1];simp only [Aa]
       cases hv:v with
       |false=>
        refine .inr ⟨_,rfl,.inl ⟨rfl,λhh=>?_⟩⟩;have:=v2.2 (hh.1 _ (AD hk));rw [hv]at this;cases this
       |true=>
        have l:=v2.1 hv;simp only [Al,Ac];by_cases p:k=0
        ·rw [Af (by omega)];simp only [Ac,Aa];rw [ad1 (by omega)];refine .inl ⟨(),rfl,λj x hj a=>?_,λj x y hj=>by omega⟩;obtain rfl:j=k:=by omega
         rw [g]at a
         injection a with a
         rw [<-a];exact l
        rw [Ad (by omega)];simp only [Ae];rw [Cz (by omega) (by omega),show(k:Int)-1=((k-1:Nat):Int) by omega,AC,Ab (by omega)];simp only [Aa];have good:(f.Blocks[i].Leaves[k-1].Is=0->f.Blocks[i].Leaves[k].Is=0)->(∀j x,j<k+1->f.Blocks[i].Leaves[j]?=some x->lfP x)/\∀(j:Nat) x y,j+1<k+1->f.Blocks[i].Leaves[j]?=some x->f.Blocks[i].Leaves[j+1]?=some y->x.Is=0->y.Is=0:=by
         intro hg;refine⟨λj x hj a=>?_,λj x y hj a c h0=>?_⟩
         ·by_cases e:j=k
          ·subst e;rw [g]at a
           injection a with a
           rw [<-a];exact l
          exact d.1 j x (by omega) a
         by_cases e:j+1=k
         ·obtain rfl:j=k-1:=by omega
          rw [Ab (by omega)]at a
          injection a with a
          rw [show k-1+1=k by omega,g]at c
          injection c with c
          rw [<-c];exact hg (by rw [a];exact h0)
         exact d.2 j x y (by omega) a c h0
        cases e0:(f.Blocks[i].Leaves[k-1].Is==0)with
        |false=>
         simp only [Ac,Aa];rw [ad1 (by omega)];exact .inl ⟨(),rfl,good (λhh=>by rw [hh]at e0;cases e0)⟩
        |true=>
         simp only [Ae,Aa]
         cases e1:(f.Blocks[i].Leaves[k].Is !=0)with
         |false=>
          simp only [Ac];rw [ad1 (by omega)];exact .inl ⟨(),rfl,good (λ_=>by simpa using e1)⟩
         |true=>
          refine .inr ⟨_,rfl,.inl ⟨rfl,λhh=>?_⟩⟩;have:=hh.2 (k-1) _ _ (Ab (by omega)) (by rw [show k-1+1=k by omega];exact g) (by simpa using e0)
          simp [this]at e1)
      (λ_ d=>⟨_,by simp only [Ei,AE,Aq,Av,Ac],.inr ⟨rfl,λx a=>by
       obtain⟨j,hj,rfl⟩:=AI a
       exact d.1 j _ hj (Ab hj),λj x y a c=>d.2 j x y (Ai.1 c).1 a c⟩⟩) (s:=()) ⟨λj x hj=>by omega,λj x y hj=>by omega⟩
     have q1':Aw (λs:Int=>Ei f.Blocks[i] s) 0=some q:=q1;rw [q1']
     rcases q2 with⟨rfl,q2⟩|⟨rfl,q2,q3⟩
     ·exact .inr ⟨_,rfl,.inl ⟨rfl,λhh=>q2 ⟨(hh _ hm).leaf,(hh _ hm).turn⟩⟩⟩
     simp only [Aa,BM];rw [ad1 (by omega)];refine .inl ⟨(),rfl,λj b hj hb=>?_⟩;by_cases e:j=i
     ·subst e;rw [hx]at hb
      injection hb with hb
      rw [<-hb];exact⟨h4,hw,q2,q3⟩
     exact hs j b (by omega) hb
    rw [Af hw];exact .inr ⟨_,rfl,.inl ⟨rfl,λhh=>hw (hh _ hm).wear⟩⟩
   rw [show(ln f.Blocks[i].Leaves !=4)=true by simp [ln];omega]
   exact .inr ⟨_,rfl,.inl ⟨rfl,λhh=>h4 (hh _ hm).four⟩⟩)
  (λ_ hs=>⟨_,by simp only [Ej,AE,Aq,Av,Ac],.inr ⟨rfl,λb hb=>by
   obtain⟨j,hj,rfl⟩:=AI hb
   exact hs j _ hj (Ab hj)⟩⟩) (s:=()) (λj b hj=>by omega)
 have h1':Aw (λs:Int=>Ej f s) 0=some r:=h1;rw [h1']
 rcases h2 with⟨rfl,h2⟩|⟨rfl,h2⟩
 ·exact⟨_,rfl,by simp only [BH,R9];exact λhh=>h2 hh.blk⟩
 simp only [Aa,BM];rw [E6,Cf];refine⟨_,rfl,?_⟩;rw [A9];constructor
 ·intro hh;exact⟨by omega,h2⟩
 intro hh;have:=hh.n;omega
theorem Cg.cap (h:Cg f):L0 f:=⟨by have:=h.n;omega,λb hb=>by rw [(h.blk b hb).four];omega⟩
theorem Cg.text (h:Cg f):∀b∈f.Blocks,∀x∈b.Leaves,(L x.Text).length<=120:=λb hb x hx=>by
 rcases(h.blk b hb).leaf x hx with h|h|h
 ·rw [h.2];simp
 ·exact h.2.2
 exact h.2
theorem RI (h:Cg f):Gc f=some true:=by
 obtain⟨v,h1,h2⟩:=wX f h.cap;rw [h1,h2.2 h]
theorem Cg.few (h:Cg f):nl f.Blocks<=40:=by
 have:∀l:List Block,(∀b∈l,Kk b)->nl l=4*l.length:=by
  intro l
  induction l with
  |nil=>intro _;rfl
  |cons b l ih=>
   intro hh;have h1:=ih (λx hx=>hh x (by simp [hx]));have h2:=(hh b (by simp)).four;unfold Go.TI.nl at h1⊢;rw [BF,FJ,Ay,h1,h2];omega
 rw [this _ h.blk];have:=h.n;omega
def W4 (y:As):Int:=y.Page.Seq
def SR (l r:List As):Prop:=srt W4 r/\Ch W4 l r
theorem SR.uniq {l:List As} (h:SR l r) (h':SR l r'):r=r':=O8 W4 h.1 h'.1 (λk=>by rw [h.2 k,<-h'.2 k])
theorem SR.mem {l:List As} (h:SR l r):y∈r↔y∈l:=h.2.mem
theorem SR.filter {l:List As} (h:SR l r) (p:As->Bool):SR (l.filter p) (r.filter p):=by
 refine⟨h.1.filter _,λk=>?_⟩;have:=h.2 k;rw [GS,GS]
 have e:∀m:List As,m.filter (λx=>(W4 x==k)&&p x)=(m.filter λx=>W4 x==k).filter p:=λm=>by
  rw [GS];congr 1;funext x;exact Bool.and_comm _ _
 rw [e,e,this]
theorem SR.add {A B r:List As} (h:SR (A++B) r) (hy:∀x∈r,W4 x<W4 y):SR (A++ [y]++B) (r++ [y]):=by
 refine⟨?_,λk=>?_⟩
 ·unfold srt;rw [AX];refine⟨h.1,IB _ _,λx hx z hz=>?_⟩;rw [Az]at hz;subst hz;have:=hy x hx;omega
 have h2:=h.2 k;rw [AT]at h2;rw [AT,AT,AT];by_cases e:W4 y=k
 ·have e1:∀x∈A++B,¬(W4 x==k)=true:=λx hx=>by
   have:=hy x (h.mem.2 hx);simp;omega
  have a0:A.filter (λx=>W4 x==k)=[]:=BI.2 λx hx=>e1 x (by simp [hx])
  have b0:B.filter (λx=>W4 x==k)=[]:=BI.2 λx hx=>e1 x (by simp [hx])
  rw [a0,b0]at h2⊢;rw [h2];simp
 have:[y].filter (λx=>W4 x==k)=[]:=B9 (by simpa using e);rw [this,A0,A0];exact h2
theorem tV {t:ByteArray} (h:F7 t=some (p,true)):gO t=some p:=by unfold gO;rw [h]
theorem ACX (h:Cg f):Aw (λs:List As×Int=>EC f s.1 s.2) ([],0)=some (Km 0 f.Blocks):=by
 have hn:=h.n;obtain⟨X,h1,h2⟩:=Bk (body:=λs:List As×Int=>EC f s.1 s.2) (λs i=>(s,i)) f.Blocks.length (λi o=>o=Km 0 (f.Blocks.take i)/\o.length<=4*i) (λb=>b=Km 0 f.Blocks)
  (λa i hi hs=>by
   obtain⟨ho,m⟩:=hs;have hb:f.Blocks[i]?=some f.Blocks[i]:=Ab hi;have hm:f.Blocks[i]∈f.Blocks:=AD _;have h4:=(h.blk _ hm).four;refine .inl ?_;simp only [EC,AE,Ad hi,Ae];obtain⟨u,q1,q2,q3⟩:=Bk (body:=λs:List As×Int=>Fd f (i:Int) s.1 s.2) (λs i=>(s,i)) f.Blocks[i].Leaves.length (λk u=>u=a++Wa i 0 (f.Blocks[i].Leaves.take k)/\u.length<=a.length+k) (λu=>u=a++Wa i 0 f.Blocks[i].Leaves/\u.length<=a.length+4)
    (λu k hk hu=>by
     obtain⟨g,q⟩:=hu;have hx:f.Blocks[i].Leaves[k]?=some f.Blocks[i].Leaves[k]:=Ab hk;have j:f.Blocks[i].Leaves[k]∈f.Blocks[i].Leaves:=AD _
     have l:∀y:As,ap 72 u [y]=some (u++ [y]):=λy=>C3 (by simp only [Aj];omega)
     have c:∀z,Wa i 0 (f.Blocks[i].Leaves.take (k+1))=Wa i 0 (f.Blocks[i].Leaves.take k)++z↔pg i k f.Blocks[i].Leaves[k]=z:=by
      intro z;rw [EL,hx,Xz];simp only [Option.toList,Wa,A0,AF];rw [show(0:Int)+((min k f.Blocks[i].Leaves.length:Nat):Int)=(k:Int) by omega];exact⟨λe=>List.append_cancel_left e,λe=>by rw [e]⟩
     refine .inl ?_;obtain⟨p,ok,r1,r2,r3,r4⟩:=Ih f.Blocks[i].Leaves[k].Text (by have:=h.text _ hm _ j;omega);simp only [Fd,AE,Ad hk,Ae,AC,hb,Aa,Ws f h.cap hb hx,l]
     cases d:f.Blocks[i].Leaves[k].Is==1 with
     |false=>
      obtain⟨p',ok',t1,_⟩:=Ih (bs []) (by rw [DV];simp);simp only [Ac,Aa,t1];refine⟨u,by rw [ad1 (by omega)],?_,by omega⟩;rw [g,(c []).2 (by unfold pg;rw [A5 (by simpa using d)]),A0]
     |true=>
      simp only [Ae,Aa,r1]
      cases ok with
      |false=>
       refine⟨u,by simp only [Ac];rw [ad1 (by omega)],?_,by omega⟩;rw [g,(c []).2 (by unfold pg gO;rw [A3 (by simpa using d),r1]),A0]
      |true=>
       refine⟨u++ [As.mk i k p],by simp only [Ae];rw [ad1 (by omega)],?_,by simp only [Ag,Aj];omega⟩
       rw [g,(c [As.mk i k p]).2 (by unfold pg;rw [A3 (by simpa using d),tV r1]),Ar])
    (λu hu=>⟨u,by simp only [Fd,AC,hb,Aa,AE,Aq,Av,Ac],by rw [hu.1,Ba (A4 _)],by omega⟩) (s:=a) ⟨by simp [Wa],by omega⟩
   have q1':Aw (λs:List As×Int=>Fd f (i:Int) s.1 s.2) (a,0)=some u:=q1;rw [q1'];simp only [Aa];rw [ad1 (by omega)];refine⟨u,rfl,?_,by omega⟩;rw [q2,ho,EL,hb,Rv];simp only [Option.toList,Km,A0,AF]
   rw [show(0:Int)+((min i f.Blocks.length:Nat):Int)=(i:Int) by omega])
  (λa hs=>⟨a,by simp only [EC,AE,Aq,Av,Ac],by rw [hs.1,Ba (A4 _)]⟩) (s:=[]) ⟨by simp [Km],by simp⟩
 rw [h2]at h1;exact h1
theorem AHm (h:Cg f):∃r,AC0 f r/\SR (Km 0 f.Blocks) r:=by
 have hT:∀b∈f.Blocks,∀x∈b.Leaves,(L x.Text).length<=1048576:=λb hb x hx=>by have:=h.text b hb x hx;omega
 have hn:=h.few;obtain⟨r,h1,h2,h3,h4,h5⟩:=aL f h.cap hT (by omega);refine⟨r,⟨h1,h2,by omega,h4,λy hy=>tW hT (h4 y hy),h5⟩,h5,?_⟩;obtain⟨X,c1,_,c3,_⟩:=SL f h.cap hT (by omega);have hX:X=Km 0 f.Blocks:=by
  rw [ACX h]at c1
  injection c1 with c1
  exact c1.symm
 obtain⟨r',s1,s2,s3⟩:=fY BO X (by omega);have:H1 f=some r':=by
  unfold H1;obtain⟨X',c1',c2',_⟩:=SL f h.cap hT (by omega);rw [c1]at c1'
  injection c1' with c1'
  rw [c2',<-c1',Aa,s1];rfl
 rw [h2]at this
 injection this with this
 rw [this,<-hX];exact s3
def Kl (l:List Leaf):Nat:=(l.takeWhile λx=>x.Is !=0).length
theorem nS (l:List Leaf):Kl l<=l.length:=by
 unfold Kl;have:=(List.takeWhile_sublist (λx:Leaf=>x.Is !=0) (l:=l)).length_le;exact this
theorem Og:∀(l:List Leaf),(∀(k:Nat) x,k<Kl l->l[k]?=some x->x.Is≠0)/\(∀x,l[Kl l]?=some x->x.Is=0)
 |[]=>⟨λk x h=>by simp [Kl]at h,λx h=>by simp [Kl]at h⟩
 |y::l=>by
  obtain⟨h1,h2⟩:=Og l;by_cases e:y.Is=0
  ·have:Kl (y::l)=0:=by unfold Kl;rw [List.takeWhile_cons_of_neg (by simp [e])];rfl
   rw [this];refine⟨λk x hk=>by omega,λx hx=>?_⟩;simp only [CO,Ao]at hx;rw [<-hx];exact e
  have:Kl (y::l)=Kl l+1:=by unfold Kl;rw [List.takeWhile_cons_of_pos (by simpa using e)];rfl
  rw [this];refine⟨λk x hk hx=>?_,λx hx=>?_⟩
  ·cases k with
   |zero=>
    simp only [CO,Ao]at hx;rw [<-hx];exact e
   |succ k=>exact h1 k x (by omega) (by simpa using hx)
  exact h2 x (by simpa using hx)
theorem JX (b:Block) (h:b.Leaves.length=4):Fk b=some (Kl b.Leaves:Int):=by
 unfold Fk;obtain⟨h1,h2⟩:=Og b.Leaves;have a:=nS b.Leaves;obtain⟨r,q1,q2⟩:=Bk (body:=λs:Int=>Ef b s) (λ(_:Unit) i=>i) b.Leaves.length (λi _=>i<=Kl b.Leaves) (λr=>(r= .inr (Kl b.Leaves:Int))\/r= .inl ()/\Kl b.Leaves=4)
  (λ_ i hi hs=>by
   have hx:=Ab hi;simp only [Ef,AE,Ad hi,Ae,AC,hx,Aa];by_cases e:i=Kl b.Leaves
   ·have:=h2 b.Leaves[i] (by rw [<-e];exact hx);rw [show(b.Leaves[i].Is==0)=true by simpa using this];exact .inr ⟨_,rfl,.inl (by rw [e])⟩
   have:=h1 i b.Leaves[i] (by omega) hx;rw [show(b.Leaves[i].Is==0)=false by simpa using this,Ac,ad1 (by omega)]
   exact .inl ⟨(),rfl,by omega⟩)
  (λ_ hs=>⟨_,by simp only [Ef,AE,Aq,Av,Ac],.inr ⟨rfl,by omega⟩⟩) (s:=()) (by omega)
 have q1':Aw (λs:Int=>Ef b s) 0=some r:=q1;rw [q1']
 rcases q2 with rfl|⟨rfl,q2⟩
 ·rfl
 rw [q2];rfl
theorem Kk.blank (h:Kk b) (hk:Kl b.Leaves<=k) (hx:b.Leaves[k]?=some x):x.Is=0:=by
 induction k generalizing x with
 |zero=>
  have:Kl b.Leaves=0:=by omega
  exact(Og b.Leaves).2 x (by rw [this];exact hx)
 |succ k ih=>
  by_cases e:Kl b.Leaves=k+1
  ·exact(Og b.Leaves).2 x (by rw [e];exact hx)
  have a:=(Ai.1 hx).1;have hy:b.Leaves[k]?=some b.Leaves[k]:=Ab (by omega);exact h.turn k _ x hy hx (ih (by omega) hy)
theorem S9 {y:Leaf} (h:Kk b) (hk:k=Kl b.Leaves) (h4:k<4) (hy:lfP y) (a:y.Is≠0):Kk (Block.mk b.Bad b.Wear (b.Leaves.set k y)):=by
 refine⟨by simpa using h.four,h.wear,λx hx=>?_,?_⟩
 ·rcases Co hx with hx|rfl
  ·exact h.leaf x hx
  exact hy
 intro j x z hx hz h0;have hx':(b.Leaves.set k y)[j]?=some x:=hx;have hz':(b.Leaves.set k y)[j+1]?=some z:=hz;rw [Cd]at hx' hz';by_cases e:k=j
 ·subst e;rw [A3 rfl,A3 (by rw [h.four];exact h4)]at hx'
  injection hx' with hx'
  rw [<-hx']at h0;exact absurd h0 a
 rw [A5 e]at hx';by_cases e2:k=j+1
 ·have:=(Og b.Leaves).1 j x (by omega) hx';exact absurd h0 this
 rw [A5 e2]at hz';exact h.turn j x z hx' hz' h0
theorem Lx (h:Cg f) (hb:Kk b):Cg (Flash.mk (f.Blocks.set i b)):=by
 refine⟨by have:=h.n;simpa using this,λx hx=>?_⟩
 rcases Co hx with hx|rfl
 ·exact h.blk x hx
 exact hb
def uH (f:Flash) (b l:Int) (t:ByteArray):Prop:=∃x,gi f.Blocks b=some x/\x.Bad=false/\l=(Kl x.Leaves:Int)/\Kl x.Leaves<4/\1<=(L t).length/\(L t).length<=120
def prog (f:Flash) (b l:Int) (y:Leaf):Flash:=Flash.mk (match gi f.Blocks b with
 |some x=>si f.Blocks b (Block.mk x.Bad x.Wear (si x.Leaves l y))
 |none=>f.Blocks)
theorem sU (h:Cg f) (b l:Int) (t:ByteArray):(uH f b l t/\K5 f b l t=some (prog f b l (Leaf.mk 1 t),true))\/(¬uH f b l t/\K5 f b l t=some (f,false)):=by
 have hn:=h.n;unfold K5 Ty;rw [EF f h.cap,RI h];simp only [Aa,Al,Ac];rw [Cf,Cz (by omega) (by omega),E6];simp only [Aa];by_cases hb:0<=b/\b<=(f.Blocks.length:Int)-1
 ·rw [Ad hb];simp only [Ae];have hg:=Kr (l:=f.Blocks) hb.1 (by omega);have hm:f.Blocks[b.toNat]'(by omega)∈f.Blocks:=AD _;generalize d:f.Blocks[b.toNat]'(by omega)=x at hg hm;have hP:=h.blk x hm;rw [hg];simp only [Aa]
  cases a:x.Bad with
  |true=>
   refine .inr ⟨?_,rfl⟩;rintro⟨z,hz,h2,_⟩;rw [hg]at hz
   injection hz with hz
   rw [<-hz,a]at h2;cases h2
  |false=>
   simp only [AJ,Ae];by_cases c:l<4
   ·rw [Ad c];simp only [Ae];rw [JX x hP.four];simp only [Aa];by_cases hl:l=(Kl x.Leaves:Int)
    ·rw [show(l==(Kl x.Leaves:Int))=true by simpa using hl];simp only [Ae];rw [BL,E6];simp only [Aa];by_cases ht:1<=(L t).length/\(L t).length<=120
     ·rw [Ad (by omega:1<=((L t).length:Int)/\((L t).length:Int)<=120)];simp only [Al,Ac,Aa];refine .inl ⟨⟨x,hg,a,hl,by omega,ht⟩,?_⟩;rw [Kr (l:=x.Leaves) (i:=l) (by omega) (by rw [hP.four];omega)];simp only [Aa];unfold prog;rw [hg];simp only [a]
     rw [Af (by omega:¬(1<=((L t).length:Int)/\((L t).length:Int)<=120))];refine .inr ⟨?_,rfl⟩;rintro⟨z,hz,_,_,_,h5⟩;exact ht h5
    rw [show(l==(Kl x.Leaves:Int))=false by simpa using hl];refine .inr ⟨?_,rfl⟩;rintro⟨z,hz,_,h3,_⟩;rw [hg]at hz
    injection hz with hz
    rw [<-hz]at h3;exact hl h3
   rw [Af c];refine .inr ⟨?_,rfl⟩;rintro⟨z,hz,_,h3,h4,_⟩;omega
 rw [Af hb];refine .inr ⟨?_,rfl⟩;rintro⟨z,hz,_⟩;obtain⟨k1,k2⟩:=C6 hz;have:=(Ai.1 k2).1;omega
theorem Pb {b l:Int} {t:ByteArray} (h:Cg f) (hm:uH f b l t):Cg (prog f b l (Leaf.mk 1 t))/\Cg (prog f b l (Leaf.mk 2 t))/\∃A B,Km 0 f.Blocks=A++B/\(∀p,gO t=some p->Km 0 (prog f b l (Leaf.mk 1 t)).Blocks=A++ [As.mk b l p]++B)/\(∀u,Km 0 (prog f b l (Leaf.mk 2 u)).Blocks=A++B):=by
 obtain⟨x,h1,h2,rfl,h4,h5⟩:=hm;obtain⟨k1,k2⟩:=C6 h1;obtain⟨c,rfl⟩:∃c:Nat,b=(c:Int):=⟨_,(Bl k1).symm⟩;rw [B6]at k2;have hP:=h.blk x (A6 k2);have hx:x.Leaves[Kl x.Leaves]?=some (x.Leaves[Kl x.Leaves]'(by rw [hP.four];exact h4)):=Ab _;have d:=hP.blank (A4 _) hx
 have a:∀y,prog f (c:Int) (Kl x.Leaves:Int) y=Flash.mk (f.Blocks.set c (Block.mk x.Bad x.Wear (x.Leaves.set (Kl x.Leaves) y))):=λy=>by
  unfold prog;rw [h1];simp only [Gs]
 rw [a,a];refine⟨Lx h (S9 hP rfl h4 (.inr (.inl ⟨rfl,h5.1,h5.2⟩)) (by simp)),Lx h (S9 hP rfl h4 (.inr (.inr ⟨rfl,h5.2⟩)) (by simp)),?_⟩;obtain⟨A,B,e1,e2⟩:=AAb k2 hx;have z:pg (c:Int) (Kl x.Leaves:Int) (x.Leaves[Kl x.Leaves]'(by rw [hP.four];exact h4))=[]:=by unfold pg;rw [A5 (by rw [d];omega)]
 rw [z,A0]at e1;refine⟨A,B,e1,λp hp=>?_,λu=>?_⟩
 ·rw [e2];congr 2;unfold pg;rw [A3 rfl,hp]
 rw [a,e2];have:pg (c:Int) (Kl x.Leaves:Int) (Leaf.mk 2 u)=[]:=by unfold pg;rw [A5 (by simp)]
 rw [this,A0]
theorem AD5 {l:List Leaf} (h:∀x∈l,x.Is=0):nb l=l.length:=by
 induction l with
 |nil=>rfl
 |cons x l ih=>
  have h1:=ih (λy hy=>h y (by simp [hy]));unfold nb at h1⊢;rw [BF,FJ,h1,X2,A3 (by simpa using h x (by simp)),Ay];omega
theorem AFD {l:List Leaf} (h:∀x∈l,x.Is≠0):nb l=0:=by
 induction l with
 |nil=>rfl
 |cons x l ih=>
  have h1:=ih (λy hy=>h y (by simp [hy]));unfold nb at h1⊢;rw [BF,FJ,h1,X2,A5 (by simpa using h x (by simp))]
theorem AG7 (l m:List Leaf):nb (l++m)=nb l+nb m:=by unfold nb;rw [CD,List.sum_append]
theorem Kk.nb (h:Kk b):nb b.Leaves=4-Kl b.Leaves:=by
 have a:=nS b.Leaves;have h4:=h.four;have e:Go.TI.nb b.Leaves=Go.TI.nb (b.Leaves.take (Kl b.Leaves))+Go.TI.nb (b.Leaves.drop (Kl b.Leaves)):=by rw [<-AG7,Br]
 rw [e,AFD (l:=b.Leaves.take (Kl b.Leaves)),AD5 (l:=b.Leaves.drop (Kl b.Leaves)),B8,h4]
 ·omega
 ·intro x hx;obtain⟨k,hk,rfl⟩:=AI hx;rw [B8]at hk;rw [SZ];exact h.blank (k:=Kl b.Leaves+k) (by omega) (Ab _)
 intro x hx;obtain⟨k,hk,rfl⟩:=AI hx;rw [AF]at hk;rw [EM];exact(Og b.Leaves).1 k _ (by omega) (Ab _)
def S5 (f:Flash) (b l:Int):Prop:=∃x,gi f.Blocks b=some x/\x.Bad=false/\l=(Kl x.Leaves:Int)/\Kl x.Leaves<4
theorem cQ (h:Cg f):∃v:Int,Jy f=some v/\((v= -1/\∀b∈f.Blocks,b.Bad=false->Kl b.Leaves=0\/Kl b.Leaves=4)\/∃x,gi f.Blocks v=some x/\x.Bad=false/\Kl x.Leaves<4):=by
 unfold Jy;have hn:=h.n;obtain⟨b,h1,h3⟩:=Bk (body:=λs:Int=>DH f s) (λ(_:Unit) i=>i) f.Blocks.length (λi _=>∀(j:Nat) b,j<i->f.Blocks[j]?=some b->b.Bad=false->Kl b.Leaves=0\/Kl b.Leaves=4) (λb=>(b= .inl ()/\∀b∈f.Blocks,b.Bad=false->Kl b.Leaves=0\/Kl b.Leaves=4)\/∃i:Nat,∃x,b= .inr (i:Int)/\f.Blocks[i]?=some x/\x.Bad=false/\Kl x.Leaves<4)
  (λ_ i hi hs=>by
   have hg:f.Blocks[i]?=some f.Blocks[i]:=Ab hi;have hP:=h.blk _ (AD hi);have c:=hP.nb;have h4:=hP.four;have d:=nS f.Blocks[i].Leaves;simp only [DH,AE,Ad hi,Ae];rw [Ze f i hg (by omega)];simp only [Aa,AC,hg];rw [ad1 (by omega)]
   cases a:f.Blocks[i].Bad with
   |true=>
    refine .inl ⟨(),rfl,λj b hj hb h0=>?_⟩;by_cases e:j=i
    ·subst e;rw [hg]at hb
     injection hb with hb
     rw [<-hb,a]at h0;cases h0
    exact hs j b (by omega) hb h0
   |false=>
    simp only [AJ,Ae];by_cases e:0<Kl f.Blocks[i].Leaves/\Kl f.Blocks[i].Leaves<4
    ·rw [Ad (by omega),Ad (by omega)];exact .inr ⟨_,rfl,.inr ⟨i,_,rfl,hg,a,e.2⟩⟩
    have:(bif decide (((nb f.Blocks[i].Leaves:Nat):Int)>0)then(some (decide (((f.Blocks[i].Leaves.length-nb f.Blocks[i].Leaves:Nat):Int)>0)))else(some false):Option Bool)=some false:=by
     by_cases e2:nb f.Blocks[i].Leaves=0
     ·rw [Af (by omega)];rfl
     rw [Ad (by omega),Af (by omega)];rfl
    rw [this];refine .inl ⟨(),rfl,λj b hj hb h0=>?_⟩;by_cases e:j=i
    ·subst e;rw [hg]at hb
     injection hb with hb
     rw [<-hb];omega
    exact hs j b (by omega) hb h0)
  (λ_ hs=>⟨_,by simp only [DH,AE,Aq,Av,Ac],.inl ⟨rfl,λb hb=>by
   obtain⟨j,hj,rfl⟩:=AI hb
   exact hs j _ hj (Ab hj)⟩⟩) (s:=()) (λj b hj=>by omega)
 have h1':Aw (λs:Int=>DH f s) 0=some b:=h1;rw [h1']
 rcases h3 with⟨rfl,h3⟩|⟨i,x,rfl,h4,h5,h6⟩
 ·exact⟨-1,rfl,.inl ⟨rfl,h3⟩⟩
 exact⟨(i:Int),rfl,.inr ⟨x,by rw [AC];exact h4,h5,h6⟩⟩
theorem tA (h:Cg f):∃b l:Int,∃ok:Bool,K6 f=some (b,l,ok)/\(ok=true->S5 f b l)/\(ok=false->∀b∈f.Blocks,b.Bad=false->Kl b.Leaves=4):=by
 have hn:=h.n;obtain⟨o,o1,o2⟩:=cQ h;obtain⟨e1,_⟩:=Sl f h.cap;unfold K6;rw [RI h,o1,e1];simp only [Aa,Al,Ac]
 rcases o2 with⟨rfl,o2⟩|⟨x,o2,o3,o4⟩
 ·rw [Af (by omega)];simp only [Ac];have a:∀y∈Oq f,S5 f y 0:=by
   intro y hy;unfold Oq at hy;obtain⟨i,hi,rfl⟩:=AP.1 hy;obtain⟨c,d⟩:=AN.1 hi;rw [GR]at c;unfold MT at d;rw [Ab c]at d;simp only [An,CV,A9]at d;have hP:=h.blk _ (AD c);have:=hP.nb;have:=hP.four;exact⟨_,by rw [AC];exact Ab c,d.1,by omega,by omega⟩
  cases j:Oq f with
  |nil=>
   refine⟨0,0,false,rfl,by simp,λ_ b hb g=>?_⟩
   rcases o2 b hb g with e|e
   ·obtain⟨i,hi,rfl⟩:=AI hb;have hm:(i:Int)∈Oq f:=by
     unfold Oq;refine AP.2 ⟨i,AN.2 ⟨GR.2 hi,?_⟩,rfl⟩;unfold MT;rw [Ab hi];have hP:=h.blk _ (AD hi);have:=hP.nb;have:=hP.four;simp only [g,AJ,C4,A9];omega
    rw [j]at hm;cases hm
   exact e
  |cons x l=>
   rw [j]at a;have t:(x::l).length<=10:=by
    rw [<-j];unfold Oq;rw [Bo];have:=BN (MT f) (List.range f.Blocks.length);rw [Ck]at this;omega
   have m:(ln (x::l)==0)=false:=by simp [ln];omega
   rw [m];simp only [Ac];have p:gi (x::l) 0=some x:=AC (i:=0);rw [p];simp only [Aa]
   have k:∀y,S5 f y 0->∃z,gi f.Blocks y=some z:=λy ⟨z,hz,_⟩=>⟨z,hz⟩
   obtain⟨w,w1,w2⟩:=TO (body:=λs:Int×Int=>Fe f (x::l) s.1 s.2) (λ(b:Int) i=>(b,i)) (x::l).length (λ_ b=>S5 f b 0) (λb=>S5 f b 0)
    (λb i hi hb=>by
     have hg:(x::l)[i]?=some (x::l)[i]:=Ab hi;have hp:=a _ (AD hi);obtain⟨z1,q⟩:=k _ hp;obtain⟨z2,r⟩:=k _ hb;simp only [Fe,AE,Ad hi,Ae,AC,hg,Aa,q,r];rw [ad1 (by omega)]
     cases decide (z1.Wear<z2.Wear)with
     |true=>exact .inl ⟨_,rfl,hp⟩
     |false=>exact .inl ⟨_,rfl,hb⟩)
    (λb hb=>⟨b,by simp only [Fe,AE,Aq,Av,Ac],hb⟩) l.length 1 x (by simp;omega) (a x (by simp))
   have e1':((1:Nat):Int)=1:=rfl;rw [e1']at w1;rw [w1];exact⟨w,0,true,rfl,λ_=>w2,by simp⟩
 obtain⟨k1,k2⟩:=C6 o2;rw [Ad (by omega),Ae,o2];simp only [Aa];rw [JX x (h.blk x (A6 k2)).four];exact⟨_,_,true,rfl,λ_=>⟨x,o2,o3,rfl,o4⟩,by simp⟩
def AEF (f:Flash) (b:Int):Prop:=∃x,gi f.Blocks b=some x/\x.Bad=false/\x.Wear≠1000000000
def Td (f:Flash) (b:Int):Flash:=Flash.mk (match gi f.Blocks b with
 |some x=>si f.Blocks b (Block.mk false (x.Wear+1) MZ)
 |none=>f.Blocks)
theorem ADC (h:Cg f) (b:Int):(AEF f b/\Su f b=some (Td f b,true))\/(¬AEF f b/\Su f b=some (f,false)):=by
 have hn:=h.n;unfold Su;rw [EF f h.cap,RI h];simp only [Aa,Al,Ac];rw [Cf,Cz (by omega) (by omega),E6];simp only [Aa];by_cases hb:0<=b/\b<=(f.Blocks.length:Int)-1
 ·rw [Ad hb];simp only [Al,Ac];have hg:=Kr (l:=f.Blocks) hb.1 (by omega);have hm:f.Blocks[b.toNat]'(by omega)∈f.Blocks:=AD _;generalize c:f.Blocks[b.toNat]'(by omega)=x at hg hm;have hP:=h.blk x hm;rw [hg];simp only [Aa]
  cases a:x.Bad with
  |true=>
   refine .inr ⟨?_,rfl⟩;rintro⟨z,hz,h2,_⟩;rw [hg]at hz
   injection hz with hz
   rw [<-hz,a]at h2;cases h2
  |false=>
   simp only [Ac,Aa];by_cases hw:x.Wear=1000000000
   ·rw [show(x.Wear==1000000000)=true by simpa using hw];refine .inr ⟨?_,rfl⟩;rintro⟨z,hz,_,h3⟩;rw [hg]at hz
    injection hz with hz
    rw [<-hz]at h3;exact h3 hw
   rw [show(x.Wear==1000000000)=false by simpa using hw];simp only [Ac];rw [Rw];simp only [Aa];have:=hP.wear;rw [CA (by omega) (by omega)];refine .inl ⟨⟨x,hg,a,hw⟩,?_⟩;unfold Td;rw [hg]
 rw [Af hb];refine .inr ⟨?_,rfl⟩;rintro⟨z,hz,_⟩;obtain⟨k1,k2⟩:=C6 hz;have:=(Ai.1 k2).1;omega
theorem wK {bad:Bool} {w:Int} (h:0<=w/\w<=1000000000):Kk (Block.mk bad w MZ):=by
 refine⟨rfl,h,λx hx=> .inl ?_,λk x y hx hy _=>?_⟩
 ·have:=Cv hx;rw [this];exact⟨rfl,rfl⟩
 have:=Cv (A6 hy);rw [this]
theorem TE (i:Int):∀(k:Int) (l:List Leaf),(∀x∈l,x.Is≠1)->Wa i k l=[]
 |k,[],_=>rfl
 |k,x::l,h=>by
  rw [Wa,TE i (k+1) l (λy hy=>h y (by simp [hy]))];unfold pg;rw [A5 (h x (by simp))];rfl
theorem VG {b:Int} (h:Cg f) (hc:AEF f b):Cg (Td f b)/\Km 0 (Td f b).Blocks=(Km 0 f.Blocks).filter λy=>y.Block !=b:=by
 obtain⟨x,h1,h2,h3⟩:=hc;obtain⟨k1,k2⟩:=C6 h1;obtain⟨c,rfl⟩:∃c:Nat,b=(c:Int):=⟨_,(Bl k1).symm⟩;rw [B6]at k2;have hP:=h.blk x (A6 k2);have hw:=hP.wear;unfold Td;rw [h1];simp only [Gs];exact⟨Lx h (wK ⟨by omega,by omega⟩),Wc k2 (TE _ _ _ λy hy=>by rw [Cv hy];simp)⟩
def Qi (f:Flash) (s:Bb):Prop:=(s.Kind=1/\uH f s.Block s.Leaf s.Text)\/(s.Kind=2/\AEF f s.Block)
def JN (f:Flash) (s:Bb):Flash:=if s.Kind=1 then prog f s.Block s.Leaf (Leaf.mk 1 s.Text)else Td f s.Block
theorem Sy (h:Cg f) (s:Bb):(Qi f s/\IN f s=some (JN f s,true))\/(¬Qi f s/\IN f s=some (f,false)):=by
 unfold IN;by_cases k1:s.Kind=1
 ·rw [show(s.Kind==1)=true by simpa using k1];simp only [Ae]
  rcases sU h s.Block s.Leaf s.Text with⟨h1,h2⟩|⟨h1,h2⟩
  ·rw [h2];exact .inl ⟨.inl ⟨k1,h1⟩,by unfold JN;rw [A3 k1];rfl⟩
  rw [h2];exact .inr ⟨by rintro(hh|hh);exact h1 hh.2;omega,rfl⟩
 rw [show(s.Kind==1)=false by simpa using k1];simp only [Ac];by_cases k2:s.Kind=2
 ·rw [show(s.Kind==2)=true by simpa using k2];simp only [Ae]
  rcases ADC h s.Block with⟨h1,h2⟩|⟨h1,h2⟩
  ·rw [h2];exact .inl ⟨.inr ⟨k2,h1⟩,by unfold JN;rw [A5 k1];rfl⟩
  rw [h2];exact .inr ⟨by rintro(hh|hh);omega;exact h1 hh.2,rfl⟩
 rw [show(s.Kind==2)=false by simpa using k2];simp only [Ac];rw [EF f h.cap];exact .inr ⟨by rintro(hh|hh)<;>omega,rfl⟩
theorem AFh {s:Bb} (h:Cg f) (hs:Qi f s):Cg (JN f s):=by
 unfold JN
 rcases hs with⟨h1,h2⟩|⟨h1,h2⟩
 ·rw [A3 h1];exact(Pb h h2).1
 rw [A5 (by omega)];exact(VG h h2).1
theorem XZ {t:ByteArray} {ok:Bool} (h:Cg f) (steps:List Bb) (hs:steps.length<=1000) (p:Page) (ht:E5 p=some (t,ok)) (hl:ok=true->1<=(L t).length/\(L t).length<=120):
  (ok=true/\∃b l,S5 f b l/\K6 f=some (b,l,true)/\DR f steps p=some (prog f b l (Leaf.mk 1 t),steps++ [Bb.mk 1 b l t],true))\/DR f steps p=some (f,steps,false):=by
 obtain⟨b,l,room,p1,p2,_⟩:=tA h;unfold DR;rw [ht,p1];simp only [Aa]
 cases ok with
 |false=>exact .inr rfl
 |true=>
  simp only [Al,Ac,Aa]
  cases room with
  |false=>exact .inr rfl
  |true=>
   simp only [Al,Ac];have hp:=p2 rfl;have hl':=hl rfl;have hm:uH f b l t:=by
    obtain⟨x,a1,a2,a3,a4⟩:=hp;exact⟨x,a1,a2,a3,a4,hl'⟩
   rcases Sy h (Bb.mk 1 b l t)with⟨h1,h2⟩|⟨h1,h2⟩
   ·rw [h2];simp only [Aa];rw [C3 (by simp;omega)];refine .inl ⟨trivial,b,l,hp,rfl,?_⟩;unfold JN;rfl
   exact absurd (.inl ⟨rfl,hm⟩) h1
theorem wN (u:ByteArray) (hu:(L u).length<=20000) (a:Nat) (ha:a<=(L u).length):∃n c,Du (D0.mk u (a:Int) false)=some (n,c)/\c.text_=u/\(c.bad_=true\/c.bad_=false/\∃b:Nat,c.at_=b/\a<b/\b<=(L u).length)/\(c.bad_=true->c.at_=a):=by
 obtain⟨r,h1,_,h2⟩:=Ig u (a:Int) (by omega) ⟨by omega,by omega⟩;rw [J6 u _ hu h1]
 rcases h2 with⟨e1,e2,e3⟩|⟨e1,a',b,n,k1,k2,k3,k4,k5,_⟩
 ·rw [e1];exact⟨_,_,rfl,rfl,.inl rfl,λ_=>rfl⟩
 rw [e1];refine⟨_,_,rfl,rfl,.inr ⟨rfl,b,k2,by omega,k5⟩,λhh=>by cases hh⟩
theorem ABw (t:ByteArray) (ht:(L t).length<=20000):∀(n a:Nat) (b:List Cu),(L t).length-a<=n->a<=(L t).length->b.length<=a->∃r,Aw (λs:List Cu×ByteArray×Int×Bool=>DG t s.1 s.2.1 s.2.2.1 s.2.2.2) (b,t,(a:Int),false)=some r/\(r= .inr ([],false)\/∃l:List Cu,r= .inl l/\l.length<=(L t).length)
 |n,a,b,hn,ha,ho=>by
  rw [A8];simp only [DG];rw [BL];by_cases c:a<(L t).length
  ·rw [Ad (by omega:(a:Int)<((L t).length:Int))];simp only [Ae,Aa,AJ];rw [EX t c,ad1 (by omega)];simp only [Aa];obtain⟨n1,c1,v1,t1,h1,z1⟩:=wN t ht (a+1) (by omega);rw [v1];simp only [Aa]
   rcases h1 with e1|⟨e1,b1,k1,k2,k3⟩
   ·
    have hz:=z1 e1;obtain⟨c1t,c1a,c1b⟩:=c1;simp only at t1 e1 hz;subst t1 e1 hz;rw [Hh _ _ ht ⟨by omega,by omega⟩];exact⟨_,rfl,.inl rfl⟩
   obtain⟨c1t,c1a,c1b⟩:=c1;simp only at t1 e1 k1;subst t1 e1 k1;obtain⟨n2,c2,v2,t2,h2,z2⟩:=wN c1t ht b1 k3;rw [v2];simp only [Aa]
   rcases h2 with e2|⟨e2,b2,m1,m2,m3⟩
   ·rw [e2];exact⟨_,rfl,.inl rfl⟩
   rw [e2];simp only [Ac];rw [Ro];simp only [Aa]
   cases Iy _ with
   |false=>exact⟨_,rfl,.inl rfl⟩
   |true=>
    simp only [Al,Ac];rw [C3 (by simp;omega),t2,m1];simp only [Aa]
    match n,hn with
    |n+1,hn=>exact ABw c1t ht n b2 _ (by omega) m3 (by simp;omega)
    |0,hn=>omega
  rw [Af (by omega)];exact⟨_,rfl,.inr ⟨_,rfl,by omega⟩⟩
noncomputable def gN (t:ByteArray):Option (List Cu):=match HU t with
 |some (l,true)=>some l
 |_=>none
theorem aO (t:ByteArray) (ht:(L t).length<=20000):∃l ok,HU t=some (l,ok)/\gN t=(if ok=true then some l else none)/\l.length<=20000:=by
 obtain⟨r,h1,h2⟩:=ABw t ht (L t).length 0 [] (by omega) (by omega) (by simp);unfold gN HU;have h1':Aw (λs:List Cu×ByteArray×Int×Bool=>DG t s.1 s.2.1 s.2.2.1 s.2.2.2) ([],t,0,false)=some r:=h1;rw [h1']
 rcases h2 with rfl|⟨l,rfl,h3⟩
 ·exact⟨[],false,rfl,rfl,by simp⟩
 exact⟨l,true,rfl,rfl,by omega⟩
def xU (t a b:Int) (y:As):Bool:=y.Page.Kind==2&&(y.Page.Tx==t&&(y.Page.Part==a&&(!decide (a>0)||y.Page.Count==b)))
def PY (r:List As) (t a b:Int):Option As:=r.find? (xU t a b)
theorem pW {x:α} (l:List α) (p:α->Bool) (h:∀j x,j<i->l[j]?=some x->p x=false) (hx:l[i]?=some x) (hp:p x=true):l.find? p=some x:=by
 obtain⟨h1,h2⟩:=Jk hx;rw [h1,List.find?_append];have:(l.take i).find? p=none:=by
  rw [Fy];intro y hy;obtain⟨j,hj,rfl⟩:=AI hy;rw [AF]at hj;rw [EM];rw [h j _ (by omega) (Ab _)];simp
 rw [this,Option.none_or,List.find?_cons_of_pos hp]
theorem ABS (l:List α) (p:α->Bool) (h:∀(j:Nat) x,l[j]?=some x->p x=false):l.find? p=none:=by
 rw [Fy];intro y hy;obtain⟨j,hj,rfl⟩:=AI hy;rw [h j _ (Ab hj)];simp
structure GM (r:List As):Prop where
 len:r.length<=1048576
 text:∀y∈r,(L y.Page.Text).length<=90
 seq:∀y∈r,1<=y.Page.Seq/\y.Page.Seq<=1000000000
 tx:∀y∈r,1<=y.Page.Tx/\y.Page.Tx<=1000000000
 cnt:∀y∈r,1<=y.Page.Count/\y.Page.Count<=9
 part:∀y∈r,0<=y.Page.Part/\y.Page.Part<y.Page.Count
def MN (a seq:Int) (y:As):Int:=if a=0\/y.Page.Seq<seq then y.Page.Seq else seq
theorem AEf (r:List As) (hr:GM r) (t a c:Int) (hp:0<=a) (text:ByteArray) (ht:(L text).length<=10000) (seq:Int):
  ∃text2,Aw (λs:Int×ByteArray×Bool×Int×Int=>Je r t a s.1 s.2.1 s.2.2.1 s.2.2.2.1 s.2.2.2.2) (c,text,false,0,seq)=some (match PY r t a c with
   |none=>(c,text,false,seq)
   |some y=>(y.Page.Count,text2,true,MN a seq y))/\(∀y,PY r t a c=some y->L text2=L text++L y.Page.Text):=by
 have k:=hr.len;obtain⟨b,h1,h2⟩:=Bk (body:=λs:Int×ByteArray×Bool×Int×Int=>Je r t a s.1 s.2.1 s.2.2.1 s.2.2.2.1 s.2.2.2.2) (λ(s:Int×ByteArray×Bool×Int) i=>(s.1,s.2.1,s.2.2.1,i,s.2.2.2)) r.length
  (λi s=>(s=(c,text,false,seq)/\∀(j:Nat) x,j<i->r[j]?=some x->xU t a c x=false)\/∃y u,PY r t a c=some y/\L u=L text++L y.Page.Text/\s=(y.Page.Count,u,true,MN a seq y))
  (λb=>(b=(c,text,false,seq)/\PY r t a c=none)\/∃y u,PY r t a c=some y/\L u=L text++L y.Page.Text/\b=(y.Page.Count,u,true,MN a seq y))
  (λs i hi hs=>by
   have hx:=Ab hi;have hm:r[i]∈r:=AD hi;simp only [Je,AE,Ad hi,Ae,Aa]
   rcases hs with⟨rfl,hs⟩|⟨y,u,f1,f2,rfl⟩
   ·simp only [AJ,Ae,AC,hx,Aa];have f:(bif(r[i].Page.Kind !=2)then(some true)else(bif(r[i].Page.Tx !=t)then(some true)else(bif(r[i].Page.Part !=a)then(some true)else(bif(decide (a>0))then(some (r[i].Page.Count !=c))else(some false)))):Option Bool)=some (!xU t a c r[i]):=by
     unfold xU;simp only [bne];cases r[i].Page.Kind==2<;>cases r[i].Page.Tx==t<;>cases r[i].Page.Part==a<;>cases decide (a>0)<;>cases r[i].Page.Count==c<;>rfl
    rw [f];simp only [Aa];rw [ad1 (by omega)]
    cases hM:xU t a c r[i]with
    |false=>
     refine .inl ⟨_,rfl,.inl ⟨rfl,λj x hj d=>?_⟩⟩;by_cases e:j=i
     ·subst e;rw [hx]at d
      injection d with d
      rw [<-d];exact hM
     exact hs j x (by omega) d
    |true=>
     have l:=hr.text _ hm;simp only [Al,Ac];rw [FT _ _ (by omega)];simp only [Aa];have hf:PY r t a c=some r[i]:=pW r _ (λj x hj d=>hs j x hj d) hx hM;have g:(bif(a==0)then(some true)else(some (decide (r[i].Page.Seq<seq))):Option Bool)=some (decide (a=0\/r[i].Page.Seq<seq)):=by
      by_cases e:a=0
      ·rw [show(a==0)=true by simpa using e,Ad (show a=0\/r[i].Page.Seq<seq from .inl e)];rfl
      rw [show(a==0)=false by simpa using e];simp only [Ac];by_cases e2:r[i].Page.Seq<seq
      ·rw [Ad e2,Ad (show a=0\/r[i].Page.Seq<seq from .inr e2)]
      rw [Af e2,Af (by rintro(h|h);exact e h;exact e2 h)]
     rw [g];simp only [Aa];refine .inl ⟨(r[i].Page.Count,text++r[i].Page.Text,true,MN a seq r[i]),?_,.inr ⟨r[i],_,hf,D4 _ _,rfl⟩⟩;unfold MN;by_cases e:a=0\/r[i].Page.Seq<seq
     ·rw [Ad e,A3 e];rfl
     rw [Af e,A5 e];rfl
   simp only [Al,Ac]
   exact .inr ⟨_,rfl,.inr ⟨y,u,f1,f2,rfl⟩⟩)
  (λs hs=>by
   refine⟨s,by simp only [Je,AE,Aq,Av,Ac,Aa],?_⟩
   rcases hs with⟨rfl,hs⟩|hs
   ·exact .inl ⟨rfl,ABS r _ λj x hx=>hs j x (Ai.1 hx).1 hx⟩
   exact .inr hs) (s:=(c,text,false,seq)) (.inl ⟨rfl,λj x hj=>by omega⟩)
 have h1':Aw (λs:Int×ByteArray×Bool×Int×Int=>Je r t a s.1 s.2.1 s.2.2.1 s.2.2.2.1 s.2.2.2.2) (c,text,false,0,seq)=some b:=h1;rw [h1']
 rcases h2 with⟨rfl,h2⟩|⟨y,u,f1,f2,rfl⟩
 ·rw [h2];exact⟨text,rfl,λy hy=>by cases hy⟩
 rw [f1];refine⟨u,rfl,λz hz=>?_⟩
 injection hz with hz
 rw [<-hz];exact f2
def parts (r:List As) (t:Int):Nat->Int->Int->List UInt8->Int->Option (List UInt8×Int)
 |0,_,_,_,_=>none
 |n+1,a,c,b,seq=>if a=0\/a<c then(match PY r t a c with
  |none=>none
  |some y=>parts r t n (a+1) y.Page.Count (b++L y.Page.Text) (MN a seq y))else some (b,seq)
theorem ABI {t a b:Int} (h:xU t a b y=true) (hp:0<a):y.Page.Count=b:=by
 unfold xU at h;simp only [An,CT,CV,AY,Cj]at h
 rcases h.2.2.2 with h|h
 ·omega
 exact h
theorem QS {t a b:Int} (h:PY r t a b=some y):y∈r/\xU t a b y=true:=⟨List.mem_of_find?_eq_some h,List.find?_some h⟩
theorem uK (r:List As) (hr:GM r) (t:Int):∀(n:Nat) (part cnt:Int) (text:ByteArray) (seq:Int),part+n=11->0<=part->(part=0\/(part<=cnt/\cnt<=9))->(L text).length<=90*part.toNat->
  ∃b,Aw (λs:Int×ByteArray×Int×Int=>OI r t s.1 s.2.1 s.2.2.1 s.2.2.2) (cnt,text,part,seq)=some b/\(match parts r t n part cnt (L text) seq with
   |none=>∃q,b= .inr (Tx.mk t q [],false)
   |some (x,q)=>∃u,b= .inl (u,q)/\L u=x/\(L u).length<=1000)
 |0,part,cnt,text,seq,hn,h0,hc,ht=>by omega
 |n+1,part,cnt,text,seq,hn,h0,hc,ht=>by
  rw [A8];simp only [OI,parts];have a:(bif(part==0)then(some true)else(some (decide (part<cnt))):Option Bool)=some (decide (part=0\/part<cnt)):=by
   by_cases e:part=0
   ·rw [show(part==0)=true by simpa using e,Ad (show part=0\/part<cnt from .inl e)];rfl
   rw [show(part==0)=false by simpa using e];simp only [Ac];by_cases e2:part<cnt
   ·rw [Ad e2,Ad (show part=0\/part<cnt from .inr e2)]
   rw [Af e2,Af (by rintro(h|h);exact e h;exact e2 h)]
  rw [a];simp only [Aa];by_cases e:part=0\/part<cnt
  ·rw [Ad e,A3 e];simp only [Ae];obtain⟨text2,h1,h2⟩:=AEf r hr t part cnt h0 text (by omega) seq;rw [h1]
   cases hf:PY r t part cnt with
   |none=>
    simp only [Aa,AJ,Ae];exact⟨_,rfl,_,rfl⟩
   |some y=>
    simp only [Aa,Al,Ac];have hy:=QS hf;have hL:=h2 y hf;have c:=hr.text y hy.1;have d:=hr.cnt y hy.1;rw [CA (by omega) (by omega),<-hL];refine uK r hr t n (part+1) y.Page.Count text2 _ (by omega) (by omega) (.inr ?_) ?_
    ·rcases e with e|e
     ·have:=hr.part y hy.1;omega
     by_cases e2:part=0
     ·omega
     have:=ABI hy.2 (by omega);omega
    rw [hL,Ag];omega
  rw [Af e,A5 e];simp only [Ac];exact⟨_,rfl,text,rfl,rfl,by omega⟩
noncomputable def H6 (r:List As) (t:Int):Option Tx:=match parts r t 11 0 0 [] 0 with
 |none=>none
 |some (x,q)=>(gN (bs x)).map λl=>Tx.mk t q l
theorem AIc (u:ByteArray):bs (L u)=u:=Ii (by rw [DV])
theorem gA (r:List As) (hr:GM r) (t:Int):∃x ok,Xs r t=some (x,ok)/\H6 r t=(if ok=true then some x else none)/\x.Recs.length<=20000:=by
 obtain⟨b,h1,h2⟩:=uK r hr t 11 0 0 (bs []) 0 (by omega) (by omega) (.inl rfl) (by rw [DV];simp);rw [DV]at h2;unfold Xs H6;rw [h1];simp only [Aa]
 cases hp:parts r t 11 0 0 [] 0 with
 |none=>
  rw [hp]at h2;obtain⟨z,rfl⟩:=h2;exact⟨_,_,rfl,rfl,by simp⟩
 |some w=>
  obtain⟨x,q⟩:=w;rw [hp]at h2;obtain⟨u,rfl,rfl,h4⟩:=h2;simp only [BM];obtain⟨l,ok,r1,r2,r3⟩:=aO u (by omega);rw [r1,AIc,r2];simp only [Aa]
  cases ok with
  |true=>exact⟨_,_,rfl,rfl,r3⟩
  |false=>exact⟨_,_,rfl,rfl,r3⟩
theorem TA {P:List α->Prop} (nil:P []) (app:∀l x,P l->P (l++ [x])) (l:List α):P l:=by
 rw [<-List.reverse_reverse l]
 induction l.reverse with
 |nil=>exact nil
 |cons x l ih=>rw [List.reverse_cons];exact app _ _ ih
def Dn (r:List As):List Int:=r.foldl (λns y=>if y.Page.Kind=2 then ins ns y.Page.Tx else ns) []
theorem TK (r:List As) (y:As):Dn (r++ [y])=if y.Page.Kind=2 then ins (Dn r) y.Page.Tx else Dn r:=by unfold Dn;rw [HB];rfl
theorem GI (r:List As) (h:∀y∈r,1<=y.Page.Tx):asc (Dn r)/\(∀x,x∈Dn r↔∃y∈r,y.Page.Kind=2/\y.Page.Tx=x)/\(Dn r).length<=r.length:=by
 have main:∀n,n<=r.length->asc (Dn (r.take n))/\(∀x,x∈Dn (r.take n)↔∃y∈r.take n,y.Page.Kind=2/\y.Page.Tx=x)/\(Dn (r.take n)).length<=n:=by
  intro n
  induction n with
  |zero=>intro _;simp [Dn,asc]
  |succ n ih=>
   intro hn;obtain⟨h1,h2,h3⟩:=ih (by omega);have et:r.take (n+1)=r.take n++ [r[n]'(by omega)]:=Ax (by omega);have hy:=h _ (AD (show n<r.length by omega));generalize r[n]'(by omega)=y at et hy;rw [et,TK]
   have a:∀z∈Dn (r.take n),0<z:=λz hz=>by
    obtain⟨w,hw,_,h5⟩:=(h2 z).1 hz;have:=h w (List.mem_of_mem_take hw);omega
   by_cases e:y.Page.Kind=2
   ·rw [A3 e];refine⟨ABO h1,λx=>?_,by have:=Zy (Dn (r.take n)) y.Page.Tx h1;omega⟩;rw [ABN a,h2 x];simp only [Ak,Az];constructor
    ·rintro(⟨w,hw,hk,ht⟩|⟨rfl,h0⟩)
     ·exact⟨w,.inl hw,hk,ht⟩
     exact⟨y,.inr rfl,e,rfl⟩
    rintro⟨w,hw|rfl,hk,ht⟩
    ·exact .inl ⟨w,hw,hk,ht⟩
    exact .inr ⟨ht.symm,by omega⟩
   rw [A5 e];refine⟨h1,λx=>?_,by omega⟩;rw [h2 x];simp only [Ak,Az];constructor
   ·rintro⟨w,hw,hk,ht⟩;exact⟨w,.inl hw,hk,ht⟩
   rintro⟨w,hw|rfl,hk,ht⟩
   ·exact⟨w,hw,hk,ht⟩
   exact absurd hk e
 have:=main r.length (A4 _);rw [AR]at this;exact this
theorem dA (r:List As) (hr:GM r):Aw (λs:List Int×Int=>J0 r s.1 s.2) ([],0)=some (Dn r):=by
 have d:=hr.len;obtain⟨b,h1,h2⟩:=Bk (body:=λs:List Int×Int=>J0 r s.1 s.2) (λ(o:List Int) i=>(o,i)) r.length (λi o=>o=Dn (r.take i)) (λb=>b=Dn r)
  (λo i hi ho=>by
   have hx:=Ab hi;have hm:r[i]∈r:=AD hi;have f:=(hr.tx _ hm).1;have a:=GI (r.take i) (λy hy=>(hr.tx y (List.mem_of_mem_take hy)).1);have g:o.length<=1048576:=by rw [ho];have:=a.2.2;rw [AF]at this;omega
   have et:r.take (i+1)=r.take i++ [r[i]]:=Ax hi;simp only [J0,AE,Ad hi,Ae,AC,hx,Aa];rw [ad1 (by omega)];refine .inl ?_;by_cases e:r[i].Page.Kind=2
   ·rw [show(r[i].Page.Kind !=2)=false by simp [e]];simp only [Ac]
    rw [Ou (body:=λs:List Int×Int=>Ln o r[i] s.1 s.2) o (λy=>decide (y<r[i].Page.Tx)) [] (by simp;omega)
     (λu k x hk hu=>by
      have c:=(Ai.1 hk).1
      simp only [Ln,AE,Ad c,Ae,AC,hk,Aa])
     (λu=>by simp only [Ln,AE,Aq,Av,Ac])]
    simp only [Aa,AA];have h:=BN (λy=>decide (y<r[i].Page.Tx)) o;rw [C3 (by simp only [Aj];omega)];simp only [Aa]
    rw [Ou (body:=λs:List Int×Int=>Lm o r[i] s.1 s.2) o (λy=>decide (y>r[i].Page.Tx)) _ (by simp only [Ag,Aj];omega)
     (λu k x hk hu=>by
      have c:=(Ai.1 hk).1
      simp only [Lm,AE,Ad c,Ae,AC,hk,Aa])
     (λu=>by simp only [Lm,AE,Aq,Av,Ac])]
    simp only [Aa];refine⟨_,rfl,?_⟩;rw [et,TK,A3 e,<-ho];unfold ins;rw [A3 (by omega)]
   rw [show(r[i].Page.Kind !=2)=true by simpa using e]
   exact⟨o,rfl,by rw [et,TK,A5 e,ho]⟩)
  (λo ho=>⟨o,by simp only [J0,AE,Aq,Av,Ac],by rw [ho,AR]⟩) (s:=[]) rfl
 rw [h2]at h1;exact h1
noncomputable def Bt (r:List As):List Tx:=(Dn r).filterMap (H6 r)
theorem Rg {x:Tx} (hr:GM r) (h:H6 r t=some x):x.Num=t/\x.Recs.length<=20000:=by
 obtain⟨z,ok,h1,h2,h3⟩:=gA r hr t;rw [h]at h2
 cases ok with
 |false=>cases h2
 |true=>
  rw [A3 rfl]at h2
  injection h2 with h2
  subst h2;refine⟨?_,h3⟩;unfold H6 at h;split at h
  ·cases h
  obtain⟨l,_,rfl⟩:=AZ.1 h;rfl
theorem Qt (r:List As) (hr:GM r):Qu r=some (Bt r):=by
 have c:=hr.len;have a:=GI r (λy hy=>(hr.tx y hy).1);have d:=a.2.2;unfold Qu;rw [dA r hr];simp only [Aa];obtain⟨b,h1,h2⟩:=Bk (body:=λs:List Tx×Int=>Jz r (Dn r) s.1 s.2) (λ(o:List Tx) i=>(o,i)) (Dn r).length (λi o=>o=((Dn r).take i).filterMap (H6 r)) (λb=>b=Bt r)
  (λo i hi ho=>by
   have hx:=Ab hi;have et:(Dn r).take (i+1)=(Dn r).take i++ [(Dn r)[i]]:=Ax hi;have e:o.length<=i:=by
    rw [ho];have:=List.length_filterMap_le (H6 r) ((Dn r).take i);rw [AF]at this;omega
   simp only [Jz,AE,Ad hi,Ae,AC,hx,Aa];rw [ad1 (by omega)];obtain⟨z,ok,k1,k2,k3⟩:=gA r hr (Dn r)[i];rw [k1];simp only [Aa];refine .inl ?_
   cases ok with
   |true=>
    simp only [Ae];rw [C3 (by simp only [Aj];omega)];refine⟨_,rfl,?_⟩;rw [et,Ha,ho];simp only [Il,List.filterMap_nil,k2,BX]
   |false=>
    refine⟨o,rfl,?_⟩;rw [et,Ha,ho]
    simp [k2])
  (λo ho=>⟨o,by simp only [Jz,AE,Aq,Av,Ac],by rw [ho,AR];rfl⟩) (s:=[]) rfl
 have h1':Aw (λs:List Tx×Int=>Jz r (Dn r) s.1 s.2) ([],0)=some b:=h1;rw [h1',h2];rfl
def iE (x:Tx):Bool:=match x.Recs with
 |[]=>false
 |r::_=>r.Kind==1
def atB (l:List Tx):Nat:=l.zipIdx.foldl (λa z=>if iE z.1=true then z.2 else a) 0
def Et (l:List Tx):List Tx:=l.drop (atB l)
theorem Uv (l:List Tx) (x:Tx):atB (l++ [x])=if iE x=true then l.length else atB l:=by
 unfold atB;rw [List.zipIdx_append,HB];simp
theorem AEO (l:List Tx):atB l<=l.length:=by
 induction l using TA with
 |nil=>simp [atB]
 |app l x ih=>
  rw [Uv,Ag];split<;>simp<;>omega
theorem Rj (l:List Tx) (x:Tx):Et (l++ [x])=if iE x=true then [x]else Et l++ [x]:=by
 unfold Et;rw [Uv];by_cases e:iE x=true
 ·rw [A3 e,A3 e,ET rfl]
 rw [A5 e,A5 e,List.drop_append_of_le_length (AEO l)]
theorem rE (l:List Tx):∃A,l=A++Et l/\(A≠ []->∃x B,Et l=x::B/\iE x=true)/\∀x B,Et l=x::B->∀y∈B,iE y=false:=by
 induction l using TA with
 |nil=>exact⟨[],rfl,λh=>absurd rfl h,λx B h=>by cases h⟩
 |app l x ih=>
  obtain⟨A,h1,h2,h3⟩:=ih;rw [Rj];by_cases e:iE x=true
  ·rw [A3 e];exact⟨l,rfl,λ_=>⟨x,[],rfl,e⟩,λy B h=>by injection h with _ h;subst h;intro z hz;cases hz⟩
  rw [A5 e];refine⟨A,by rw [<-Ar,<-h1],λhA=>?_,λy B h=>?_⟩
  ·obtain⟨y,B,h4,h5⟩:=h2 hA;exact⟨y,B++ [x],by rw [h4];rfl,h5⟩
  cases hs:Et l with
  |nil=>
   rw [hs]at h
   injection h with _ h
   subst h;intro z hz;cases hz
  |cons w B'=>
   rw [hs]at h
   injection h with h4 h5
   subst h4 h5;intro z hz;have hz:z∈B'++ [x]:=hz;rw [Ak,Az]at hz
   rcases hz with hz|rfl
   ·exact h3 w B' hs z hz
   simpa using e
theorem ADu (A:List Tx):∀(B:List Tx),(A≠ []->∃x B',B=x::B'/\iE x=true)->(∀x B',B=x::B'->∀y∈B',iE y=false)->Et (A++B)=B:=by
 intro B
 induction B using TA with
 |nil=>
  intro h1 _
  cases A with
  |nil=>rfl
  |cons a A=>obtain⟨x,B',h,_⟩:=h1 (by simp);cases h
 |app B y ih=>
  intro h1 h2;rw [<-Ar,Rj]
  cases B with
  |nil=>
   by_cases e:iE y=true
   ·rw [A3 e];rfl
   rw [A5 e]
   cases A with
   |nil=>rfl
   |cons a A=>
    obtain⟨x,B',h,h3⟩:=h1 (by simp)
    injection h with h4 h5
    rw [h4]at e;exact absurd h3 e
  |cons b B=>
   have hy:iE y=false:=h2 b (B++ [y]) rfl y (by simp);rw [A5 (by rw [hy];simp),ih]
   ·intro hA;obtain⟨x,B',h,h3⟩:=h1 hA
    injection h with h4 h5
    exact⟨b,B,rfl,by rw [h4];exact h3⟩
   intro x B' h z hz
   injection h with h4 h5
   subst h4 h5;exact h2 b (B++ [y]) rfl z (by simp [hz])
theorem Y0 (l:List Tx) (hl:l.length<=1048576) (hr:∀x∈l,x.Recs.length<=20000):Nr l=some (Et l):=by
 unfold Nr;obtain⟨b,h1,h2⟩:=Bk (body:=λs:Int×Int=>GC l s.1 s.2) (λ(o:Int) i=>(o,i)) l.length (λi o=>o=(atB (l.take i):Int)) (λb=>b=(atB l:Int))
  (λo i hi ho=>by
   have hx:=Ab hi;have et:l.take (i+1)=l.take i++ [l[i]]:=Ax hi;simp only [GC,AE,Ad hi,Ae,AC,hx,Aa];rw [ad1 (by omega)];refine .inl ?_;have d:(l.take i).length=i:=by rw [AF];omega
   cases a:l[i].Recs with
   |nil=>
    refine⟨o,rfl,?_⟩;rw [et,Uv,A5 (by unfold iE;rw [a];simp),ho]
   |cons q m=>
    have hg:gi (q::m) 0=some q:=AC (i:=0);rw [Ad (by rw [Cf,Ay];omega:ln (q::m)>0)];simp only [Ae,hg,Aa]
    cases hk:(q.Kind==1)with
    |true=>
     refine⟨(i:Int),rfl,?_⟩;rw [et,Uv,A3 (by unfold iE;rw [a];exact hk),d]
    |false=>
     refine⟨o,rfl,?_⟩
     rw [et,Uv,A5 (by unfold iE;rw [a];simp only [];rw [hk];simp),ho])
  (λo ho=>⟨o,by simp only [GC,AE,Aq,Av,Ac],by rw [ho,AR]⟩) (s:=0) rfl
 have h1':Aw (λs:Int×Int=>GC l s.1 s.2) (0,0)=some b:=h1;rw [h1',h2];simp only [Aa];have e:=AEO l;obtain⟨c,q1,q2⟩:=TO (body:=λs:List Tx×Int=>HR l s.1 s.2) (λ(o:List Tx) i=>(o,i)) l.length (λi o=>o=(l.take i).drop (atB l)/\atB l<=i) (λb=>b=Et l)
  (λo i hi hs=>by
   obtain⟨ho,f⟩:=hs;have hx:=Ab hi;have hm:l[i]∈l:=AD hi;have g:=hr _ hm;have et:l.take (i+1)=l.take i++ [l[i]]:=Ax hi;have h:o.length<=1048576:=by rw [ho,B8,AF];omega
   simp only [HR,AE,Ad hi,Ae,AC,hx,Aa];rw [P6 (by omega)];simp only [Aa];rw [C3 (by simp only [Aj];omega)];simp only [Aa];rw [ad1 (by omega)];refine .inl ⟨_,rfl,?_,by omega⟩
   rw [et,List.drop_append_of_le_length (by rw [AF];omega),<-ho])
  (λo hs=>⟨o,by simp only [HR,AE,Aq,Av,Ac],by rw [hs.1,AR];rfl⟩) (l.length-atB l) (atB l) [] (by omega) ⟨by rw [CU];rw [AF];omega,A4 _⟩
 rw [q1,q2];rfl
def CX (l:Vs) (nx:Int) (a:List Cu):Option (Vs×Int):=a.foldl (λo r=>o.bind λp=>Eu p.1 p.2 r) (some (l,nx))
theorem QU (a:List Cu):a.foldl (λ(o:Option (Vs×Int)) r=>o.bind λp=>Eu p.1 p.2 r) none=none:=by
 induction a with
 |nil=>rfl
 |cons r l ih=>rw [LJ];exact ih
theorem FD (l:Vs) (nx:Int) (r:Cu) (a:List Cu):CX l nx (r::a)=(Eu l nx r).bind λp=>CX p.1 p.2 a:=by
 unfold CX;rw [LJ];simp only [Aa]
 cases Eu l nx r with
 |none=>exact QU a
 |some p=>rfl
theorem La (l:Vs) (nx:Int) (a b:List Cu):CX l nx (a++b)=(CX l nx a).bind λp=>CX p.1 p.2 b:=by
 unfold CX;rw [HB]
 cases a.foldl (λ(o:Option (Vs×Int)) r=>o.bind λp=>Eu p.1 p.2 r) (some (l,nx))with
 |none=>exact QU b
 |some p=>rfl
def SA (s:Store) (a:List Cu) (o:Option (Store×Bool)):Prop:=match CX (BU s) s.Next a with
 |none=>o=some (s,false)
 |some (l,nx)=>∃t,o=some (t,true)/\Ew t/\BU t=l/\t.Next=nx
theorem vX {s:Store} (h:Ew s) (a:List Cu) (hr:a.length<=1048576):SA s a (OQ s a):=by
 have hl:=h.len;have e:=Uq h.ar (by have:=h.few;omega);have c:=LQ s e (by omega);unfold OQ;rw [c];simp only [Aa];obtain⟨b,h1,h2⟩:=Bk (body:=λq:Int×List Vol×List Cc×Int=>Hy s a q.1 q.2.1 q.2.2.1 q.2.2.2) (λ(t:Store) i=>(i,t.Vols,t.Arena.Knots,t.Next)) a.length
  (λi t=>Ew t/\CX (BU s) s.Next (a.take i)=some (BU t,t.Next))
  (λb=>(b= .inr (s,false)/\CX (BU s) s.Next a=none)\/∃t,b= .inl (t.Vols,t.Arena.Knots,t.Next)/\Ew t/\CX (BU s) s.Next a=some (BU t,t.Next))
  (λt i hi hs=>by
   obtain⟨hP,he⟩:=hs;have hx:=Ab hi;obtain⟨e1,e2⟩:=Jk hx;have et:a.take (i+1)=a.take i++ [a[i]]:=Ax hi;simp only [Hy,AE,Ad hi,Ae,AC,hx,Aa];have d:=AEy hP a[i];unfold Ph at d;have f:Store.mk t.Vols (Arena.mk t.Arena.Knots) t.Next=t:=rfl;rw [f]
   cases hv:Eu (BU t) t.Next a[i]with
   |none=>
    rw [hv]at d;rw [d];simp only [Aa,AJ,Ae];rw [c];refine .inr ⟨_,rfl,.inl ⟨rfl,?_⟩⟩;rw [e1,La,he];simp only [Aa];rw [FD,hv];rfl
   |some p=>
    obtain⟨l,nx⟩:=p;rw [hv]at d;obtain⟨u,u1,u2,u3,u4⟩:=d;rw [u1];simp only [Aa,Al,Ac];rw [ad1 (by omega)];refine .inl ⟨u,rfl,u2,?_⟩;rw [et,La,he];simp only [Aa];rw [FD,hv];simp only [Aa];rw [u3,u4]
    rfl)
  (λt hs=>⟨_,by simp only [Hy,AE,Aq,Av,Ac],.inr ⟨t,rfl,hs.1,by rw [<-hs.2,AR]⟩⟩) (s:=s) ⟨h,rfl⟩
 have h1':Aw (λq:Int×List Vol×List Cc×Int=>Hy s a q.1 q.2.1 q.2.2.1 q.2.2.2) (0,s.Vols,s.Arena.Knots,s.Next)=some b:=h1;rw [h1'];unfold SA
 rcases h2 with⟨rfl,h2⟩|⟨t,rfl,h2,h3⟩
 ·rw [h2];rfl
 rw [h3];exact⟨t,rfl,h2,rfl,rfl⟩
def F5 (r:List As):Int:=r.foldl (λm y=>if y.Page.Seq>=m then y.Page.Seq+1 else m) 1
def DY (r:List As):Int:=r.foldl (λm y=>if y.Page.Kind=2/\y.Page.Tx>=m then y.Page.Tx+1 else m) 1
def KL (l:List Tx):Int:=match l with
 |[]=>0
 |x::_=>x.Num
def KD (l:List Tx):Vs×Int:=l.foldl (λp x=>(CX p.1 p.2 x.Recs).getD p) ([],1)
theorem jR (r:List As) (y:As):F5 (r++ [y])=if y.Page.Seq>=F5 r then y.Page.Seq+1 else F5 r:=by unfold F5;rw [HB];rfl
theorem jI (r:List As) (y:As):DY (r++ [y])=if y.Page.Kind=2/\y.Page.Tx>=DY r then y.Page.Tx+1 else DY r:=by unfold DY;rw [HB];rfl
theorem Sr (r:List As):(∀y∈r,y.Page.Seq<F5 r)/\1<=F5 r/\(∀b,1<=b->(∀y∈r,y.Page.Seq<b)->F5 r<=b):=by
 induction r using TA with
 |nil=>exact⟨λy hy=>(by cases hy),by simp [F5],λb hb _=>by simpa [F5]using hb⟩
 |app r x ih=>
  obtain⟨h1,h2,h3⟩:=ih;rw [jR];refine⟨λy hy=>?_,?_,λb hb a=>?_⟩
  ·rw [Ak,Az]at hy
   rcases hy with hy|rfl
   ·have:=h1 y hy;split<;>omega
   split<;>omega
  ·split<;>omega
  have:=h3 b hb (λy hy=>a y (by simp [hy]));have:=a x (by simp);split<;>omega
theorem XM (r:List As):(∀y∈r,y.Page.Kind=2->y.Page.Tx<DY r)/\1<=DY r/\(∀b,1<=b->(∀y∈r,y.Page.Kind=2->y.Page.Tx<b)->DY r<=b):=by
 induction r using TA with
 |nil=>exact⟨λy hy=>(by cases hy),by simp [DY],λb hb _=>by simpa [DY]using hb⟩
 |app r x ih=>
  obtain⟨h1,h2,h3⟩:=ih;rw [jI];refine⟨λy hy hk=>?_,?_,λb hb a=>?_⟩
  ·rw [Ak,Az]at hy
   rcases hy with hy|rfl
   ·have:=h1 y hy hk;split<;>omega
   split
   ·omega
   rename_i h;have:¬y.Page.Tx>=DY r:=λhh=>h ⟨hk,hh⟩;omega
  ·split<;>omega
  have:=h3 b hb (λy hy=>a y (by simp [hy]));split
  ·rename_i h;have:=a x (by simp) h.1;omega
  omega
theorem gX (h:AC0 f r) (hf:Cg f):GM r:=by
 have a:∀y∈r,(1<=y.Page.Seq/\y.Page.Seq<=1000000000)/\(1<=y.Page.Tx/\y.Page.Tx<=1000000000)/\(1<=y.Page.Count/\y.Page.Count<=9)/\(0<=y.Page.Part/\y.Page.Part<y.Page.Count):=by
  intro y hy;obtain⟨b,x,g1,g2,_,g3⟩:=h.page y hy;obtain⟨_,k1⟩:=C6 g1;obtain⟨_,k2⟩:=C6 g2;have hx:=hf.text b (A6 k1) x (A6 k2);obtain⟨p,ok,m1,_,_,m2⟩:=Ih x.Text (by omega);rw [g3]at m1
  injection m1 with m1
  injection m1 with m1 m3
  have hp:=m2 m3.symm;obtain⟨v,q1,_,q2⟩:=RH p;rw [hp]at q1
  injection q1 with q1
  obtain⟨_,a1,a2,a3,a4,_⟩:=q2 q1.symm;rw [m1];exact⟨a1,a2,a3,a4⟩
 exact⟨h.len,h.text,λy hy=>(a y hy).1,λy hy=>(a y hy).2.1,λy hy=>(a y hy).2.2.1,λy hy=>(a y hy).2.2.2⟩
theorem mM (r:List As) (hr:GM r):Aw (λs:Int×Int×Int=>Hx r s.1 s.2.1 s.2.2) (0,1,1)=some (F5 r,DY r):=by
 have c:=hr.len;obtain⟨b,h1,h2⟩:=Bk (body:=λs:Int×Int×Int=>Hx r s.1 s.2.1 s.2.2) (λ(o:Int×Int) i=>(i,o.1,o.2)) r.length (λi o=>o=(F5 (r.take i),DY (r.take i))) (λb=>b=(F5 r,DY r))
  (λo i hi ho=>by
   subst ho;have hx:=Ab hi;have hm:r[i]∈r:=AD hi;have hs:=hr.seq _ hm;have ht:=hr.tx _ hm;have et:r.take (i+1)=r.take i++ [r[i]]:=Ax hi;simp only [Hx,AE,Ad hi,Ae,AC,hx,Aa];rw [et,jR,jI,ad1 (by omega)];have a:(bif(decide (r[i].Page.Seq>=F5 (r.take i)))then(some (ad r[i].Page.Seq 1))else(some (F5 (r.take i))):Option Int)=some (if r[i].Page.Seq>=F5 (r.take i)then r[i].Page.Seq+1 else F5 (r.take i)):=by
    by_cases e:r[i].Page.Seq>=F5 (r.take i)
    ·rw [Ad e,A3 e,CA (by omega) (by omega)];rfl
    rw [Af e,A5 e];rfl
   rw [a];simp only [Aa];refine .inl ?_;by_cases e:r[i].Page.Kind=2
   ·rw [show(r[i].Page.Kind==2)=true by simpa using e];simp only [Ae,Aa];by_cases e2:r[i].Page.Tx>=DY (r.take i)
    ·rw [Ad e2,A3 (show r[i].Page.Kind=2/\r[i].Page.Tx>=DY (r.take i)from⟨e,e2⟩),CA (by omega) (by omega)];exact⟨(_,_),rfl,rfl⟩
    rw [Af e2,A5 (show¬(r[i].Page.Kind=2/\r[i].Page.Tx>=DY (r.take i))from λhh=>e2 hh.2)];exact⟨(_,_),rfl,rfl⟩
   rw [show(r[i].Page.Kind==2)=false by simpa using e,A5 (show¬(r[i].Page.Kind=2/\r[i].Page.Tx>=DY (r.take i))from λhh=>e hh.1)]
   exact⟨(_,_),rfl,rfl⟩)
  (λo ho=>⟨o,by simp only [Hx,AE,Aq,Av,Ac],by rw [ho,AR]⟩) (s:=(1,1)) rfl
 rw [h2]at h1;exact h1
theorem AB6:Ew (Store.mk [] (Arena.mk []) 1):=by
 refine⟨⟨by simp,rfl,by simp,by simp,by simp,by simp [Cr],by simp [Cr],by simp⟩,by simp⟩
theorem Zo (l:List Tx) (x:Tx):KD (l++ [x])=(CX (KD l).1 (KD l).2 x.Recs).getD (KD l):=by unfold KD;rw [HB];rfl
theorem YO (l:List Tx) (hl:l.length<=1048576) (hr:∀x∈l,x.Recs.length<=20000):∃t,Aw (λs:Int×List Vol×List Cc×Int×Int=>Hw l s.1 s.2.1 s.2.2.1 s.2.2.2.1 s.2.2.2.2) (0,[],[],1,0)=some (t.Vols,t.Arena.Knots,t.Next,KL l)/\Ew t/\(BU t,t.Next)=KD l:=by
 obtain⟨b,h1,t,h2,h3,h4⟩:=Bk (body:=λs:Int×List Vol×List Cc×Int×Int=>Hw l s.1 s.2.1 s.2.2.1 s.2.2.2.1 s.2.2.2.2) (λ(o:Store×Int) i=>(i,o.1.Vols,o.1.Arena.Knots,o.1.Next,o.2)) l.length
  (λi o=>Ew o.1/\(BU o.1,o.1.Next)=KD (l.take i)/\o.2=KL (l.take i)) (λb=>∃t,b=(t.Vols,t.Arena.Knots,t.Next,KL l)/\Ew t/\(BU t,t.Next)=KD l)
  (λo i hi hs=>by
   obtain⟨t,bs0⟩:=o;obtain⟨hP,hv,hb⟩:=hs;simp only at hP hv hb;have hx:=Ab hi;have hm:l[i]∈l:=AD hi;have j:=hr _ hm;have et:l.take (i+1)=l.take i++ [l[i]]:=Ax hi;simp only [Hw,AE,Ad hi,Ae,AC,hx,Aa];have g:(bif((i:Int)==0)then(some l[i].Num)else(some bs0):Option Int)=some (KL (l.take (i+1))):=by
    by_cases e:i=0
    ·subst e;rw [et];simp [KL]
    rw [show((i:Int)==0)=false by simp;omega,hb,et];simp only [Ac]
    cases h5:l.take i with
    |nil=>
     have:=Ca List.length h5;rw [AF,Bn]at this;omega
    |cons a m=>rfl
   rw [g];simp only [Aa];have d:=vX hP l[i].Recs (by omega);unfold SA at d;have h:Store.mk t.Vols (Arena.mk t.Arena.Knots) t.Next=t:=rfl;have e1:BU t=(KD (l.take i)).1:=Ca Prod.fst hv;have e2:t.Next=(KD (l.take i)).2:=Ca Prod.snd hv;rw [h,ad1 (by omega)];refine .inl ?_;have f:=Zo (l.take i) l[i];rw [<-et]at f
   cases c:CX (BU t) t.Next l[i].Recs with
   |none=>
    rw [c]at d;rw [d];refine⟨(t,KL (l.take (i+1))),rfl,hP,?_,rfl⟩;rw [f,<-e1,<-e2,c,Option.getD_none];exact hv
   |some p=>
    obtain⟨lv,nx⟩:=p;rw [c]at d;obtain⟨u,u1,u2,u3,u4⟩:=d;rw [u1];refine⟨(u,KL (l.take (i+1))),rfl,u2,?_,rfl⟩;rw [f,<-e1,<-e2,c,Be];show(BU u,u.Next)=(lv,nx)
    rw [u3,u4])
  (λo hs=>⟨(o.1.Vols,o.1.Arena.Knots,o.1.Next,o.2),by simp only [Hw,AE,Aq,Av,Ac],o.1,by rw [hs.2.2,AR],hs.1,by rw [hs.2.1,AR]⟩) (s:=(Store.mk [] (Arena.mk []) 1,0)) ⟨AB6,rfl,rfl⟩
 exact⟨t,by rw [<-h2];exact h1,h3,h4⟩
structure Ij (d:AH) (r:List As):Prop where
 fl:Cg d.Flash
 scan:AC0 d.Flash r
 sr:SR (Km 0 d.Flash.Blocks) r
 st:Ew d.Store
 ab:(BU d.Store,d.Store.Next)=KD (Et (Bt r))
 seq:d.Seq=F5 r
 tx:d.Tx=DY r
 base:d.Base=KL (Et (Bt r))
theorem Ij.pages (h:Ij d r):GM r:=gX h.scan h.fl
theorem SH (hr:GM r):(Bt r).length<=1048576/\∀x∈Bt r,x.Recs.length<=20000:=by
 have b:=hr.len;have a:=GI r (λy hy=>(hr.tx y hy).1);have:=List.length_filterMap_le (H6 r) (Dn r);refine⟨by unfold Bt;omega,λx hx=>?_⟩;obtain⟨t,_,ht⟩:=List.mem_filterMap.1 hx;exact(Rg hr ht).2
theorem f7 (l:List Tx):(Et l).length<=l.length/\∀x∈Et l,x∈l:=⟨by unfold Et;rw [B8];omega,λx hx=>List.mem_of_mem_drop hx⟩
theorem T5 (hf:Cg f):∃d r,D8 f=some (d,true)/\Ij d r/\d.Flash=f:=by
 obtain⟨r,hs,a⟩:=AHm hf;have hr:=gX hs hf;obtain⟨g1,g2⟩:=SH hr;obtain⟨b1,b2⟩:=f7 (Bt r);obtain⟨t,t1,t2,t3⟩:=YO (Et (Bt r)) (by omega) (λx hx=>g2 x (b2 x hx));refine⟨AH.mk f t (F5 r) (DY r) (KL (Et (Bt r))),r,?_,⟨hf,hs,a,t2,t3,rfl,rfl,rfl⟩,rfl⟩;unfold D8;rw [RI hf,hs.s,EF f hf.cap];unfold OJ;simp only [Aa,Al,Ac];rw [mM r hr,Qt r hr];simp only [Aa];rw [Y0 _ g1 g2];simp only [Aa];rw [t1];rfl
theorem rJ (a b:List Int) (ha:a.length<=1048576):KT a b=some (decide (a=b)):=by
 unfold KT;by_cases hl:a.length=b.length
 ·rw [show(ln a !=ln b)=false by simp [ln,hl]];simp only [Ac]
  rw [ABT (body:=λs:Int=>G9 a b s) a b (λx y=>x==y) hl (by omega)
   (λi x y hx hy=>by
    have hi:=(Ai.1 hx).1;simp only [G9,AE,Ad hi,Ae,AC,hx,hy,Aa];rw [ad1 (by omega)]
    cases c:x==y<;>simp [bne,c])
   (by simp only [G9,AE,Aq,Av,Ac])]
  have:=ABc (p:=λx y:Int=>x==y) (a:=a) (b:=b) (λx _ y _=>by simp) hl
  cases hz:(a.zip b).all (λz=>z.1==z.2)with
  |true=>rw [Ad (this.1 hz)];rfl
  |false=>rw [Af (λhh=>by rw [this.2 hh]at hz;cases hz)];rfl
 rw [show(ln a !=ln b)=true by simp [ln];omega,Af (λhh=>hl (by rw [hh]))];rfl
theorem Wr {a b:Store} (ha:Ew a) (hb:Ew b):Lh a b=some (decide (BU a=BU b/\a.Next=b.Next)):=by
 have e:=ha.len;have f:=hb.len;have g:=ha.few;have h:=hb.few;unfold Lh;by_cases hl:a.Vols.length=b.Vols.length
 ·rw [show(ln a.Vols !=ln b.Vols)=false by simp [ln,hl]];simp only [Ac,Aa];by_cases hn:a.Next=b.Next
  ·rw [show(a.Next !=b.Next)=false by simp [hn]];simp only [Ac]
   rw [ABT (body:=λs:Int=>HT a b s) a.Vols b.Vols (λv w=>v.Id==w.Id&&decide (Fw a.Arena.Knots v.Root=Fw b.Arena.Knots w.Root)) hl (by omega)
    (λi x y hx hy=>by
     have hi:=(Ai.1 hx).1;simp only [HT,AE,Ad hi,Ae,AC,hx,hy,Aa];rw [OU _ (by omega) ha.ar (ha.root _ (AP.2 ⟨x,A6 hx,rfl⟩)),OU _ (by omega) hb.ar (hb.root _ (AP.2 ⟨y,A6 hy,rfl⟩))];simp only [Aa];rw [rJ _ _ (by unfold Fw;simp)];simp only [Aa];rw [ad1 (by omega)]
     cases c:x.Id==y.Id with
     |false=>simp [bne,c]
     |true=>
      simp only [bne,c,Al,Ac,C4]
      cases decide (Fw a.Arena.Knots x.Root=Fw b.Arena.Knots y.Root)<;>rfl)
    (by simp only [HT,AE,Aq,Av,Ac])]
   have d:(a.Vols.zip b.Vols).all (λz=>z.1.Id==z.2.Id&&decide (Fw a.Arena.Knots z.1.Root=Fw b.Arena.Knots z.2.Root))=decide (BU a=BU b):=by
    unfold BU;generalize a.Vols=l at hl;generalize b.Vols=m at hl
    induction l generalizing m with
    |nil=>cases m with
     |nil=>simp
     |cons y m=>simp at hl
    |cons x l ih=>
     cases m with
     |nil=>simp at hl
     |cons y m=>
      rw [List.zip_cons_cons,EJ,ih m (by simpa using hl),DP];simp only [An,Cj,A9,BF,PV,Bu]
   rw [d]
   cases hd:decide (BU a=BU b)with
   |true=>rw [Ad ⟨H9 hd,hn⟩];rfl
   |false=>rw [Af (λhh=>of_decide_eq_false hd hh.1)];rfl
  rw [show(a.Next !=b.Next)=true by simpa using hn,Af (λhh=>hn hh.2)];rfl
 rw [show(ln a.Vols !=ln b.Vols)=true by simp [ln];omega,Af (λhh=>hl (by have:=Ca List.length hh.1;rwa [Oz,Oz]at this))];rfl
theorem VM (h:Ij d r):NW d=some d:=by
 have:=h.st.len;unfold NW;rw [EF _ h.fl.cap,LQ _ (Uq h.st.ar (by have:=h.st.few;omega)) (by omega)];rfl
theorem Ij.uniq {d':AH} (h:Ij d r) (h':Ij d' r') (e:d.Flash=d'.Flash):r=r':=by
 have h1:=h.sr;have h2:=h'.sr;rw [<-e]at h2;exact h1.uniq h2
theorem m7 (h:Ij d r):OS d=some true:=by
 obtain⟨m,r',h1,h2,h3⟩:=T5 h.fl;obtain rfl:=h.uniq h2 h3.symm;unfold OS;rw [h1];simp only [Aa,Ae];have e:=h2.ab.trans h.ab.symm
 injection e with e1 e2
 rw [Wr h2.st h.st,Ad ⟨e1,e2⟩];simp only [Aa,Ae];rw [h2.seq,h.seq,h2.tx,h.tx,h2.base,h.base];simp only [BEq.rfl,Ae];rw [VU h.st];rfl
theorem ZN {f g:α->Option β} (h:∀x∈l,f x=g x):l.filterMap f=l.filterMap g:=by
 induction l with
 |nil=>rfl
 |cons a l ih=>rw [Il,Il,h a (by simp),ih (λx hx=>h x (by simp [hx]))]
theorem AAI {p q:α->Bool} (h:∀x∈l,p x=q x):l.find? p=l.find? q:=by
 induction l with
 |nil=>rfl
 |cons a l ih=>rw [List.find?_cons,List.find?_cons,h a (by simp),ih (λx hx=>h x (by simp [hx]))]
theorem Wb (h:∀a b,PY r' t a b=PY r t a b):∀(n:Nat) (a b:Int) (x:List UInt8) (q:Int),parts r' t n a b x q=parts r t n a b x q
 |0,_,_,_,_=>rfl
 |n+1,a,b,x,q=>by
  simp only [parts,h];split
  ·split
   ·rfl
   exact Wb h n _ _ _ _
  rfl
theorem Sn (h:∀a b,PY r' t a b=PY r t a b):H6 r' t=H6 r t:=by
 unfold H6;rw [Wb h]
theorem Vr {t a b:Int} (h:xU t a b y=true):y.Page.Kind=2/\y.Page.Tx=t/\y.Page.Part=a:=by
 unfold xU at h;simp only [An,Cj]at h;exact⟨h.1,h.2.1,h.2.2.1⟩
theorem pU (r m:List As) (t a b:Int):PY (r++m) t a b=(PY r t a b).or (PY m t a b):=by unfold PY;rw [List.find?_append]
theorem Ug {t a b:Int} (h:∀y∈r,y.Page.Kind=2->y.Page.Tx≠t):PY r t a b=none:=by
 unfold PY;rw [Fy];intro y hy hm;obtain⟨h1,h2,_⟩:=Vr hm;exact h y hy h1 h2
theorem AB4 (h:∀y∈r,y.Page.Kind=2->y.Page.Tx≠t):H6 r t=none:=by
 unfold H6;have:parts r t 11 0 0 [] 0=none:=by
  simp only [parts];rw [A3 (.inl trivial),Ug h]
 rw [this]
theorem ACw (r:List As) (hy:y.Page.Kind≠2):Dn (r++ [y])=Dn r:=by rw [TK,A5 hy]
theorem Wf (r:List As) (hy:y.Page.Kind≠2):Bt (r++ [y])=Bt r:=by
 unfold Bt;rw [ACw r hy];congr 1;funext t
 refine Sn λa b=>?_
 rw [pU,Ug (r:=[y]) (λz hz hk=>by
  rw [Az]at hz;rw [hz]at hk
  exact absurd hk hy),Option.or_none]
structure i7 (m:List As) (t:Int) (n:Nat) (texts:List ByteArray):Prop where
 len:m.length<=n
 pos:1<=n/\n<=9
 tl:texts.length=n
 at_:∀(i:Nat) y,m[i]?=some y->y.Page.Kind=2/\y.Page.Tx=t/\y.Page.Part=i/\y.Page.Count=n/\texts[i]?=some y.Page.Text
theorem i7.all (h:i7 m t n texts) (hy:y∈m):y.Page.Kind=2/\y.Page.Tx=t:=by
 obtain⟨i,hi,rfl⟩:=AI hy;obtain⟨h1,h2,_⟩:=h.at_ i _ (Ab hi);exact⟨h1,h2⟩
theorem AD2 (r:List As) (hr:∀y∈r,1<=y.Page.Tx) (ht:∀y∈r,y.Page.Kind=2->y.Page.Tx<t) (h0:1<=t):∀(m:List As),m≠ []->(∀y∈m,y.Page.Kind=2/\y.Page.Tx=t)->Dn (r++m)=Dn r++ [t]:=by
 intro m hm a
 have h1:=GI (r++m) (λy hy=>by
  rcases Ak.1 hy with hy|hy
  ·exact hr y hy
  rw [(a y hy).2];exact h0)
 have h2:=GI r hr
 refine Uw h1.1 ?_ λx=>?_
 ·unfold asc;rw [AX];refine⟨h2.1,IB _ _,λx hx z hz=>?_⟩;rw [Az]at hz;obtain⟨y,hy,hk,rfl⟩:=(h2.2.1 x).1 hx;rw [hz];exact ht y hy hk
 rw [h1.2.1,Ak,Az,h2.2.1];constructor
 ·rintro⟨y,hy,hk,rfl⟩
  rcases Ak.1 hy with hy|hy
  ·exact .inl ⟨y,hy,hk,rfl⟩
  exact .inr (a y hy).2
 rintro(⟨y,hy,hk,rfl⟩|rfl)
 ·exact⟨y,Ak.2 (.inl hy),hk,rfl⟩
 cases m with
 |nil=>exact absurd rfl hm
 |cons y m=>exact⟨y,by simp,(a y (by simp)).1,(a y (by simp)).2⟩
theorem AFX (h:i7 m t n texts) {a:Nat} {b:Int} (hc:a=0\/b=n):PY m t a b=m[a]? :=by
 cases hy:m[a]? with
 |none=>
  unfold PY;rw [Fy];intro y c hm;obtain⟨i,hi,rfl⟩:=AI c;obtain⟨_,_,h3,_⟩:=h.at_ i _ (Ab hi);have:=(Vr hm).2.2;rw [List.getElem?_eq_none_iff]at hy;omega
 |some y=>
  obtain⟨h1,h2,h3,h4,_⟩:=h.at_ a y hy;refine pW m _ (λj x hj hx=>?_) hy ?_
  ·obtain⟨_,_,k3,_⟩:=h.at_ j x hx;rw [Bool.eq_false_iff];intro hm;have:=(Vr hm).2.2;omega
  unfold xU;rw [h1,h2,h3,h4];simp only [BEq.rfl,C4,CT,CV,AY,Cj]
  rcases hc with hc|hc
  ·left;omega
  right;omega
def NP (l:List ByteArray):List UInt8:=l.flatMap L
theorem gV (hr:∀y∈r,y.Page.Kind=2->y.Page.Tx≠t) (h:i7 m t n texts):∀(k a:Nat) (c:Int) (x:List UInt8) (q:Int) (b:Nat),a+k=n->(a=0\/c=n)->k<b->
  (m.length=n->∃q',parts (r++m) t b a c x q=some (x++NP (texts.drop a),q'))/\(m.length<n->a<=m.length->parts (r++m) t b a c x q=none)
 |k,a,c,x,q,0,hk,hc,hf=>by omega
 |0,a,c,x,q,b+1,hk,hc,hf=>by
  have hp:=h.pos;simp only [parts];rw [A5 (by omega)];refine⟨λ_=>⟨q,?_⟩,λh1 h2=>by omega⟩;rw [CU (by have:=h.tl;omega)];simp [NP]
 |k+1,a,c,x,q,b+1,hk,hc,hf=>by
  have hp:=h.pos;simp only [parts];rw [A3 (by omega),pU,Ug hr,Option.none_or,AFX h hc]
  cases hy:m[a]? with
  |none=>
   rw [List.getElem?_eq_none_iff]at hy;exact⟨λh1=>by omega,λ_ _=>rfl⟩
  |some y=>
   obtain⟨h1,h2,h3,h4,h5⟩:=h.at_ a y hy;have d:=(Ai.1 hy).1;simp only [];obtain⟨k1,k2⟩:=gV hr h k (a+1) y.Page.Count (x++L y.Page.Text) (MN a q y) b (by omega) (.inr h4) (by omega);rw [show((a+1:Nat):Int)=(a:Int)+1 from rfl]at k1 k2;refine⟨λh6=>?_,λh6 h7=>k2 h6 (by omega)⟩;obtain⟨q',k3⟩:=k1 h6;refine⟨q',?_⟩;rw [k3]
   rw [show texts.drop a=y.Page.Text::texts.drop (a+1) by
    have h8:=(Ai.1 h5)
    rw [Bh h8.1,h8.2]]
   simp only [NP,HC,Ar]
theorem AAD (r:List As) (hr:∀y∈r,1<=y.Page.Tx) (ht:∀y∈r,y.Page.Kind=2->y.Page.Tx<t) (h0:1<=t) (h:i7 m t n texts):
  (m.length<n->Bt (r++m)=Bt r)/\(m.length=n->∀a,gN (bs (NP texts))=some a->∃q,Bt (r++m)=Bt r++ [Tx.mk t q a]):=by
 have d:∀y∈r,y.Page.Kind=2->y.Page.Tx≠t:=λy hy hk=>by have:=ht y hy hk;omega
 have old:∀x∈Dn r,H6 (r++m) x=H6 r x:=by
  intro x hx;have:=GI r hr;obtain⟨y,hy,hk,rfl⟩:=(this.2.1 x).1 hx;have:=ht y hy hk
  refine Sn λe f=>?_
  rw [pU,Ug (r:=m) (λz hz g=>by rw [(h.all hz).2];omega),Option.or_none]
 have oldG:(Dn r).filterMap (H6 (r++m))=Bt r:=by
  unfold Bt;exact ZN old
 by_cases hm:m=[]
 ·subst hm;have:=h.pos;refine⟨λ_=>by rw [A0],λh1=>by simp at h1;omega⟩
 have b:=AD2 r hr ht h0 m hm (λy hy=>h.all hy);have hg:Bt (r++m)=Bt r++(match H6 (r++m) t with|some x=>[x]|none=>[]):=by
  have:Bt (r++m)=(Dn (r++m)).filterMap (H6 (r++m)):=rfl;rw [this,b,Ha,oldG];congr 1
  cases hx:H6 (r++m) t with
  |none=>simp [hx]
  |some x=>simp [hx]
 have hp:=h.pos;obtain⟨p1,p2⟩:=gV d h n 0 0 [] 0 11 (by omega) (.inl rfl) (by omega);refine⟨λh1=>?_,λh1 a c=>?_⟩
 ·have:H6 (r++m) t=none:=by
   unfold H6;have:=p2 h1 (by omega);rw [show((0:Nat):Int)=0 from rfl]at this;rw [this]
  rw [hg,this,A0]
 obtain⟨q,p3⟩:=p1 h1;rw [show((0:Nat):Int)=0 from rfl]at p3;have:H6 (r++m) t=some (Tx.mk t q a):=by
  unfold H6;rw [p3];simp only [AA,List.drop_zero];rw [c];rfl
 exact⟨q,by rw [hg,this]⟩
structure wW (r:List As):Prop where
 uniq:∀y∈r,∀z∈r,y.Page.Kind=2->z.Page.Kind=2->y.Page.Tx=z.Page.Tx->y.Page.Part=z.Page.Part->y=z
theorem AAH (h:wW r) (p:As->Bool) {t a b:Int} (hf:PY (r.filter p) t a b=some y):PY r t a b=some y:=by
 obtain⟨h1,h2⟩:=QS hf;have h3:=(AN.1 h1).1
 cases hz:PY r t a b with
 |none=>
  unfold PY at hz;rw [Fy]at hz;exact absurd h2 (hz y h3)
 |some z=>
  obtain⟨k1,k2⟩:=QS hz;obtain⟨a1,a2,a3⟩:=Vr h2;obtain⟨b1,b2,b3⟩:=Vr k2;rw [h.uniq z k1 y h3 b1 a1 (by rw [a2,b2]) (by rw [a3,b3])]
theorem TF (h:wW r) (p:As->Bool):∀(n:Nat) (a b:Int) (x:List UInt8) (q:Int) (w:List UInt8×Int),parts (r.filter p) t n a b x q=some w->parts r t n a b x q=some w
 |0,_,_,_,_,_,hw=>by cases hw
 |n+1,a,b,x,q,w,hw=>by
  simp only [parts]at hw⊢;split
  ·rename_i hc;rw [A3 hc]at hw
   cases hf:PY (r.filter p) t a b with
   |none=>rw [hf]at hw;cases hw
   |some y=>
    rw [hf]at hw;rw [AAH h p hf];exact TF h p n _ _ _ _ w hw
  rename_i hc;rw [A5 hc]at hw;exact hw
theorem qZ {x:Tx} (h:wW r) (p:As->Bool) (hx:H6 (r.filter p) t=some x):H6 r t=some x:=by
 unfold H6 at hx⊢
 cases hp:parts (r.filter p) t 11 0 0 [] 0 with
 |none=>rw [hp]at hx;cases hx
 |some w=>
  rw [hp]at hx;rw [TF h p _ _ _ _ _ w hp];exact hx
theorem AAE (r:List As) (hr:GM r):(Bt r).Pairwise λx y=>x.Num<y.Num:=by
 have h1:=(GI r (λy hy=>(hr.tx y hy).1)).1;unfold Bt;rw [List.pairwise_filterMap];refine List.Pairwise.imp ?_ h1;intro a b c x hx y hy;rw [(Rg hr hx).1,(Rg hr hy).1];exact c
theorem Uk (l:List α) (f:α->Option β) (q:β->Bool):(l.filterMap f).filter q=l.filterMap (λa=>(f a).filter q):=by
 induction l with
 |nil=>rfl
 |cons a l ih=>
  cases h:f a with
  |none=>simp [h,ih]
  |some b=>
   cases hq:q b with
   |true=>simp [h,hq,ih,Option.filter]
   |false=>simp [h,hq,ih,Option.filter]
theorem jM (r:List As) (hr:GM r) (h:wW r) (p:As->Bool) (hp:∀y∈r,y.Page.Kind=2->KL (Et (Bt r))<=y.Page.Tx->p y=true):Et (Bt (r.filter p))=Et (Bt r):=by
 have hr':GM (r.filter p):=⟨by have:=BN p r;have:=hr.len;omega,λy hy=>hr.text y (AN.1 hy).1,λy hy=>hr.seq y (AN.1 hy).1,λy hy=>hr.tx y (AN.1 hy).1,λy hy=>hr.cnt y (AN.1 hy).1,λy hy=>hr.part y (AN.1 hy).1⟩;have s1:=GI r (λy hy=>(hr.tx y hy).1);have s2:=GI (r.filter p) (λy hy=>(hr'.tx y hy).1);have e1:Bt (r.filter p)=(Dn r).filterMap (H6 (r.filter p)):=by
  have hn:Dn (r.filter p)=(Dn r).filter (λt=>decide (t∈Dn (r.filter p))):=by
   refine Uw s2.1 (List.Pairwise.filter _ s1.1) λx=>?_
   rw [AN,A9];refine⟨λhx=>⟨?_,hx⟩,λhx=>hx.2⟩;obtain⟨y,hy,hk,rfl⟩:=(s2.2.1 x).1 hx;exact(s1.2.1 _).2 ⟨y,(AN.1 hy).1,hk,rfl⟩
  unfold Bt
  conv=>lhs;rw [hn]
  rw [List.filterMap_filter]
  refine ZN λt ht=>?_
  by_cases e:t∈Dn (r.filter p)
  ·rw [A3 (by simpa using e)]
  rw [A5 (by simpa using e)];symm
  refine AB4 λy hy hk f=>e ((s2.2.1 t).2 ⟨y,hy,hk,f⟩)
 have keep:∀t,KL (Et (Bt r))<=t->H6 (r.filter p) t=H6 r t:=by
  intro t ht
  refine Sn λpart cnt=>?_
  unfold PY;rw [List.find?_filter]
  refine AAI λy hy=>?_
  cases hm:xU t part cnt y with
  |false=>simp
  |true=>
   obtain⟨a1,a2,_⟩:=Vr hm;rw [hp y hy a1 (by omega)];rfl
 have e2:Bt (r.filter p)=(Bt r).filter λx=>(H6 (r.filter p) x.Num).isSome:=by
  rw [e1];unfold Bt;rw [Uk]
  refine ZN λt ht=>?_
  cases hx:H6 (r.filter p) t with
  |some x=>
   have h1:=qZ h p hx;rw [h1];have h2:=(Rg hr h1).1;simp only [Option.filter,h2,hx,RS,BX]
  |none=>
   cases hy:H6 r t with
   |none=>rfl
   |some x=>
    have h2:=(Rg hr hy).1;simp only [Option.filter,h2,hx,GP,BH,FM]
 obtain⟨A,h1,h2,h3⟩:=rE (Bt r);have a:=AAE r hr;have hB:(Et (Bt r)).filter (λx=>(H6 (r.filter p) x.Num).isSome)=Et (Bt r):=by
  rw [Gy];intro x hx;have g:=(f7 (Bt r)).2 x hx;obtain⟨t,_,ht⟩:=List.mem_filterMap.1 g;have hn:=(Rg hr ht).1;have i:KL (Et (Bt r))<=x.Num:=by
   rw [h1,AX]at a
   cases hb:Et (Bt r)with
   |nil=>rw [hb]at hx;cases hx
   |cons b B=>
    have c:=a.2.1;rw [hb,Cs]at c;rw [hb,BE]at hx;simp only [KL]
    rcases hx with rfl|hx
    ·exact E7 _
    have:=c.1 x hx;omega
  rw [keep _ i,hn,ht];rfl
 rw [e2]
 conv=>lhs;rw [h1]
 rw [AT,hB];refine ADu _ _ (λd=>h2 λhA=>?_) h3;rw [hA]at d;exact d rfl
theorem Vy:∀n:Nat,∃ds x,C1 n=ds++ [x]/\(∀d∈ds,128<=d.toNat)/\x.toNat<128/\Ft (C1 n)=n
 |n=>by
  by_cases h:n<=127
  ·rw [Jl h];have:(UInt8.ofNat n).toNat=n:=by rw [GO];omega
   exact⟨[],_,rfl,by simp,by omega,by simp only [Ft];omega⟩
  obtain⟨ds,x,h1,h2,h3,h4⟩:=Vy (n/128);rw [QV h];have e:(UInt8.ofNat (n %128+128)).toNat=n %128+128:=by rw [GO];omega
  refine⟨UInt8.ofNat (n %128+128)::ds,x,by rw [h1];rfl,?_,h3,?_⟩
  ·intro d hd
   rcases BE.1 hd with rfl|hd
   ·omega
   exact h2 d hd
  simp only [Ft];rw [h4,e];omega
termination_by n=>n
decreasing_by omega
theorem Ie (h:n<=1000000000):1<=(C1 n).length/\(C1 n).length<=5:=by
 have a:∀(k n:Nat),n<128^(k+1)->(C1 n).length<=k+1:=by
  intro k
  induction k with
  |zero=>intro n hn;rw [Jl (by omega)];simp
  |succ k ih=>
   intro n hn;by_cases h:n<=127
   ·rw [Jl h];simp
   rw [QV h,Ay];have:=ih (n/128) (by rw [Xm]at hn;omega);omega
 refine⟨?_,a 4 n (by omega)⟩;obtain⟨ds,x,h1,_⟩:=Vy n;rw [h1];simp
theorem wS (t:ByteArray) (ht:(L t).length<=20000) (a n:Nat) (hn:n<=1000000000) (f:List UInt8) (h:(L t).drop a=C1 n++f):Jx t (a:Int)=some ((n:Int),((a+(C1 n).length:Nat):Int),true):=by
 obtain⟨ds,x,hD,v,hx,hv⟩:=Vy n;obtain⟨h2,h3⟩:=Ie hn;have h1:(L t).length-a=(C1 n).length+f.length:=by
  have:=Ca List.length h;rw [B8,Ag]at this;exact this
 have h4:(C1 n).length=ds.length+1:=by rw [hD];simp
 have g:∀k,k<=(C1 n).length->((L t).drop a).take k=(C1 n).take k:=λk hk=>by rw [h,FN hk]
 have w:∀(m k:Nat),k+m=ds.length->Aw (λs:Int×Int×Int=>DK t (a:Int) s.1 s.2.1 s.2.2) (((Ft ((C1 n).take k):Nat):Int),((128^k:Nat):Int),((a+k:Nat):Int))=some (.inr ((n:Int),((a+(C1 n).length:Nat):Int),true)):=by
  intro m
  induction m with
  |zero=>
   intro k hk;have i:k=ds.length:=by omega
   suffices d:DK t (a:Int) ((Ft ((C1 n).take k):Nat):Int) ((128^k:Nat):Int) ((a+k:Nat):Int)=some (.inr (.inr ((n:Int),((a+(C1 n).length:Nat):Int),true))) by
    rw [A8];simp only [d]
   simp only [DK];have e:a+k<(L t).length:=by omega
   rw [CA (b:=5) (by omega) (by omega),BL,Ad (by omega:((a+k:Nat):Int)<(a:Int)+5),Ad (by omega:((a+k:Nat):Int)<((L t).length:Int))];simp only [Ae,Aa,EX t e];have hb:(L t)[a+k]=x:=by
    have:((L t).drop a)[k]?=some x:=by
     rw [h,hD,AQ (by simp;omega),i,AS (A4 _),Re];rfl
    rw [Cm,Ab e]at this;injection this
   rw [hb];have c:=Nj ds [x];rw [<-hD,hv]at c;have y:(C1 n).take k=ds:=by rw [hD,i,PU rfl]
   rw [y];simp only [Ft,Nat.mul_zero,G3]at c;have hp:=nL k (by omega);have hw:IntKind.i64.wrap (x.toNat:Int)=x.toNat:=ND (by omega) (by omega);have o:x.toNat %128*128^k<=127*268435456:=fG (by omega) hp;have emul:ml ((x.toNat %128:Nat):Int) ((128^k:Nat):Int)=((x.toNat %128*128^k:Nat):Int):=by
    have ec:((x.toNat %128:Nat):Int)*((128^k:Nat):Int)=((x.toNat %128*128^k:Nat):Int):=by norm_cast
    rw [Oh (by rw [ec];omega) (by rw [ec];omega),ec]
   have j:=Xq ds;rw [<-i]at j c;have enew:ad ((Ft ds:Nat):Int) ((x.toNat %128*128^k:Nat):Int)=(n:Int):=by
    rw [CA (by omega) (by omega),c,AA3 (128^k)];omega
   rw [hw,jJ,emul,enew,Ad (by omega:(x.toNat:Int)<128),Af (by omega:¬(n:Int)>1000000000),ad1 (by omega)];simp only [Ae,Ac];obtain⟨s,z,h0⟩:=I2 n (by omega);rw [EY t (by omega) (by omega),z];simp only [Aa];have p:seq s (t.extract a (a+k+1))=true:=by
    rw [Qp,h0,HG,show a+k+1-a=k+1 by omega,g _ (by omega),Ba (by omega)];simp
   rw [p];simp only [Al,Ac];rw [show a+k+1=a+(C1 n).length by omega]
  |succ m ih=>
   intro k hk;suffices d:DK t (a:Int) ((Ft ((C1 n).take k):Nat):Int) ((128^k:Nat):Int) ((a+k:Nat):Int)=some (.inl (((Ft ((C1 n).take (k+1)):Nat):Int),((128^(k+1):Nat):Int),((a+(k+1):Nat):Int))) by
    rw [A8];simp only [d];exact ih (k+1) (by omega)
   simp only [DK];have e:a+k<(L t).length:=by omega
   rw [CA (b:=5) (by omega) (by omega),BL,Ad (by omega:((a+k:Nat):Int)<(a:Int)+5),Ad (by omega:((a+k:Nat):Int)<((L t).length:Int))];simp only [Ae,Aa,EX t e];have l:k<ds.length:=by omega
   have q:(C1 n)[k]?=some ds[k]:=by rw [hD,AQ l,Ab l]
   have hb:(L t)[a+k]=ds[k]:=by
    have:((L t).drop a)[k]?=some ds[k]:=by
     rw [h,AQ (by omega),q]
    rw [Cm,Ab e]at this;injection this
   rw [hb];have h128:=v _ (AD l);have hx:=qY ds[k];have r:(C1 n).take (k+1)=(C1 n).take k++ [ds[k]]:=by rw [EL,q];rfl
   have u:((C1 n).take k).length=k:=by rw [AF];omega
   have c:=Nj ((C1 n).take k) [ds[k]];rw [<-r,u]at c;have j:=Xq ((C1 n).take k);rw [u]at j;have hp:=nL k (by omega);generalize ds[k]=x at hx r c h128;simp only [Ft,Nat.mul_zero,G3]at c;have hw:IntKind.i64.wrap (x.toNat:Int)=x.toNat:=ND (by omega) (by omega);have o:x.toNat %128*128^k<=127*268435456:=fG (by omega) hp;have emul:ml ((x.toNat %128:Nat):Int) ((128^k:Nat):Int)=((x.toNat %128*128^k:Nat):Int):=by
    have ec:((x.toNat %128:Nat):Int)*((128^k:Nat):Int)=((x.toNat %128*128^k:Nat):Int):=by norm_cast
    rw [Oh (by rw [ec];omega) (by rw [ec];omega),ec]
   have enew:ad (((Ft ((C1 n).take k):Nat)):Int) ((x.toNat %128*128^k:Nat):Int)=((Ft ((C1 n).take (k+1)):Nat):Int):=by
    rw [CA (by omega) (by omega),c,AA3 (128^k)];omega
   have e1:ml ((128^k:Nat):Int) 128=((128^(k+1):Nat):Int):=by
    rw [Oh (by omega) (by omega),Xm];norm_cast
   rw [hw,jJ,emul,enew,Af (by omega:¬(x.toNat:Int)<128),e1,ad1 (by omega)];rfl
 unfold Jx;rw [BL,E6,Ad (by omega)];simp only [Aa,Al,Ac];have k0:=w ds.length 0 (by omega);simp only [IA,Ft,Nat.pow_zero,G3]at k0;rw [show((0:Nat):Int)=0 from rfl,show((1:Nat):Int)=1 from rfl]at k0;rw [k0];rfl
theorem KE (t:ByteArray) (ht:(L t).length<=20000) (a n:Nat) (hn:n<=1000000000) (b:List UInt8) (h:(L t).drop a=C1 n++b):Du (D0.mk t (a:Int) false)=some ((n:Int),D0.mk t ((a+(C1 n).length:Nat):Int) false):=by
 rw [J6 t _ ht (wS t ht a n hn b h)];rfl
def zW (r:Cu):List UInt8:=UInt8.ofNat (16*r.Kind+r.Vol).toNat::(C1 r.Arg.toNat++C1 r.Chunk.toNat)
theorem nH {r:Cu} (h:Iy r=true):1<=r.Kind/\r.Kind<=5/\0<=r.Vol/\r.Vol<=9/\0<=r.Arg/\r.Arg<=1000000000/\0<=r.Chunk/\r.Chunk<=1000000000:=by
 unfold Iy at h
 cases k1:(r.Kind==1)with
 |true=>
  have e1:r.Kind=1:=by simpa using k1
  rw [k1]at h;simp at h;omega
 |false=>
  rw [k1]at h;cases k2:(r.Kind==2)<;>cases k3:(r.Kind==3)<;>cases k4:(r.Kind==4)<;>rw [k2,k3,k4]at h<;>simp at h k2 k3 k4<;>omega
theorem lO {r:Cu} (h:Iy r=true):∃t,Mn r=some (t,true)/\L t=zW r:=by
 obtain⟨h1,h2,h3,h4,h5,h6,h7,h8⟩:=nH h;obtain⟨sa,a1,a2⟩:=I2 r.Arg.toNat (by omega);obtain⟨sc,c1,c2⟩:=I2 r.Chunk.toNat (by omega);rw [Bl h5]at a1;rw [Bl h7]at c1;unfold Mn Js;rw [Ro,h];simp only [Aa,Al,Ac];rw [Oh (by omega) (by omega),CA (by omega) (by omega),a1];simp only [Aa];have l1:=(Ie (show r.Arg.toNat<=1000000000 by omega)).2;have l2:=(Ie (show r.Chunk.toNat<=1000000000 by omega)).2;have hb:∀x,(L (EI [x])).length=1:=Qf;rw [FT _ _ (by rw [hb,a2];omega),c1];simp only [Aa];rw [FT _ _ (by rw [D4,Ag,hb,a2,c2];omega)];simp only [Aa];refine⟨_,rfl,?_⟩;rw [D4,D4,Jn,a2,c2];unfold zW;have hw:IntKind.u8.wrap (16*r.Kind+r.Vol)=16*r.Kind+r.Vol:=by
  rw [IntKind.wrap_u8];omega
 simp only [BF,AA4,hw,Cq,BG,AA]
def GW (l:List Cu):List UInt8:=l.flatMap zW
theorem ADK {r:Cu} (h:Iy r=true):3<=(zW r).length/\(zW r).length<=11:=by
 obtain⟨h1,h2,h3,h4,h5,h6,h7,h8⟩:=nH h;have l1:=Ie (show r.Arg.toNat<=1000000000 by omega);have l2:=Ie (show r.Chunk.toNat<=1000000000 by omega);unfold zW;rw [Ay,Ag];omega
theorem gM (t:ByteArray) (ht:(L t).length<=20000):∀(l:List Cu) (a:Nat) (b:List Cu),(∀r∈l,Iy r=true)->(L t).drop a=GW l->a<=(L t).length->b.length<=a->Aw (λs:List Cu×ByteArray×Int×Bool=>DG t s.1 s.2.1 s.2.2.1 s.2.2.2) (b,t,(a:Int),false)=some (.inl (b++l))
 |[],a,b,hl,h,ha,ho=>by
  have:(L t).length=a:=by
   have:=Ca List.length h;rw [B8]at this;simp [GW]at this;omega
  rw [A8];simp only [DG];rw [BL,Af (by omega),A0];rfl
 |r::l,a,b,hl,h,ha,ho=>by
  have hr:=hl r (by simp);obtain⟨h1,h2,h3,h4,h5,h6,h7,h8⟩:=nH hr;have h':(L t).drop a=UInt8.ofNat (16*r.Kind+r.Vol).toNat::(C1 r.Arg.toNat++(C1 r.Chunk.toNat++GW l)):=by
   rw [h];simp only [GW,HC,zW,BG,Ar]
  have c:a<(L t).length:=by
   have:=Ca List.length h';rw [B8,Ay]at this;omega
  have d:=Bh c;rw [h']at d
  injection d with hx hd
  rw [A8];simp only [DG];rw [BL,Ad (by omega)];simp only [Ae,Aa,AJ];rw [EX t c,ad1 (by omega)];simp only [Aa];rw [KE t ht (a+1) r.Arg.toNat (by omega) _ hd.symm];simp only [Aa];have e:(L t).drop (a+1+(C1 r.Arg.toNat).length)=C1 r.Chunk.toNat++GW l:=by
   rw [<-CL,<-hd,ET rfl]
  rw [KE t ht _ r.Chunk.toNat (by omega) _ e];simp only [Aa,Ac];have hw:IntKind.i64.wrap (((L t)[a]).toNat:Int)=16*r.Kind+r.Vol:=by
   rw [<-hx,GO];rw [ND (by omega) (by omega)];omega
  have e1:qu (IntKind.i64.wrap (((L t)[a]).toNat:Int)) 16=r.Kind:=by
   rw [hw];unfold qu;rw [Int.tdiv_eq_ediv_of_nonneg (by omega),ND (by omega) (by omega)];omega
  have e2:Int.tmod (IntKind.i64.wrap (((L t)[a]).toNat:Int)) 16=r.Vol:=by
   rw [hw,GT (by omega)];omega
  rw [e1,e2,Bl h5,Bl h7];have f:Cu.mk r.Kind r.Vol r.Arg r.Chunk=r:=rfl;rw [f,Ro,hr];simp only [Aa,Al,Ac];rw [C3 (by simp only [Aj];omega)];simp only [Aa];have l1:=Ie (show r.Arg.toNat<=1000000000 by omega);have l2:=Ie (show r.Chunk.toNat<=1000000000 by omega);have g:(L t).drop (a+1+(C1 r.Arg.toNat).length+(C1 r.Chunk.toNat).length)=GW l:=by
   rw [<-CL,e,ET rfl]
  have i:a+1+(C1 r.Arg.toNat).length+(C1 r.Chunk.toNat).length<=(L t).length:=by
   have h9:=Ca List.length h';rw [B8,Ay,Ag,Ag]at h9;omega
  have:=gM t ht l _ (b++ [r]) (λx hx=>hl x (by simp [hx])) g i (by simp;omega);rw [Ar,Cq]at this;exact this
theorem zV {l:List Cu} (hl:∀r∈l,Iy r=true) (a:(GW l).length<=20000):gN (bs (GW l))=some l:=by
 have h:=gM (bs (GW l)) (by rw [DV];exact a) l 0 [] hl (by rw [DV];rfl) (by omega) (by simp);unfold gN HU;have h':Aw (λs:List Cu×ByteArray×Int×Bool=>DG (bs (GW l)) s.1 s.2.1 s.2.2.1 s.2.2.2) ([],bs (GW l),0,false)=some (.inl ([]++l)):=h;rw [h',AA];rfl
theorem AAV {v:Int} (u:ByteArray) (hu:(L u).length<=20000) (hv:Nq u=some v):K3 (u++four v)=some (u,true):=by
 have a:(L (u++four v)).length=(L u).length+4:=by rw [D4,Ag,Uf]
 have e4:sb (FL (u++four v)) 4=((L u).length:Int):=by rw [BL,a,Cz (by omega) (by omega)];omega
 unfold K3;rw [e4,Af (by omega),Af (by omega)];simp only [Ac];have c:sub (u++four v) 0 ((L u).length:Int)=some u:=by
  rw [show(0:Int)=((0:Nat):Int)from rfl,EY _ (by omega) (by omega)];congr 1;apply Ii;rw [HG,D4];simp
 have b:sub (u++four v) ((L u).length:Int) (FL (u++four v))=some (four v):=by
  rw [BL,EY _ (by omega) (by omega)];congr 1;apply Ii;rw [HG,a,D4,ET rfl,Ba (by rw [Uf];omega)]
 rw [c,b];simp only [Aa];rw [hv];have h3:K2 v=some (four v):=rfl;simp only [Aa,h3];have:seq (four v) (four v)=true:=by rw [Jc];simp
 rw [this];rfl
def IR (p:Page):Prop:=(p.Kind=1\/p.Kind=2)/\(1<=p.Seq/\p.Seq<=1000000000)/\(1<=p.Tx/\p.Tx<=1000000000)/\(1<=p.Count/\p.Count<=9)/\(0<=p.Part/\p.Part<p.Count)/\(L p.Text).length<=90/\(p.Kind=2\/p.Count=1)
theorem Sx (p:Page):∃v,JW p=some v/\(v=true↔IR p):=by
 unfold JW IR;rw [E6,E6,E6,E6,BL];simp only [Aa];by_cases h1:1<=p.Kind/\p.Kind<=2
 ·rw [Ad h1];by_cases h2:1<=p.Seq/\p.Seq<=1000000000
  ·rw [Ad h2];by_cases h3:1<=p.Tx/\p.Tx<=1000000000
   ·rw [Ad h3];by_cases h4:1<=p.Count/\p.Count<=9
    ·rw [Ad h4];simp only [Al,Ac];rw [Cz (by omega) (by omega),E6];simp only [Aa];by_cases h5:0<=p.Part/\p.Part<=p.Count-1
     ·rw [Ad h5];simp only [Al,Ac,Aa];by_cases h6:((L p.Text).length:Int)>90
      ·rw [Ad h6];exact⟨_,rfl,by simp only [BH,R9];omega⟩
      rw [Af h6];simp only [Ac];by_cases h7:p.Kind=2
      ·rw [show(p.Kind==2)=true by simpa using h7];exact⟨_,rfl,by simp only [true_iff];omega⟩
      rw [show(p.Kind==2)=false by simpa using h7];refine⟨_,rfl,?_⟩;rw [Cj];omega
     rw [Af h5];exact⟨_,rfl,by simp only [BH,R9];omega⟩
    rw [Af h4];exact⟨_,rfl,by simp only [BH,R9];omega⟩
   rw [Af h3];exact⟨_,rfl,by simp only [BH,R9];omega⟩
  rw [Af h2];exact⟨_,rfl,by simp only [BH,R9];omega⟩
 rw [Af h1];exact⟨_,rfl,by simp only [BH,R9];omega⟩
theorem ADS (h:IR p):JW p=some true:=by
 obtain⟨v,h1,h2⟩:=Sx p;rw [h1,h2.2 h]
theorem ACr (h:IR p):∃t,E5 p=some (t,true)/\1<=(L t).length/\(L t).length<=120/\F7 t=some (p,true):=by
 obtain⟨h1,h2,h3,h4,h5,h6,h7⟩:=h
 let k:UInt8:=UInt8.ofNat p.Kind.toNat
 have hk:(k.toNat:Int)=p.Kind:=by
  show((UInt8.ofNat p.Kind.toNat).toNat:Int)=p.Kind;rw [GO];omega
 let u:=bs ([k]++C1 p.Seq.toNat++C1 p.Tx.toNat++C1 p.Part.toNat++C1 p.Count.toNat++L p.Text)
 have hu:L u=[k]++C1 p.Seq.toNat++C1 p.Tx.toNat++C1 p.Part.toNat++C1 p.Count.toNat++L p.Text:=DV _;have l1:=Ie (show p.Seq.toNat<=1000000000 by omega);have l2:=Ie (show p.Tx.toNat<=1000000000 by omega);have l3:=Ie (show p.Part.toNat<=1000000000 by omega);have l4:=Ie (show p.Count.toNat<=1000000000 by omega);have e:(L u).length=1+(C1 p.Seq.toNat).length+(C1 p.Tx.toNat).length+(C1 p.Part.toNat).length+(C1 p.Count.toNat).length+(L p.Text).length:=by
  rw [hu];simp only [Ag,Aj]
 have l5:(L u).length<=116:=by omega
 obtain⟨v,hv,hs⟩:=(RG u).2 (by omega);have c:=ADS ⟨h1,h2,h3,h4,h5,h6,h7⟩;have a:=Wu p u k p.Seq.toNat p.Tx.toNat p.Part.toNat p.Count.toNat c hk.symm (by omega) (by omega) (by omega) (by omega) (by omega) (by omega) (by omega) (by omega) (by omega) hu;rw [hs]at a;refine⟨u++four v,a,by rw [D4,Ag];omega,by rw [D4,Ag,Uf];omega,?_⟩;unfold F7;rw [AAV u (by omega) hv];simp only [Aa,Al,Ac];rw [BL,Af (by omega)];have d0:(L u).drop 1=C1 p.Seq.toNat++(C1 p.Tx.toNat++(C1 p.Part.toNat++(C1 p.Count.toNat++L p.Text))):=by
  rw [hu];simp only [Ar,Cq,BG,List.drop_succ_cons,List.drop_zero,AA]
 rw [show(1:Int)=((1:Nat):Int)from rfl,KE u (by omega) 1 p.Seq.toNat (by omega) _ d0];simp only [Aa];have d1:(L u).drop (1+(C1 p.Seq.toNat).length)=C1 p.Tx.toNat++(C1 p.Part.toNat++(C1 p.Count.toNat++L p.Text)):=by rw [<-CL,d0,ET rfl]
 rw [KE u (by omega) _ p.Tx.toNat (by omega) _ d1];simp only [Aa];have d2:(L u).drop (1+(C1 p.Seq.toNat).length+(C1 p.Tx.toNat).length)=C1 p.Part.toNat++(C1 p.Count.toNat++L p.Text):=by rw [<-CL,d1,ET rfl]
 rw [KE u (by omega) _ p.Part.toNat (by omega) _ d2];simp only [Aa];have d3:(L u).drop (1+(C1 p.Seq.toNat).length+(C1 p.Tx.toNat).length+(C1 p.Part.toNat).length)=C1 p.Count.toNat++L p.Text:=by rw [<-CL,d2,ET rfl]
 rw [KE u (by omega) _ p.Count.toNat (by omega) _ d3];simp only [Aa,Ac];have d4:(L u).drop (1+(C1 p.Seq.toNat).length+(C1 p.Tx.toNat).length+(C1 p.Part.toNat).length+(C1 p.Count.toNat).length)=L p.Text:=by rw [<-CL,d3,ET rfl]
 have d:sx u 0=some ((k.toNat:Nat):Int):=by
  rw [show(0:Int)=((0:Nat):Int)from rfl,EX u (by omega)];have:(L u)[0]?=some k:=by rw [hu];simp
  rw [Ab (by omega)]at this
  injection this with this
  rw [this]
 rw [d];simp only [Aa];have b:sub u ((1+(C1 p.Seq.toNat).length+(C1 p.Tx.toNat).length+(C1 p.Part.toNat).length+(C1 p.Count.toNat).length:Nat):Int) ((L u).length:Int)=some p.Text:=by
  rw [EY u (by omega) (by omega)];congr 1;apply Ii;rw [HG,d4,Ba (by omega)]
 rw [b];simp only [Aa];rw [ND (by omega) (by omega),hk,Bl (by omega),Bl (by omega),Bl (by omega),Bl (by omega)];have hp:Page.mk p.Kind p.Seq p.Tx p.Part p.Count p.Text=p:=rfl;rw [hp,a];simp only [Aa,Al,Ac];have:seq (u++four v) (u++four v)=true:=by rw [Jc];simp
 rw [this];rfl
theorem ADR (h:¬IR p):E5 p=some (bs [],false):=by
 obtain⟨v,h1,h2⟩:=Sx p;unfold E5;rw [h1]
 cases v with
 |true=>exact absurd (h2.1 rfl) h
 |false=>rfl
theorem ACf (s:ByteArray) (f a:Nat) (hf:f<a) (ha:a<=(L s).length) (hs:(L s).length<=64):∃k:Nat,ME s (f:Int) (a:Int)=some (k:Int)/\k<=31/\a+k<=(L s).length/\∀j,j<k->(L s)[f+j]?=(L s)[a+j]? :=by
 obtain⟨b,h1,k,rfl,h2,h3,h4⟩:=Bk (body:=λn:Int=>Hv s (f:Int) (a:Int) n) (λ(_:Unit) i=>i) 31 (λi _=>a+i<=(L s).length/\∀j,j<i->(L s)[f+j]?=(L s)[a+j]?) (λb=>∃k:Nat,b=(k:Int)/\k<=31/\a+k<=(L s).length/\∀j,j<k->(L s)[f+j]?=(L s)[a+j]?)
  (λ_ i hi hs=>by
   simp only [Hv];rw [Ad (by omega:(i:Int)<31),Ae,CA (by omega) (by omega),CA (by omega) (by omega),BL];by_cases c:a+i<(L s).length
   ·rw [Ad (by omega:((a:Int)+(i:Int))<((L s).length:Int)),Ae];have e1:((f:Int)+(i:Int))=((f+i:Nat):Int):=by omega
    have e2:((a:Int)+(i:Int))=((a+i:Nat):Int):=by omega
    rw [e1,e2,EX s (by omega),EX s c];simp only [Aa]
    cases hq:((((L s)[f+i]).toNat:Int)==(((L s)[a+i]).toNat:Int))with
    |true=>
     simp only [Ae];rw [ad1 (by omega)];refine .inl ⟨(),rfl,by omega,λj hj=>?_⟩;by_cases e:j=i
     ·subst e;rw [Ab (by omega),Ab c];congr 1;apply UInt8.toNat_inj.1;have:(((L s)[f+j]).toNat:Int)=(((L s)[a+j]).toNat:Int):=by simpa using hq
      omega
     exact hs.2 j (by omega)
    |false=>exact .inr ⟨_,rfl,i,rfl,by omega,hs.1,hs.2⟩
   rw [Af (by omega:¬((a:Int)+(i:Int))<((L s).length:Int)),Ac]
   exact .inr ⟨_,rfl,i,rfl,by omega,hs.1,hs.2⟩)
  (λ_ hs=>by
   simp only [Hv];rw [Af (by omega:¬((31:Nat):Int)<31),Ac]
   exact⟨_,rfl,31,rfl,by omega,hs.1,hs.2⟩) (s:=()) ⟨by omega,λj hj=>by omega⟩
 refine⟨k,?_,h2,h3,h4⟩;unfold ME;have h1':Aw (λn:Int=>Hv s (f:Int) (a:Int) n) 0=some (k:Int):=h1;rw [h1'];rfl
def AEM (s:ByteArray) (a z b:Nat):Prop:=z<=31/\a+z<=(L s).length/\(z=0\/(4<=z/\1<=b/\b<=a/\∀j,j<z->(L s)[a-b+j]?=(L s)[a+j]?))
theorem ADA (s:ByteArray) (a:Nat) (ha:a<=(L s).length) (hs:(L s).length<=64):∃z b:Nat,Aw (λq:Int×Int×Int=>EB s (a:Int) q.1 q.2.1 q.2.2) (0,0,(sb (a:Int) 1))=some ((z:Int),(b:Int))/\AEM s a z b:=by
 rw [Cz (by omega) (by omega)];obtain⟨r,h1,z,b,rfl,h2⟩:=Bk (body:=λq:Int×Int×Int=>EB s (a:Int) q.1 q.2.1 q.2.2) (λ(q:Nat×Nat) i=>((q.1:Int),(q.2:Int),(a:Int)-1-i)) a (λi q=>AEM s a q.1 q.2) (λr=>∃z b:Nat,r=((z:Int),(b:Int))/\AEM s a z b)
  (λq i hi hq=>by
   obtain⟨k,m1,m2,m3,m4⟩:=ACf s (a-1-i) a (by omega) ha hs;have e1:((a:Int)-1-(i:Int))=((a-1-i:Nat):Int):=by omega
   simp only [EB,e1];rw [Ad (by omega:(((a-1-i:Nat)):Int)>=0),Ae,m1];simp only [Aa];rw [Cz (by omega) (by omega),Cz (by omega) (by omega)];refine .inl ?_;have e2:(((a-1-i:Nat):Int)-1)=(a:Int)-1-((i+1:Nat):Int):=by omega
   have e3:((a:Int)-((a-1-i:Nat):Int))=((1+i:Nat):Int):=by omega
   rw [e2,e3];by_cases h4:4<=k
   ·rw [Ad (by omega:(k:Int)>=4),Ae];by_cases h5:q.1<k
    ·rw [Ad (by omega:(k:Int)>(q.1:Int))];exact⟨(k,1+i),rfl,m2,m3,.inr ⟨h4,by omega,by omega,λj hj=>by rw [show a-(1+i)=a-1-i by omega];exact m4 j hj⟩⟩
    rw [Af (by omega:¬(k:Int)>(q.1:Int))];exact⟨q,rfl,hq⟩
   rw [Af (by omega:¬(k:Int)>=4),Ac]
   exact⟨q,rfl,hq⟩)
  (λq hq=>by
   simp only [EB];rw [Af (by omega:¬((a:Int)-1-(a:Int))>=0),Ac]
   exact⟨_,rfl,q.1,q.2,rfl,hq⟩) (s:=(0,0)) ⟨by omega,by omega,.inl rfl⟩
 have e0:(((0:Nat):Int),((0:Nat):Int),(a:Int)-1-0)=((0:Int),(0:Int),(a:Int)-1):=by simp
 simp only [e0]at h1;exact⟨z,b,h1,h2⟩
def Uo:Nat->Nat->List UInt8->List UInt8
 |0,_,out=>out
 |n+1,b,out=>Uo n b (out++ [(out[out.length-b]?).getD 0])
def Vv (a:List UInt8) (t:Bg):List UInt8:=if t.Back=0 then a++L t.Text else Uo t.Size.toNat t.Back.toNat a
def F8 (l:List Bg):List UInt8:=l.foldl Vv []
def okT (a:List UInt8) (t:Bg):Prop:=(t.Back=0/\t.Size=0/\1<=(L t.Text).length/\(L t.Text).length<=31)\/(1<=t.Back/\t.Back<=(a.length:Int)/\1<=t.Size/\t.Size<=31/\L t.Text=[])
def okL (l:List Bg):Prop:=∀(i:Nat) t,l[i]?=some t->okT (F8 (l.take i)) t
theorem Od (l:List Bg) (t:Bg):F8 (l++ [t])=Vv (F8 l) t:=by unfold F8;rw [HB];rfl
theorem nR {l:List Bg} {t:Bg} (h:okL l) (ht:okT (F8 l) t):okL (l++ [t]):=by
 intro i x hx;by_cases e:i<l.length
 ·rw [AQ e]at hx;rw [FN (by omega)];exact h i x hx
 have hi:=(Ai.1 hx).1;rw [Ag,Aj]at hi;obtain rfl:i=l.length:=by omega
 rw [AS (A4 _),Re]at hx;simp only [CO,Ao]at hx;rw [PU rfl,<-hx];exact ht
theorem AD0 {l:List Bg} {t:Bg} (h:okL (l++ [t])):okL l/\okT (F8 l) t:=by
 refine⟨λi x hx=>?_,?_⟩
 ·have hi:=(Ai.1 hx).1;have:=h i x (by rw [AQ hi];exact hx);rw [FN (by omega)]at this;exact this
 have:=h l.length t (by rw [AS (A4 _),Re];rfl);rw [PU rfl]at this;exact this
theorem iN (S:List UInt8):∀(n a b:Nat),a+n<=S.length->1<=b->b<=a->(∀j,j<n->S[a-b+j]?=S[a+j]?)->Uo n b (S.take a)=S.take (a+n)
 |0,a,b,_,_,_,_=>rfl
 |n+1,a,b,h1,h2,h3,h4=>by
  rw [Uo];have hl:(S.take a).length=a:=by rw [AF];omega
  have e:((S.take a)[(S.take a).length-b]?).getD 0=S[a]'(by omega):=by
   rw [hl,List.getElem?_take_of_lt (by omega)];have:=h4 0 (by omega);rw [G3,G3]at this;rw [this,Ab (by omega)];rfl
  rw [e,<-Ax (by omega),iN S n (a+1) b (by omega) h2 (by omega) (λj hj=>by
   have:=h4 (j+1) (by omega);rw [show a+1-b+j=a-b+(j+1) by omega,this];congr 1
   omega)]
  congr 1;omega
theorem wB:∀(n b:Nat) (a:List UInt8),(Uo n b a).length=a.length+n
 |0,_,_=>rfl
 |n+1,b,a=>by rw [Uo,wB];simp;omega
theorem Ti (s:ByteArray) (hs:(L s).length<=64):∀(n a:Nat) (c:List Bg),(L s).length-a<=n->a<=(L s).length->c.length<=a->okL c->F8 c=(L s).take a->∃l,Aw (λq:List Bg×Int=>C0 s q.1 q.2) (c,(a:Int))=some l/\okL l/\F8 l=L s/\l.length<=64
 |n,a,c,hn,ha,h,g,d=>by
  by_cases i:a<(L s).length
  ·obtain⟨z,b,h1,h2,h3,h4⟩:=ADA s a ha hs
   match n,hn with
   |0,hn=>omega
   |n+1,hn=>
   have j:((L s).take a).length=a:=by rw [AF];omega
   rcases h4 with rfl|⟨h4,h5,h6,h7⟩
   ·
    have f:sub s (a:Int) ((a+1:Nat):Int)=some (s.extract a (a+1)):=EY s (by omega) (by omega);have hx:L (s.extract a (a+1))=[(L s)[a]]:=by
     rw [HG,show a+1-a=1 by omega,Bh i];rfl
    have fresh:∃l,Aw (λq:List Bg×Int=>C0 s q.1 q.2) (c++ [Bg.mk 0 0 (s.extract a (a+1))],((a+1:Nat):Int))=some l/\okL l/\F8 l=L s/\l.length<=64:=
     Ti s hs n (a+1) _ (by omega) (by omega) (by simp;omega) (nR g (.inl ⟨rfl,rfl,by rw [hx];simp,by rw [hx];simp⟩)) (by
      rw [Od];unfold Vv
      rw [A3 rfl,d,hx,Ax i])
    rcases Hb c with e|⟨out0,t0,e⟩
    ·subst e;obtain⟨l,f1,f2⟩:=fresh;refine⟨l,?_,f2⟩;rw [A8];have hb:C0 s [] (a:Int)=some (.inl ([Bg.mk 0 0 (s.extract a (a+1))],((a+1:Nat):Int))):=by
      simp only [C0];rw [BL,Ad (by omega),Ae,h1];simp only [Aa];rw [show decide ((((0:Nat):Int))>0)=false from rfl,Ac,ad1 (by omega),f,show decide ((sb (ln ([]:List Bg)) 1)>=0)=false from rfl];simp only [Ac,Aa];rw [C3 (by simp)];rfl
     simp only [hb];exact f1
    rw [Hc]at e;subst e;obtain⟨ok0,okt0⟩:=AD0 g;have hol':out0.length+1<=a:=by simpa using h
    have p:ln (out0++ [t0])=((out0.length+1:Nat):Int):=by rw [Cf];simp
    have k:sb (ln (out0++ [t0])) 1=(out0.length:Int):=by rw [p,Cz (by omega) (by omega)];omega
    have m:gi (out0++ [t0]) (out0.length:Int)=some t0:=Fo _ _;by_cases hm:t0.Back=0/\(L t0.Text).length<31
    ·have o:HH t0.Text (s.extract a (a+1))=some (t0.Text++s.extract a (a+1)):=FT _ _ (by rw [hx];simp;omega);have hb:C0 s (out0++ [t0]) (a:Int)=some (.inl (out0++ [Bg.mk t0.Back t0.Size (t0.Text++s.extract a (a+1))],((a+1:Nat):Int))):=by
      simp only [C0];rw [BL,Ad (by omega),Ae,h1];simp only [Aa];rw [show decide ((((0:Nat):Int))>0)=false from rfl,Ac,ad1 (by omega),f,k,Ad (by omega),Ae,m];simp only [Aa];rw [show(t0.Back==0)=true by simpa using hm.1,Ae,BL,Ad (by omega)];simp only [Aa,Ae];rw [o];simp only [Aa];rw [Jq]
     have hX:L (t0.Text++s.extract a (a+1))=L t0.Text++ [(L s)[a]]:=by rw [D4,hx]
     obtain⟨l,f1,f2⟩:=Ti s hs n (a+1) (out0++ [Bg.mk t0.Back t0.Size (t0.Text++s.extract a (a+1))]) (by omega) (by omega) (by simp at h⊢;omega) (nR ok0 (by
      rcases okt0 with⟨k1,k2,k3,k4⟩|⟨k1,_⟩
      ·exact .inl ⟨k1,k2,by rw [hX];simp,by rw [hX];simp;omega⟩
      ·omega)) (by
      rw [Od]at d⊢;unfold Vv at d⊢;rw [A3 hm.1]at d⊢
      rw [hX,<-Ar,d,Ax i])
     refine⟨l,?_,f2⟩;rw [A8];simp only [hb];exact f1
    have hb:C0 s (out0++ [t0]) (a:Int)=some (.inl (out0++ [t0]++ [Bg.mk 0 0 (s.extract a (a+1))],((a+1:Nat):Int))):=by
     simp only [C0];rw [BL,Ad (by omega),Ae,h1];simp only [Aa];rw [show decide ((((0:Nat):Int))>0)=false from rfl,Ac,ad1 (by omega),f,k,Ad (by omega),Ae,m];simp only [Aa];have hj:(bif t0.Back==0 then some (decide (FL t0.Text<31))else some false:Option Bool)=some false:=by
      by_cases e0:t0.Back=0
      ·rw [show(t0.Back==0)=true by simpa using e0,Ae,BL,Af (by
       intro hh;exact hm ⟨e0,by omega⟩)]
      rw [show(t0.Back==0)=false by simpa using e0];rfl
     rw [hj];simp only [Aa,Ac];rw [C3 (by simp at h⊢;omega)];rfl
    obtain⟨l,f1,f2⟩:=fresh;refine⟨l,?_,f2⟩;rw [A8];simp only [hb];exact f1
   have hb:C0 s c (a:Int)=some (.inl (c++ [Bg.mk (b:Int) (z:Int) (bs [])],((a+z:Nat):Int))):=by
    simp only [C0];rw [BL,Ad (by omega),Ae,h1];simp only [Aa];rw [Ad (by omega),Ae,C3 (by simp;omega),CA (by omega) (by omega)];simp only [Aa];congr 3
   obtain⟨l,f1,f2⟩:=Ti s hs n (a+z) (c++ [Bg.mk (b:Int) (z:Int) (bs [])]) (by omega) h3 (by simp;omega) (nR g (.inr ⟨by simp;omega,by rw [d,j];simp;omega,by simp;omega,by simp;omega,DV _⟩)) (by
    rw [Od];unfold Vv;rw [A5 (by simp;omega),d];simp only [B6]
    exact iN (L s) z a b h3 h5 h6 h7)
   refine⟨l,?_,f2⟩;rw [A8];simp only [hb];exact f1
  have ea:a=(L s).length:=by omega
  refine⟨c,?_,g,by rw [d,ea,AR],by omega⟩;rw [A8];have hb:C0 s c (a:Int)=some (.inr c):=by
   simp only [C0];rw [BL,Af (by omega),Ac]
  simp only [hb]
theorem AET (s:ByteArray) (hs:(L s).length<=64):∃l,K4 s=some l/\okL l/\F8 l=L s/\l.length<=64:=by
 obtain⟨l,h1,h2⟩:=Ti s hs (L s).length 0 [] (by omega) (by omega) (by simp) (λi t h=>by simp at h) (by simp [F8]);refine⟨l,?_,h2⟩;unfold K4;rw [BL,Af (by omega),Ac];have h1':Aw (λq:List Bg×Int=>C0 s q.1 q.2) ([],0)=some l:=h1;rw [h1'];rfl
def LC (t:Bg):List UInt8:=if t.Back=0 then UInt8.ofNat (L t.Text).length::L t.Text else [UInt8.ofNat (128+t.Size).toNat,UInt8.ofNat t.Back.toNat]
theorem ABB {t:Bg} {a:List UInt8} (h:okT a t) (ho:a.length<=64):(LC t).length<=32:=by
 unfold LC
 rcases h with⟨h1,h2,h3,h4⟩|⟨h1,h2,h3,h4,h5⟩
 ·rw [A3 h1,Ay];omega
 rw [A5 (by omega)];simp
theorem AFZ {t:Bg} {a:List UInt8} (h:okT a t):a.length<=(Vv a t).length:=by
 unfold Vv;split
 ·simp
 rw [wB];omega
theorem ML {l:List Bg} (h:okL l):∀i,i<=l.length->(F8 (l.take i)).length<=(F8 l).length:=by
 have step:∀i,i<l.length->(F8 (l.take i)).length<=(F8 (l.take (i+1))).length:=λi hi=>by
  rw [Ax hi,Od];exact AFZ (h i _ (Ab hi))
 intro i hi;have:∀k,i+k<=l.length->(F8 (l.take i)).length<=(F8 (l.take (i+k))).length:=by
  intro k
  induction k with
  |zero=>intro _;exact A4 _
  |succ k ih=>
   intro hk;exact G0 (ih (by omega)) (step (i+k) (by omega))
 have:=this (l.length-i) (by omega);rw [show i+(l.length-i)=l.length by omega,AR]at this;exact this
theorem AHr (s:ByteArray) (hs:(L s).length<=64):∃l,okL l/\F8 l=L s/\l.length<=64/\((ES s=some (bs (122::l.flatMap LC),true))\/ES s=some (bs (114::L s),true)):=by
 obtain⟨l,h1,h2,h3,h4⟩:=AET s hs;refine⟨l,h2,h3,h4,?_⟩;unfold ES;rw [BL,Af (by omega),Ac,h1];simp only [Aa];obtain⟨b,q1,q2⟩:=Bk (body:=λq:ByteArray×Int=>ED l q.1 q.2) (λz i=>(z,i)) l.length (λi z=>L z=122::(l.take i).flatMap LC/\(L z).length<=1+32*i) (λz=>L z=122::l.flatMap LC/\(L z).length<=3000)
  (λz i hi hz=>by
   have hx:=Ab hi;have c:=h2 i _ hx;have a:=ML h2 i (by omega);rw [h3]at a;have d:=ABB c (by omega);have et:(l.take (i+1)).flatMap LC=(l.take i).flatMap LC++LC l[i]:=by rw [Ax hi,Qa];simp
   simp only [ED,AE,Ad hi,Ae,AC,hx,Aa];rw [ad1 (by omega)];refine .inl ?_
   rcases c with⟨k1,k2,k3,k4⟩|⟨k1,k2,k3,k4,k5⟩
   ·rw [show(l[i].Back==0)=true by simpa using k1,Ae,FT _ _ (by rw [Qf];omega)];simp only [Aa];rw [FT _ _ (by rw [D4,Ag,Qf];omega)];have hL:L (z++EI [IntKind.u8.wrap (FL l[i].Text)]++l[i].Text)=L z++LC l[i]:=by
     rw [D4,D4,Jn];unfold LC;rw [A3 k1,BL];have:IntKind.u8.wrap ((L l[i].Text).length:Int)=((L l[i].Text).length:Int):=by rw [IntKind.wrap_u8];omega
     rw [this];simp
    refine⟨_,rfl,?_,?_⟩
    ·rw [hL,hz.1,et];rfl
    rw [hL,Ag];omega
   rw [show(l[i].Back==0)=false by simp;omega,Ac,CA (by omega) (by omega),FT _ _ (by rw [M0];simp;omega)];have hL:L (z++EI [IntKind.u8.wrap (128+l[i].Size),IntKind.u8.wrap l[i].Back])=L z++LC l[i]:=by
    rw [D4,Jn];unfold LC;rw [A5 (by omega)];have e1:IntKind.u8.wrap (128+l[i].Size)=128+l[i].Size:=by rw [IntKind.wrap_u8];omega
    have e2:IntKind.u8.wrap l[i].Back=l[i].Back:=by rw [IntKind.wrap_u8];omega
    rw [e1,e2];rfl
   refine⟨_,rfl,?_,?_⟩
   ·rw [hL,hz.1,et];rfl
   rw [hL,Ag];omega)
  (λz hz=>⟨z,by simp only [ED,AE,Aq,Av,Ac],by rw [hz.1,AR],by omega⟩) (s:=bs [122]) ⟨by rw [DV];rfl,by rw [DV];simp⟩
 have q1':Aw (λq:ByteArray×Int=>ED l q.1 q.2) (bs [122],0)=some b:=q1;rw [q1'];simp only [Aa];have hb:b=bs (122::l.flatMap LC):=Ii (by rw [q2.1,DV])
 cases decide (ad ((L s).length:Int) 1<=FL b)with
 |false=>left;rw [hb];rfl
 |true=>
  right;simp only [Ae];rw [FT _ _ (by rw [DV];simp;omega)];simp only [Aa];have e:bs [114]++s=bs (114::L s):=Ii (by rw [D4,DV,DV];rfl);rw [e]
theorem UN (t:ByteArray) (ht:(L t).length<=10000):∀(l:List Bg) (a:Nat) (c:List Bg),(∀x∈l,∃o:List UInt8,okT o x/\o.length<=64)->(L t).drop a=l.flatMap LC->a<=(L t).length->c.length<=a->Aw (λq:List Bg×Int=>Ci t q.1 q.2) (c,(a:Int))=some (.inl (c++l))
 |[],a,c,hl,h,ha,ho=>by
  have:(L t).length=a:=by
   have:=Ca List.length h;rw [B8]at this;simp at this;omega
  rw [A8];have hb:Ci t c (a:Int)=some (.inr (.inl c)):=by
   simp only [Ci];rw [BL,Af (by omega),Ac]
  simp only [hb];rw [A0]
 |x::l,a,c,hl,h,ha,ho=>by
  obtain⟨o,m,p⟩:=hl x (by simp);rw [HC]at h;have d:=Ca List.length h;rw [B8,Ag]at d
  rcases m with⟨k1,k2,k3,k4⟩|⟨k1,k2,k3,k4,k5⟩
  ·have he:LC x=UInt8.ofNat (L x.Text).length::L x.Text:=by unfold LC;rw [A3 k1]
   rw [he]at h d;rw [Ay]at d;have f:a<(L t).length:=by omega
   have e:=Bh f;rw [h,BG]at e
   injection e with hx hd
   have i:(((L t)[a]).toNat:Int)=((L x.Text).length:Int):=by rw [<-hx,GO];omega
   have k:sub t ((a+1:Nat):Int) ((a+1+(L x.Text).length:Nat):Int)=some x.Text:=by
    rw [EY t (by omega) (by omega)];congr 1;apply Ii;rw [HG,<-hd,show a+1+(L x.Text).length-(a+1)=(L x.Text).length by omega,PU rfl]
   have hb:Ci t c (a:Int)=some (.inl (c++ [Bg.mk 0 0 x.Text],((a+1+(L x.Text).length:Nat):Int))):=by
    simp only [Ci];rw [BL,Ad (by omega),Ae,EX t f];simp only [Aa];rw [i,ND (by omega) (by omega),Af (by omega),Ac,ad1 (by omega),CA (by omega) (by omega),Af (by omega),Ac];rw [show((a+1:Nat):Int)+((L x.Text).length:Int)=((a+1+(L x.Text).length:Nat):Int) by omega,k];simp only [Aa];rw [C3 (by simp;omega)];rfl
   have j:Bg.mk 0 0 x.Text=x:=by
    cases x with
    |mk b z u=>simp only at k1 k2;rw [k1,k2]
   rw [j]at hb;rw [A8];simp only [hb];have:=UN t ht l (a+1+(L x.Text).length) (c++ [x]) (λy hy=>hl y (by simp [hy])) (by rw [<-CL,<-hd,ET rfl]) (by omega) (by simp;omega);rw [Ar,Cq]at this;exact this
  have he:LC x=[UInt8.ofNat (128+x.Size).toNat,UInt8.ofNat x.Back.toNat]:=by unfold LC;rw [A5 (by omega)]
  rw [he]at h d;simp only [Ay,Bn]at d;have f:a<(L t).length:=by omega
  have e:=Bh f;rw [h]at e;simp only [BG,AA]at e
  injection e with hx hd
  have g:=Bh (show a+1<(L t).length by omega);rw [<-hd]at g
  injection g with hx2 hd2
  have i:(((L t)[a]).toNat:Int)=128+x.Size:=by rw [<-hx,GO];omega
  have n:(((L t)[a+1]'(by omega)).toNat:Int)=x.Back:=by rw [<-hx2,GO];omega
  have hb:Ci t c (a:Int)=some (.inl (c++ [Bg.mk x.Back x.Size (bs [])],((a+2:Nat):Int))):=by
   simp only [Ci];rw [BL,Ad (by omega),Ae,EX t f];simp only [Aa];rw [i,ND (by omega) (by omega),Ad (by omega),Ae,CA (b:=2) (by omega) (by omega),Af (by omega),Ac,ad1 (by omega),EX t (by omega)];simp only [Aa];rw [n,ND (by omega) (by omega),Cz (by omega) (by omega),C3 (by simp;omega)];simp only [Aa];rw [show 128+x.Size-128=x.Size by omega];rfl
  have j:Bg.mk x.Back x.Size (bs [])=x:=by
   cases x with
   |mk b z u=>simp only at k5⊢;rw [show bs []=u from Ii (by rw [k5,DV])]
  rw [j]at hb;rw [A8];simp only [hb];have:=UN t ht l (a+2) (c++ [x]) (λy hy=>hl y (by simp [hy])) (by rw [show a+2=a+1+1 by omega];exact hd2.symm) (by omega) (by simp;omega);rw [Ar,Cq]at this;exact this
def GX (l:List UInt8):List Int:=l.map λc=>(c.toNat:Int)
theorem ACv (l:List UInt8):L (EI (GX l))=l:=by
 rw [Jn,GX,FK];have:((λn:Int=>UInt8.ofNat n.toNat)∘λc:UInt8=>(c.toNat:Int))=id:=by
  funext c;simp
 rw [this,SY]
theorem ADy (b:ByteArray):yL b=GX (L b):=rfl
theorem Zc (x:Bg) (b:1<=x.Back) (hs:0<=x.Size/\x.Size<=31):∀(n k:Nat) (a:List UInt8),(k:Int)+n=x.Size->x.Back<=(a.length:Int)->a.length+n<=1000->Aw (λq:List Int×Int=>Ed x q.1 q.2) (GX a,(k:Int))=some (GX (Uo n x.Back.toNat a))
 |0,k,a,hk,c,ho=>by
  rw [A8];have hb:Ed x (GX a) (k:Int)=some (.inr (GX a)):=by
   simp only [Ed];rw [Af (by omega),Ac]
  simp only [hb];rfl
 |n+1,k,a,hk,c,ho=>by
  have d:ln (GX a)=(a.length:Int):=by rw [Cf,GX,Bo]
  have e:gi (GX a) ((a.length:Int)-x.Back)=some (((a[a.length-x.Back.toNat]?).getD 0).toNat:Int):=by
   rw [show(a.length:Int)-x.Back=((a.length-x.Back.toNat:Nat):Int) by omega,AC,GX,Bi,Ab (by omega)];rfl
  have hb:Ed x (GX a) (k:Int)=some (.inl (GX (a++ [(a[a.length-x.Back.toNat]?).getD 0]),((k+1:Nat):Int))):=by
   simp only [Ed];rw [Ad (by omega),Ae,d,Cz (by omega) (by omega),e];simp only [Aa];rw [C3 (by simp [GX];omega),ad1 (by omega)];simp only [Aa,GX,CD,BF,AA4]
  rw [A8];simp only [hb];rw [Uo];exact Zc x b hs n (k+1) _ (by omega) (by simp;omega) (by simp;omega)
theorem zY (l:List Bg) (hl:l.length<=64) (a:okL l) (h64:(F8 l).length<=64):Aw (λq:List Int×Int=>Ee l q.1 q.2) ([],0)=some (.inl (GX (F8 l))):=by
 obtain⟨b,h1,h2⟩:=Bk (body:=λq:List Int×Int=>Ee l q.1 q.2) (λ(o:List UInt8) i=>(GX o,i)) l.length (λi o=>o=F8 (l.take i)) (λb=>b= .inl (GX (F8 l)))
  (λo i hi ho=>by
   have hx:=Ab hi;have hk:=a i _ hx;have hm:=ML a i (by omega);have d:=ML a (i+1) (by omega);have et:F8 (l.take (i+1))=Vv o l[i]:=by rw [Ax hi,Od,ho]
   rw [<-ho]at hk hm;rw [et]at d
   have c:∀q:List UInt8,ln (GX q)=(q.length:Int):=λq=>by rw [Cf,GX,Bo]
   simp only [Ee,AE,Ad hi,Ae,AC,hx,Aa];refine .inl ⟨Vv o l[i],?_,et.symm⟩
   rcases hk with⟨k1,k2,k3,k4⟩|⟨k1,k2,k3,k4,k5⟩
   ·rw [show(l[i].Back==0)=true by simpa using k1,Ae,BL,E6,Ad (by omega)];simp only [Aa,Al,Ac];rw [show(l[i].Size !=0)=false by simp [k2],ADy];simp only [Ac];have e1:ap 1 (GX o) (GX (L l[i].Text))=some (GX (Vv o l[i])):=by
     rw [C3 (by simp [GX];omega)];unfold Vv;rw [A3 k1];simp [GX]
    rw [e1];simp only [Aa,BM];rw [c,Af (by omega),Ac,ad1 (by omega)]
   rw [show(l[i].Back==0)=false by simp;omega,Ac,c,E6,Ad (by omega)];simp only [Aa,Al,Ac];rw [E6,Ad (by omega)];simp only [Aa,Al,Ac];have e:seq l[i].Text (bs [])=true:=by rw [Jc,A9];exact Ii (by rw [k5,DV])
   rw [e];simp only [Al,Ac];have e1:=Zc l[i] k1 ⟨by omega,k4⟩ l[i].Size.toNat 0 o (by omega) k2 (by omega);rw [show((0:Nat):Int)=0 from rfl]at e1;rw [e1];have e2:Uo l[i].Size.toNat l[i].Back.toNat o=Vv o l[i]:=by unfold Vv;rw [A5 (by omega)]
   rw [e2];simp only [Aa,BM]
   rw [c,Af (by omega),Ac,ad1 (by omega)])
  (λo ho=>⟨.inl (GX o),by simp only [Ee,AE,Aq,Av,Ac],by rw [ho,AR]⟩) (s:=[]) rfl
 rw [<-h2];exact h1
theorem AES (s:ByteArray) (hs:(L s).length<=64):∃z,ES s=some (z,true)/\Gh z=some (s,true)/\1<=(L z).length:=by
 obtain⟨l,h1,h2,h3,h4⟩:=AHr s hs;have fin:∀z:ByteArray,ES s=some (z,true)->((ES s).bind λv3=>(bif(!v3.2)then(some true)else(some (!(seq v3.1 z))):Option (Bool)).bind λj2=>bif j2 then(some ((bs []),false))else(some (s,true)))=some (s,true):=by
  intro z hz;rw [hz];have:seq z z=true:=by rw [Jc];simp
  simp only [Aa,Al,Ac,this]
 rcases h4 with h4|h4
 ·refine⟨_,h4,?_,by rw [DV];simp⟩;have hf:=fin _ h4;generalize hz:bs (122::l.flatMap LC)=z at h4 hf;have hL:L z=122::l.flatMap LC:=by rw [<-hz,DV]
  have d:(L z).length<=3000:=by
   have:∀m:List Bg,(∀x∈m,∃o:List UInt8,okT o x/\o.length<=64)->(m.flatMap LC).length<=32*m.length:=by
    intro m
    induction m with
    |nil=>intro _;simp
    |cons x m ih=>
     intro hm;obtain⟨o,f,g⟩:=hm x (by simp);have:=ABB f g;have:=ih (λy hy=>hm y (by simp [hy]));rw [HC,Ag,Ay];omega
   have:=this l (λx hx=>by
    obtain⟨i,hi,rfl⟩:=AI hx;have hm:=ML h1 i (by omega);rw [h2]at hm
    exact⟨_,h1 i _ (Ab hi),by omega⟩)
   rw [hL,Ay];omega
  unfold Gh;have a:1<=(L z).length:=by rw [hL];simp
  rw [BL,show(((L z).length:Int)==0)=false by rw [DU];omega,Ac];have b:sub z 1 ((L z).length:Int)=some (bs (l.flatMap LC)):=by
   rw [show(1:Int)=((1:Nat):Int)from rfl,EY z a (A4 _)];congr 1;apply Ii;rw [HG,DV,Ba (by rw [B8];omega),hL];rfl
  have c:sx z 0=some 122:=by
   rw [show(0:Int)=((0:Nat):Int)from rfl,EX z (i:=0) a];have:(L z)[0]?=some 122:=by rw [hL];rfl
   rw [Ab (by omega)]at this
   injection this with this
   rw [this];rfl
  rw [b,c];simp only [Aa];rw [show((122:Int)==122)=true from rfl];simp only [Ae];have h:(L (bs (l.flatMap LC))).length<=10000:=by rw [DV];rw [hL,Ay]at d;omega
  have e:=UN (bs (l.flatMap LC)) h l 0 [] (λx hx=>by
    obtain⟨i,hi,rfl⟩:=AI hx;have hm:=ML h1 i (by omega);rw [h2]at hm
    exact⟨_,h1 i _ (Ab hi),by omega⟩) (by rw [DV];rfl) (by omega) (by simp)
  rw [show((0:Nat):Int)=0 from rfl,AA]at e;have ht:Jt (bs (l.flatMap LC))=some (l,true):=by
   unfold Jt;rw [e];rfl
  have hp:Ga l=some (s,true):=by
   unfold Ga;rw [zY l h3 h1 (by rw [h2];omega),h2];simp only [Aa,BM];congr 2;apply Ii;rw [ACv]
  rw [ht];simp only [Aa];rw [hp];simp only [Aa,Al,Ac,BM];exact hf
 refine⟨_,h4,?_,by rw [DV];simp⟩;have hf:=fin _ h4;generalize hz:bs (114::L s)=z at h4 hf;have hL:L z=114::L s:=by rw [<-hz,DV]
 unfold Gh;have a:1<=(L z).length:=by rw [hL];simp
 rw [BL,show(((L z).length:Int)==0)=false by rw [DU];omega,Ac];have b:sub z 1 ((L z).length:Int)=some s:=by
  rw [show(1:Int)=((1:Nat):Int)from rfl,EY z a (A4 _)];congr 1;apply Ii;rw [HG,Ba (by rw [B8];omega),hL];rfl
 have c:sx z 0=some 114:=by
  rw [show(0:Int)=((0:Nat):Int)from rfl,EX z (i:=0) a];have:(L z)[0]?=some 114:=by rw [hL];rfl
  rw [Ab (by omega)]at this
  injection this with this
  rw [this];rfl
 rw [b,c];simp only [Aa];rw [show((114:Int)==122)=false from rfl];simp only [Ac,Aa,BM];exact hf
end Go.TI
