/- Worlds are sound for both sides alike. No condition; no program is in sight. -/
import Derived.Test.YtnlbnbfafkgldaaGreatSWP1
set_option linter.unusedVariables false
set_option linter.unusedSimpArgs false
namespace Go.TI
open Go
def m6 (l:List Vol) (v:Vol):List Vol:=(l.filter λw=>decide (w.Id<v.Id))++ [v]++l.filter λw=>decide (w.Id>v.Id)
theorem lB {l:List Vol} {v:Vol} (h:(l.map Vol.Id).Pairwise (·<·)) (hv:∀w∈l,w.Id≠v.Id) (hl:l.length<=3):Mu (KU AP) (l++ [v])=some (m6 l v):=by
 have hk:∀x,AP x=x.Id:=λ_=>rfl
 obtain⟨r,h1,h2,h3⟩:=iR AP (l++ [v]) (by simp;omega);have hs:srt AP (m6 l v):=by
  have:=Ue h v;rw[HW]at this
  exact this.imp λhh=>by rw[hk,hk];omega
 have:r=m6 l v:=by
  refine PS _ h2 hs λk=>?_
  rw[h3 k];unfold m6;rw[AO,AO,AO,Kl,Kl]
  rcases Int.lt_trichotomy k v.Id with e|e|e
  ·have e1:[v].filter (λx=>AP x==k)=[]:=by simp[hk];omega
   have e2:l.filter (λa=>(AP a==k)&&decide (a.Id>v.Id))=[]:=by
    rw[Cw];intro a _;simp[hk];omega
   have e3:l.filter (λa=>(AP a==k)&&decide (a.Id<v.Id))=l.filter (λa=>AP a==k):=by
    apply List.filter_congr;intro a _;rw[hk];by_cases q:a.Id=k
    ·rw[q];simp[e]
    simp[q]
   rw[e1,e2,e3];simp
  ·have e0:l.filter (λa=>AP a==k)=[]:=by
    rw[Cw];intro a ha;have:=hv a ha;simp[hk];omega
   have e2:l.filter (λa=>(AP a==k)&&decide (a.Id>v.Id))=[]:=by
    rw[Cw];intro a ha;have:=hv a ha;simp[hk];omega
   have e3:l.filter (λa=>(AP a==k)&&decide (a.Id<v.Id))=[]:=by
    rw[Cw];intro a ha;have:=hv a ha;simp[hk];omega
   rw[e0,e2,e3];simp
  have e1:[v].filter (λx=>AP x==k)=[]:=by simp[hk];omega
  have e2:l.filter (λa=>(AP a==k)&&decide (a.Id<v.Id))=[]:=by
   rw[Cw];intro a _;simp[hk];omega
  have e3:l.filter (λa=>(AP a==k)&&decide (a.Id>v.Id))=l.filter (λa=>AP a==k):=by
   apply List.filter_congr;intro a _;rw[hk];by_cases q:a.Id=k
   ·rw[q];simp[e]
   simp[q]
  rw[e1,e2,e3];simp
 rw[h1,this]
variable {s:Store} {r:List AE} {f:Flash} {y:AE} {α:Type} {k i n:Nat} {P:Int->Prop} {K:Ks} {x:α}
theorem XO {r:GZ} {q:Int} (h:Dd s) (hn:DI s r.Vol=some (-1)) (hv:∀v∈s.Vols,v.Id≠r.Vol) (h3:s.Vols.length≠3) (hq:(cond (decide (r.Arg>0)) ((DI s r.Arg).bind λv1=>cond (decide (v1<0)) ((D0 s).bind λv2=>some (.inr (v2,false))) ((gi s.Vols v1).bind λx1=>some (.inl x1.Root))) (some (.inl (-1))):Option (Int⊕(Store×Bool)))=some (.inl q)):EA s r=some (Store.mk (m6 s.Vols (Vol.mk r.Vol q)) s.Arena s.Next,true):=by
 have hl:=h.len;have c:=Kj h.ar (by have:=h.few;omega);have a:=FG s c (by omega);unfold EA;rw[hq,hn];simp only[Aa,B3];rw[Ae (by omega:¬(-1:Int)>=0),Ac,BT,show((s.Vols.length:Int)==3)=false by simp;omega];simp only[Aa,Ac];rw[a];simp only[Aa];have k1:=OW (body:=λq:List Vol×Int=>F6 s r q.1 q.2) s.Vols (λv=>decide (v.Id<r.Vol)) [] (by simp;omega)
  (λi v b hv ho=>by
   have hi:=(Ag.1 hv).1;simp only[F6,AD,Ab hi,Af,AA,hv,Aa];rw[ad1 (by omega)]
   cases decide (v.Id<r.Vol)with
   |true=>simp only[Af];rw[C4 (by simp;omega)];rfl
   |false=>rfl)
  (λb=>by simp only[F6,AD,An,As,Ac])
 rw[AC]at k1;rw[k1];simp only[Aa];have d:=Wr s.Vols r.Vol;rw[C4 (by simp;omega)];simp only[Aa];have k2:=OW (body:=λq:List Vol×Int=>F5 s r q.1 q.2) s.Vols (λv=>decide (v.Id>r.Vol)) ((s.Vols.filter λv=>decide (v.Id<r.Vol))++ [Vol.mk r.Vol q]) (by simp;omega)
  (λi v b hv ho=>by
   have hi:=(Ag.1 hv).1;simp only[F5,AD,Ab hi,Af,AA,hv,Aa];rw[ad1 (by omega)]
   cases decide (v.Id>r.Vol)with
   |true=>simp only[Af];rw[C4 (by simp;omega)];rfl
   |false=>rfl)
  (λb=>by simp only[F5,AD,An,As,Ac])
 rw[k2];rfl
theorem aP {r:GZ} (h:Dd s) (hb:Ri r=true) (hk:r.Kind=2):∃t ok,EA s r=some (t,ok)/\DB s r.Vol r.Arg=some (ok,t):=by
 have hl:=h.len;have c:=Kj h.ar (by have:=h.few;omega);have a:=FG s c (by omega);have hr:=hb;unfold Ri at hr;rw[hk]at hr;simp at hr
 have b:∀id,IW s id=DI s id:=λ_=>rfl
 have root:(EA s r=some (s,false)/\DB s r.Vol r.Arg=some (false,s))\/∃q,(cond (decide (r.Arg>0)) ((DI s r.Arg).bind λv1=>cond (decide (v1<0)) ((D0 s).bind λv2=>some (.inr (v2,false))) ((gi s.Vols v1).bind λx1=>some (.inl x1.Root))) (some (.inl (-1))):Option (Int⊕(Store×Bool)))=some (.inl q)/\(cond (r.Arg !=0) ((DI s r.Arg).bind λv1=>cond (decide (v1<0)) (some (.inr (false,s))) ((gi s.Vols v1).bind λx1=>some (.inl x1.Root))) (some (.inl (-1))):Option (Int⊕(Bool×Store)))=some (.inl q):=by
  unfold EA DB;by_cases h0:0<r.Arg
  ·rw[Ab (by omega:r.Arg>0),show(r.Arg !=0)=true by simp;omega,b];simp only[Af]
   rcases I5 s (by omega) r.Arg with⟨h1,h2⟩|⟨k,v,h1,h2,h3,_⟩
   ·left;rw[h1,a];exact⟨rfl,rfl⟩
   right;rw[h1];refine⟨v.Root,?_,?_⟩
   ·simp only[Aa];rw[Ae (by omega),Ac,AA,h2];rfl
   simp only[Aa];rw[Ae (by omega),Ac,AA,h2];rfl
  right;rw[Ae (by omega:¬r.Arg>0),show(r.Arg !=0)=false by simp;omega];exact⟨-1,rfl,rfl⟩
 rcases root with⟨g1,g2⟩|⟨q,g1,g2⟩
 ·exact⟨s,false,g1,g2⟩
 rcases I5 s (by omega) r.Vol with⟨h1,h2⟩|⟨k,v,h1,h2,h3,_⟩
 ·by_cases h3:s.Vols.length=3
  ·refine⟨s,false,?_,?_⟩
   ·unfold EA;rw[g1,h1];simp only[Aa,B3];rw[Ae (by omega:¬(-1:Int)>=0),Ac,BT,h3];simp only[Aa];rw[a];rfl
   unfold DB;rw[b,b,g2,h1];simp only[Aa,B3];rw[Ae (by omega:¬(-1:Int)>=0),Ac,BT,h3];rfl
  refine⟨_,true,XO h h1 h2 h3 g1,?_⟩;unfold DB;rw[b,b,g2,h1];simp only[Aa,B3];rw[Ae (by omega:¬(-1:Int)>=0),Ac,BT,Ae (by omega:¬(s.Vols.length:Int)>=3)];simp only[Aa,Ac];rw[C4 (by simp;omega)];simp only[Aa];rw[lB h.asc (v:=Vol.mk r.Vol q) h2 hl];rfl
 refine⟨s,false,?_,?_⟩
 ·unfold EA;rw[g1,h1];simp only[Aa,B3];rw[Ab (by omega:(k:Int)>=0),Af];simp only[Aa];rw[a];rfl
 unfold DB;rw[b,b,g2,h1];simp only[Aa,B3];rw[Ab (by omega:(k:Int)>=0),Af];rfl
theorem fG (h:Dd s) (r:GZ):T3 s r=ON s r:=by
 have hl:=h.len;have f:=Kj h.ar (by have:=h.few;omega);have b:=FG s f (by omega);have d:=Ol s f (by omega)
 have j:∀id,IW s id=DI s id:=λ_=>rfl
 have g:OZ r=some (Ri r):=by
  obtain⟨v,a1,a2,_⟩:=bA r;rw[OM]at a1;rw[a2,<-a1]
 have a:=Vb h r;unfold T3;rw[d,ZX h,g];simp only[Aa,Ap,Ac]
 cases hb:Ri r with
 |false=>
  unfold IV JJ at a;rw[hb]at a;rw[a];simp only[AM,Af,Aa]
 |true=>
  simp only[Ap,Ac];have hr:=hb;unfold Ri at hr;unfold ON at a⊢;rw[SE h,OM,hb]at a⊢;simp only[Aa,Ap,Ac]at a⊢;unfold L9
  cases k1:(r.Kind==1)with
  |true=>
   have e1:r.Kind=1:=by simpa using k1
   rw[e1]at hr;simp at hr;simp only[Af,Aa,Ap,Ac];have hj:(cond (r.Arg==0) (some 1) (some r.Arg):Option Int)=some (if 1>r.Arg then 1 else r.Arg):=by
    by_cases e:r.Arg=0
    ·rw[Ar (by omega),e];rfl
    rw[Au (by omega),show(r.Arg==0)=false by simpa using e];rfl
   rw[hj];simp only[Aa];have hP:Dd (Store.mk [] (Arena.mk []) (if 1>r.Arg then 1 else r.Arg)):=by
    refine⟨⟨by simp,rfl,?_,by simp,by simp,by simp[AR],by simp[AR],by simp⟩,by simp⟩;show 1<=(if 1>r.Arg then 1 else r.Arg)/\(if 1>r.Arg then 1 else r.Arg)<=1000000000;split<;>omega
   rw[KJ hP.toStoreR,TW hP];rfl
  |false=>
   simp only[Ac];rw[k1]at hr a;simp only[Ac]at a
   cases k2:(r.Kind==2)with
   |true=>
    rw[k2]at a;simp only[Af]at a⊢;obtain⟨t,ok,c1,c2⟩:=aP h hb (by simpa using k2);rw[c1]at a⊢;rw[c2];simp only[Aa]at a⊢;unfold IV at a
    cases ok with
    |false=>
     split at a
     ·injection a with a
      injection a with a _
      simp only[AM,Af];rw[a]
     obtain⟨t',q,_⟩:=a
     injection q with q
     injection q with _ q
     cases q
    |true=>
     split at a
     ·injection a with a
      injection a with _ q
      cases q
     obtain⟨t',q,hP,_⟩:=a
     injection q with q
     injection q with q _
     subst q;simp only[Ap,Ac];have l:Store.mk t.Vols (Arena.mk t.Arena.Knots) t.Next=t:=rfl;rw[l,KJ hP.toStoreR,TW hP];rfl
   |false=>
    simp only[Ac];rw[k2]at hr;rw[j]
    rcases I5 s (by omega) r.Vol with⟨h1,h2⟩|⟨k,v,h1,h2,h3,_⟩
    ·rw[h1];simp only[Aa];rw[Ab (by omega:(-1:Int)<0),Af];simp only[Aa,Af,AM];rw[b];rfl
    rw[h1];simp only[Aa];rw[Ae (by omega:¬(k:Int)<0),Ac];simp only[Aa];have hm:=A6 h2;have m:=(Ag.1 h2).1
    cases hc:(r.Chunk==1000000000)with
    |true=>
     simp only[Af,Aa,AM];rw[b];rfl
    |false=>
     simp only[Ac];have n:r.Chunk≠1000000000:=by simpa using hc
     rw[b];simp only[Aa]
     cases k3:(r.Kind==3)with
     |true=>
      simp only[Af];rw[BT,ad1 (by omega)];have d1:dr s.Vols 0 (k:Int)=some (s.Vols.take k):=by
       unfold dr;rw[Ar ⟨by omega,by omega,by omega⟩];simp
      have d2:dr s.Vols ((k+1:Nat):Int) (s.Vols.length:Int)=some (s.Vols.drop (k+1)):=by
       unfold dr;rw[Ar ⟨by omega,by omega,by omega⟩,AZ,AZ,AT (by simp)]
      rw[d1,d2];simp only[Aa];rw[IK (by simp;omega)];simp only[Aa];rw[C4 (by simp;omega),PJ h.asc h2,h3];simp only[Aa,Ap,Ac];have hR:=nK h r.Vol;rw[Hh hR,KJ hR]
     |false=>
      simp only[Ac];rw[k3]at hr;have ha:0<=r.Arg/\r.Arg<16/\0<=r.Chunk/\r.Chunk<=1000000000:=by
       cases k4:(r.Kind==4)with
       |true=>rw[k4]at hr;simp at hr;omega
       |false=>rw[k4]at hr;simp at hr;omega
      obtain⟨t,ht⟩:∃t:Nat,r.Arg=(t:Int):=⟨_,(Di ha.1).symm⟩;have c:=h.root _ (AG.2 ⟨v,hm,rfl⟩);rw[AA,h2];simp only[Aa];rw[ht,Uo _ (by have:=h.few;omega) h.ar c (by omega) ha.2.2.1,d7 _ (by have:=h.few;omega) h.ar c (by omega) ha.2.2.1];simp only[Aa,Ap,Ac];rw[EO,DZ (by omega) (by omega)];have hR:=qS h h2 (show t<16 by omega) ha.2.2.1 (show r.Chunk+1<=1000000000 by omega);by_cases i:r.Chunk>=s.Next
      ·rw[Ab i,Ar (by omega:r.Chunk+1>s.Next)];rw[show max s.Next (r.Chunk+1)=r.Chunk+1 by omega]at hR;simp only[Af];rw[Hh hR,KJ hR]
      rw[Ae i,Au (by omega:¬r.Chunk+1>s.Next)];rw[show max s.Next (r.Chunk+1)=s.Next by omega]at hR;simp only[Ac];rw[Hh hR,KJ hR]
noncomputable def gF (t:ByteArray):Option Page:=match H6 t with
 |some (p,true)=>some p
 |_=>none
noncomputable def pg (i k:Int) (x:Leaf):List AE:=if x.Is=1 then(match gF x.Text with
 |some p=>[AE.mk i k p]
 |none=>[])else []
noncomputable def gL (i:Int):Int->List Leaf->List AE
 |_,[]=>[]
 |k,x::l=>pg i k x++gL i (k+1) l
noncomputable def dG:Int->List Block->List AE
 |_,[]=>[]
 |i,b::l=>gL i 0 b.Leaves++dG (i+1) l
theorem gK (i:Int):∀(k:Int) (l m:List Leaf),gL i k (l++m)=gL i k l++gL i (k+l.length) m
 |k,[],m=>by simp[gL]
 |k,x::l,m=>by
  rw[Ci,gL,gK i (k+1) l m,gL,Av,AH];congr 3;omega
theorem gM:∀(i:Int) (l m:List Block),dG i (l++m)=dG i l++dG (i+l.length) m
 |i,[],m=>by simp[dG]
 |i,x::l,m=>by
  rw[Ci,dG,gM (i+1) l m,dG,Av,AH];congr 3;omega
theorem UF {l:List α} (h:l[k]?=some x):l=l.take k++x::l.drop (k+1)/\(l.take k).length=k:=by
 have hk:=(Ag.1 h).1;have h2:=BP hk;rw[(Ag.1 h).2]at h2;exact⟨by rw[<-h2,Bj],by rw[AK];omega⟩
def sD (x:Leaf):Prop:=(x.Is=0/\L x.Text=[])\/(x.Is=1/\1<=(L x.Text).length/\(L x.Text).length<=120)\/(x.Is=2/\(L x.Text).length<=120)
def kN (l:List Leaf):Prop:=∀(k:Nat) x y,l[k]?=some x->l[k+1]?=some y->x.Is=0->y.Is=0
structure V0 (b:Block):Prop where
 four:b.Leaves.length=4
 wear:0<=b.Wear/\b.Wear<=1000000000
 leaf:∀x∈b.Leaves,sD x
 turn:kN b.Leaves
structure Ir (f:Flash):Prop where
 n:3<=f.Blocks.length/\f.Blocks.length<=10
 blk:∀b∈f.Blocks,V0 b
theorem mR (x:Leaf):∃v,OK x=some v/\(v=true↔sD x):=by
 unfold OK sD;by_cases h0:x.Is=0
 ·rw[show(x.Is==0)=true by simpa using h0];refine⟨_,rfl,?_⟩;rw[NK,A4];constructor
  ·intro h;exact .inl ⟨h0,by rw[h];rfl⟩
  rintro(h|h|h)
  ·exact R9 (by rw[h.2];rfl)
  ·omega
  omega
 rw[show(x.Is==0)=false by simpa using h0];simp only[Ac];by_cases h1:x.Is=1
 ·rw[show(x.Is==1)=true by simpa using h1,IE,CX];refine⟨_,rfl,?_⟩;rw[A4];omega
 rw[show(x.Is==1)=false by simpa using h1];simp only[Ac];by_cases h2:x.Is=2
 ·rw[show(x.Is==2)=true by simpa using h2,CX];refine⟨_,rfl,?_⟩;rw[A4];omega
 rw[show(x.Is==2)=false by simpa using h2];exact⟨_,rfl,by simp only[CN,false_iff];omega⟩
theorem Ta (f:Flash) (h:Ys f):∃v,I9 f=some v/\(v=true↔Ir f):=by
 unfold I9;obtain⟨r,h1,h2⟩:=Bx (body:=λs:Int=>FL f s) (λ(_:Unit) i=>i) f.Blocks.length (λi _=>∀j b,j<i->f.Blocks[j]?=some b->V0 b) (λr=>(r= .inr false/\¬∀b∈f.Blocks,V0 b)\/r= .inl ()/\∀b∈f.Blocks,V0 b)
  (λ_ i hi hs=>by
   have hx:=Ad hi;have hm:f.Blocks[i]∈f.Blocks:=Bm hi;have m:=h.2 _ hm;have o:=h.1;simp only[FL,AD,Ab hi,Af,AA,hx,Aa];by_cases h4:f.Blocks[i].Leaves.length=4
   ·rw[show(ln f.Blocks[i].Leaves !=4)=false by simp[ln,h4]];simp only[Ac];rw[IE];simp only[Aa];by_cases hw:0<=f.Blocks[i].Wear/\f.Blocks[i].Wear<=1000000000
    ·rw[Ab hw];simp only[Ap,Ac];obtain⟨q,q1,q2⟩:=Bx (body:=λs:Int=>FK f.Blocks[i] s) (λ(_:Unit) i=>i) f.Blocks[i].Leaves.length
      (λk _=>(∀j x,j<k->f.Blocks[i].Leaves[j]?=some x->sD x)/\∀(j:Nat) x y,j+1<k->f.Blocks[i].Leaves[j]?=some x->f.Blocks[i].Leaves[j+1]?=some y->x.Is=0->y.Is=0)
      (λr=>(r= .inr (.inr (.inr false))/\¬((∀x∈f.Blocks[i].Leaves,sD x)/\kN f.Blocks[i].Leaves))\/r= .inl ()/\(∀x∈f.Blocks[i].Leaves,sD x)/\kN f.Blocks[i].Leaves)
      (λ_ k hk d=>by
       have g:=Ad hk;simp only[FK,AD,Ab hk,Af,AA,g,Aa];obtain⟨v,v1,v2⟩:=mR f.Blocks[i].Leaves[k];rw[v1];simp only[Aa]
       cases hv:v with
       |false=>
        refine .inr ⟨_,rfl,.inl ⟨rfl,λhh=>?_⟩⟩;have:=v2.2 (hh.1 _ (Bm hk));rw[hv]at this;cases this
       |true=>
        have l:=v2.1 hv;simp only[Ap,Ac];by_cases p:k=0
        ·rw[Ae (by omega)];simp only[Ac,Aa];rw[ad1 (by omega)];refine .inl ⟨(),rfl,λj x hj a=>?_,λj x y hj=>by omega⟩;obtain rfl:j=k:=by omega
         rw[g]at a
         injection a with a
         rw[<-a];exact l
        rw[Ab (by omega)];simp only[Af];rw[CB (by omega) (by omega),show(k:Int)-1=((k-1:Nat):Int) by omega,AA,Ad (by omega)];simp only[Aa];have good:(f.Blocks[i].Leaves[k-1].Is=0->f.Blocks[i].Leaves[k].Is=0)->(∀j x,j<k+1->f.Blocks[i].Leaves[j]?=some x->sD x)/\∀(j:Nat) x y,j+1<k+1->f.Blocks[i].Leaves[j]?=some x->f.Blocks[i].Leaves[j+1]?=some y->x.Is=0->y.Is=0:=by
         intro hg;refine⟨λj x hj a=>?_,λj x y hj a c h0=>?_⟩
         ·by_cases e:j=k
          ·subst e;rw[g]at a
           injection a with a
           rw[<-a];exact l
          exact d.1 j x (by omega) a
         by_cases e:j+1=k
         ·obtain rfl:j=k-1:=by omega
          rw[Ad (by omega)]at a
          injection a with a
          rw[show k-1+1=k by omega,g]at c
          injection c with c
          rw[<-c];exact hg (by rw[a];exact h0)
         exact d.2 j x y (by omega) a c h0
        cases e0:(f.Blocks[i].Leaves[k-1].Is==0)with
        |false=>
         simp only[Ac,Aa];rw[ad1 (by omega)];exact .inl ⟨(),rfl,good (λhh=>by rw[hh]at e0;cases e0)⟩
        |true=>
         simp only[Af,Aa]
         cases e1:(f.Blocks[i].Leaves[k].Is !=0)with
         |false=>
          simp only[Ac];rw[ad1 (by omega)];exact .inl ⟨(),rfl,good (λ_=>by simpa using e1)⟩
         |true=>
          refine .inr ⟨_,rfl,.inl ⟨rfl,λhh=>?_⟩⟩;have:=hh.2 (k-1) _ _ (Ad (by omega)) (by rw[show k-1+1=k by omega];exact g) (by simpa using e0)
          simp[this]at e1)
      (λ_ d=>⟨_,by simp only[FK,AD,An,As,Ac],.inr ⟨rfl,λx a=>by
       obtain⟨j,hj,rfl⟩:=AI a
       exact d.1 j _ hj (Ad hj),λj x y a c=>d.2 j x y (Ag.1 c).1 a c⟩⟩) (s:=()) ⟨λj x hj=>by omega,λj x y hj=>by omega⟩
     rw[q1]
     rcases q2 with⟨rfl,q2⟩|⟨rfl,q2,q3⟩
     ·exact .inr ⟨_,rfl,.inl ⟨rfl,λhh=>q2 ⟨(hh _ hm).leaf,(hh _ hm).turn⟩⟩⟩
     simp only[Aa,B3];rw[ad1 (by omega)];refine .inl ⟨(),rfl,λj b hj hb=>?_⟩;by_cases e:j=i
     ·subst e;rw[hx]at hb
      injection hb with hb
      rw[<-hb];exact⟨h4,hw,q2,q3⟩
     exact hs j b (by omega) hb
    rw[Ae hw];exact .inr ⟨_,rfl,.inl ⟨rfl,λhh=>hw (hh _ hm).wear⟩⟩
   rw[show(ln f.Blocks[i].Leaves !=4)=true by simp[ln];omega]
   exact .inr ⟨_,rfl,.inl ⟨rfl,λhh=>h4 (hh _ hm).four⟩⟩)
  (λ_ hs=>⟨_,by simp only[FL,AD,An,As,Ac],.inr ⟨rfl,λb hb=>by
   obtain⟨j,hj,rfl⟩:=AI hb
   exact hs j _ hj (Ad hj)⟩⟩) (s:=()) (λj b hj=>by omega)
 rw[h1]
 rcases h2 with⟨rfl,h2⟩|⟨rfl,h2⟩
 ·exact⟨_,rfl,by simp only[CN,false_iff];exact λhh=>h2 hh.blk⟩
 simp only[Aa,B3];rw[IE,BT];refine⟨_,rfl,?_⟩;rw[A4];constructor
 ·intro hh;exact⟨by omega,h2⟩
 intro hh;have:=hh.n;omega
theorem Ir.cap (h:Ir f):Ys f:=⟨by have:=h.n;omega,λb hb=>by rw[(h.blk b hb).four];omega⟩
theorem Ir.text (h:Ir f):∀b∈f.Blocks,∀x∈b.Leaves,(L x.Text).length<=120:=λb hb x hx=>by
 rcases(h.blk b hb).leaf x hx with h|h|h
 ·rw[h.2];simp
 ·exact h.2.2
 exact h.2
theorem WX (h:Ir f):I9 f=some true:=by
 obtain⟨v,h1,h2⟩:=Ta f h.cap;rw[h1,h2.2 h]
theorem Ir.few (h:Ir f):nl f.Blocks<=40:=by
 have:∀l:List Block,(∀b∈l,V0 b)->nl l=4*l.length:=by
  intro l
  induction l with
  |nil=>intro _;rfl
  |cons b l ih=>
   intro hh;have h1:=ih (λx hx=>hh x (by simp[hx]));have h2:=(hh b (by simp)).four;unfold Go.TI.nl at h1⊢;rw[BO,JN,AH,h1,h2];omega
 rw[this _ h.blk];have:=h.n;omega
def Xs (y:AE):Int:=y.Page.Seq
def SR (l r:List AE):Prop:=srt Xs r/\BK Xs l r
theorem SR.mem {l:List AE} (h:SR l r):y∈r↔y∈l:=h.2.mem
theorem SR.add {A B r:List AE} (h:SR (A++B) r) (hy:∀x∈r,Xs x<Xs y):SR (A++ [y]++B) (r++ [y]):=by
 refine⟨?_,λk=>?_⟩
 ·unfold srt;rw[Bs];refine⟨h.1,Kv _ _,λx hx z hz=>?_⟩;rw[A7]at hz;subst hz;have:=hy x hx;omega
 have h2:=h.2 k;rw[AO]at h2;rw[AO,AO,AO];by_cases e:Xs y=k
 ·have e1:∀x∈A++B,¬(Xs x==k)=true:=λx hx=>by
   have:=hy x (h.mem.2 hx);simp;omega
  have a0:A.filter (λx=>Xs x==k)=[]:=Cw.2 λx hx=>e1 x (by simp[hx])
  have b0:B.filter (λx=>Xs x==k)=[]:=Cw.2 λx hx=>e1 x (by simp[hx])
  rw[a0,b0]at h2⊢;rw[h2];simp
 have:[y].filter (λx=>Xs x==k)=[]:=BZ (by simpa using e);rw[this,Aw,Aw];exact h2
theorem lP {t:ByteArray} {p:Page} (h:H6 t=some (p,true)):gF t=some p:=by unfold gF;rw[h]
theorem j8 (h:Ir f):Aq (λs:List AE×Int=>D5 f s.1 s.2) ([],0)=some (dG 0 f.Blocks):=by
 have hn:=h.n;obtain⟨X,h1,h2⟩:=Bx (body:=λs:List AE×Int=>D5 f s.1 s.2) (λs i=>(s,i)) f.Blocks.length (λi o=>o=dG 0 (f.Blocks.take i)/\o.length<=4*i) (λb=>b=dG 0 f.Blocks)
  (λa i hi hs=>by
   obtain⟨ho,m⟩:=hs;have hb:f.Blocks[i]?=some f.Blocks[i]:=Ad hi;have hm:f.Blocks[i]∈f.Blocks:=Bm _;have h4:=(h.blk _ hm).four;refine .inl ?_;simp only[D5,AD,Ab hi,Af];obtain⟨u,q1,q2,q3⟩:=Bx (body:=λs:List AE×Int=>ED f (i:Int) s.1 s.2) (λs i=>(s,i)) f.Blocks[i].Leaves.length (λk u=>u=a++gL i 0 (f.Blocks[i].Leaves.take k)/\u.length<=a.length+k) (λu=>u=a++gL i 0 f.Blocks[i].Leaves/\u.length<=a.length+4)
    (λu k hk hu=>by
     obtain⟨g,q⟩:=hu;have hx:f.Blocks[i].Leaves[k]?=some f.Blocks[i].Leaves[k]:=Ad hk;have j:f.Blocks[i].Leaves[k]∈f.Blocks[i].Leaves:=Bm _
     have l:∀y:AE,ap 72 u [y]=some (u++ [y]):=λy=>C4 (by simp only[Aj];omega)
     have c:∀z,gL i 0 (f.Blocks[i].Leaves.take (k+1))=gL i 0 (f.Blocks[i].Leaves.take k)++z↔pg i k f.Blocks[i].Leaves[k]=z:=by
      intro z;rw[Gl,hx,gK];simp only[Option.toList,gL,Aw,AK];rw[show(0:Int)+((min k f.Blocks[i].Leaves.length:Nat):Int)=(k:Int) by omega];exact⟨λe=>List.append_cancel_left e,λe=>by rw[e]⟩
     refine .inl ?_;obtain⟨p,ok,r1,r2,r3,r4⟩:=HR f.Blocks[i].Leaves[k].Text (by have:=h.text _ hm _ j;omega);simp only[ED,AD,Ab hk,Af,AA,hb,Aa,SY f h.cap hb hx,l]
     cases d:f.Blocks[i].Leaves[k].Is==1 with
     |false=>
      obtain⟨p',ok',t1,_⟩:=HR (bs []) (by rw[Mi];simp);simp only[Ac,Aa,t1];refine⟨u,by rw[ad1 (by omega)],?_,by omega⟩;rw[g,(c []).2 (by unfold pg;rw[Au (by simpa using d)]),Aw]
     |true=>
      simp only[Af,Aa,r1]
      cases ok with
      |false=>
       refine⟨u,by simp only[Ac];rw[ad1 (by omega)],?_,by omega⟩;rw[g,(c []).2 (by unfold pg gF;rw[Ar (by simpa using d),r1]),Aw]
      |true=>
       refine⟨u++ [AE.mk i k p],by simp only[Af];rw[ad1 (by omega)],?_,by simp only[Ah,Aj];omega⟩
       rw[g,(c [AE.mk i k p]).2 (by unfold pg;rw[Ar (by simpa using d),lP r1]),Av])
    (λu hu=>⟨u,by simp only[ED,AA,hb,Aa,AD,An,As,Ac],by rw[hu.1,AT (A5 _)],by omega⟩) (s:=a) ⟨by simp[gL],by omega⟩
   rw[q1];simp only[Aa];rw[ad1 (by omega)];refine⟨u,rfl,?_,by omega⟩;rw[q2,ho,Gl,hb,gM];simp only[Option.toList,dG,Aw,AK]
   rw[show(0:Int)+((min i f.Blocks.length:Nat):Int)=(i:Int) by omega])
  (λa hs=>⟨a,by simp only[D5,AD,An,As,Ac],by rw[hs.1,AT (A5 _)]⟩) (s:=[]) ⟨by simp[dG],by simp⟩
 rw[h2]at h1;exact h1
theorem nZ (h:Ir f):∃r,fB f r/\SR (dG 0 f.Blocks) r:=by
 have hT:∀b∈f.Blocks,∀x∈b.Leaves,(L x.Text).length<=1048576:=λb hb x hx=>by have:=h.text b hb x hx;omega
 have hn:=h.few;obtain⟨r,h1,h2,h3,h4,h5⟩:=Vu f h.cap hT (by omega);refine⟨r,⟨h1,h2,by omega,h4,λy hy=>ZB hT (h4 y hy),h5⟩,h5,?_⟩;obtain⟨X,c1,_,c3,_⟩:=Qm f h.cap hT (by omega);have hX:X=dG 0 f.Blocks:=by
  rw[j8 h]at c1
  injection c1 with c1
  exact c1.symm
 obtain⟨r',s1,s2,s3⟩:=Wo Bz X (by omega);have:Ge f=some r':=by
  unfold Ge;obtain⟨X',c1',c2',_⟩:=Qm f h.cap hT (by omega);rw[c1]at c1'
  injection c1' with c1'
  rw[c2',<-c1',Aa,s1];rfl
 rw[h2]at this
 injection this with this
 rw[this,<-hX];exact s3
def wK (l:List Leaf):Nat:=(l.takeWhile λx=>x.Is !=0).length
def vT (f:Flash) (b l:Int) (t:ByteArray):Prop:=∃x,gi f.Blocks b=some x/\x.Bad=false/\l=(wK x.Leaves:Int)/\wK x.Leaves<4/\1<=(L t).length/\(L t).length<=120
def vH (f:Flash) (b l:Int) (y:Leaf):Flash:=Flash.mk (match gi f.Blocks b with
 |some x=>si f.Blocks b (Block.mk x.Bad x.Wear (si x.Leaves l y))
 |none=>f.Blocks)
def wA (f:Flash) (b:Int):Prop:=∃x,gi f.Blocks b=some x/\x.Bad=false/\x.Wear≠1000000000
def tQ (f:Flash) (b:Int):Flash:=Flash.mk (match gi f.Blocks b with
 |some x=>si f.Blocks b (Block.mk false (x.Wear+1) sV)
 |none=>f.Blocks)
def rJ (f:Flash) (s:Step):Prop:=(s.Kind=1/\vT f s.Block s.Leaf s.Text)\/(s.Kind=2/\wA f s.Block)
def tS (f:Flash) (s:Step):Flash:=if s.Kind=1 then vH f s.Block s.Leaf (Leaf.mk 1 s.Text)else tQ f s.Block
theorem aV (u:ByteArray) (hu:(L u).length<=20000) (a:Nat) (ha:a<=(L u).length):∃n c,CU (DK.mk u (a:Int) false)=some (n,c)/\c.text_=u/\(c.bad_=true\/c.bad_=false/\∃b:Nat,c.at_=b/\a<b/\b<=(L u).length)/\(c.bad_=true->c.at_=a):=by
 obtain⟨r,h1,_,h2⟩:=GJ u (a:Int) (by omega) ⟨by omega,by omega⟩;rw[Jz u _ hu h1]
 rcases h2 with⟨e1,e2,e3⟩|⟨e1,a',b,n,k1,k2,k3,k4,k5,_⟩
 ·rw[e1];exact⟨_,_,rfl,rfl,.inl rfl,λ_=>rfl⟩
 rw[e1];refine⟨_,_,rfl,rfl,.inr ⟨rfl,b,k2,by omega,k5⟩,λhh=>by cases hh⟩
theorem gE (t:ByteArray) (ht:(L t).length<=20000):∀(n a:Nat) (b:List GZ),(L t).length-a<=n->a<=(L t).length->b.length<=a->∃r,Aq (λs:List GZ×ByteArray×Int×Bool=>EP t s.1 s.2.1 s.2.2.1 s.2.2.2) (b,t,(a:Int),false)=some r/\(r= .inr ([],false)\/∃l:List GZ,r= .inl l/\l.length<=(L t).length)
 |n,a,b,hn,ha,ho=>by
  rw[A9];simp only[EP];rw[CX];by_cases c:a<(L t).length
  ·rw[Ab (by omega:(a:Int)<((L t).length:Int))];simp only[Af,Aa,AM];rw[I1 t c,ad1 (by omega)];simp only[Aa];obtain⟨n1,c1,v1,t1,h1,z1⟩:=aV t ht (a+1) (by omega);rw[v1];simp only[Aa]
   rcases h1 with e1|⟨e1,b1,k1,k2,k3⟩
   ·
    have hz:=z1 e1;obtain⟨c1t,c1a,c1b⟩:=c1;simp only at t1 e1 hz;subst t1 e1 hz;rw[FO _ _ ht ⟨by omega,by omega⟩];exact⟨_,rfl,.inl rfl⟩
   obtain⟨c1t,c1a,c1b⟩:=c1;simp only at t1 e1 k1;subst t1 e1 k1;obtain⟨n2,c2,v2,t2,h2,z2⟩:=aV c1t ht b1 k3;rw[v2];simp only[Aa]
   rcases h2 with e2|⟨e2,b2,m1,m2,m3⟩
   ·rw[e2];exact⟨_,rfl,.inl rfl⟩
   rw[e2];simp only[Ac];rw[OM];simp only[Aa]
   cases Ri _ with
   |false=>exact⟨_,rfl,.inl rfl⟩
   |true=>
    simp only[Ap,Ac];rw[C4 (by simp;omega),t2,m1];simp only[Aa]
    match n,hn with
    |n+1,hn=>exact gE c1t ht n b2 _ (by omega) m3 (by simp;omega)
    |0,hn=>omega
  rw[Ae (by omega)];exact⟨_,rfl,.inr ⟨_,rfl,by omega⟩⟩
noncomputable def lO (t:ByteArray):Option (List GZ):=match H5 t with
 |some (l,true)=>some l
 |_=>none
theorem Vx (t:ByteArray) (ht:(L t).length<=20000):∃l ok,H5 t=some (l,ok)/\lO t=(if ok=true then some l else none)/\l.length<=20000:=by
 obtain⟨r,h1,h2⟩:=gE t ht (L t).length 0 [] (by omega) (by omega) (by simp);unfold lO H5;have h1':Aq (λs:List GZ×ByteArray×Int×Bool=>EP t s.1 s.2.1 s.2.2.1 s.2.2.2) ([],t,0,false)=some r:=h1;rw[h1']
 rcases h2 with rfl|⟨l,rfl,h3⟩
 ·exact⟨[],false,rfl,rfl,by simp⟩
 exact⟨l,true,rfl,rfl,by omega⟩
def kH (t a b:Int) (y:AE):Bool:=y.Page.Kind==2&&(y.Page.Tx==t&&(y.Page.Part==a&&(!decide (a>0)||y.Page.Count==b)))
def YB (r:List AE) (t a b:Int):Option AE:=r.find? (kH t a b)
theorem iC (l:List α) (p:α->Bool) (h:∀j x,j<i->l[j]?=some x->p x=false) (hx:l[i]?=some x) (hp:p x=true):l.find? p=some x:=by
 obtain⟨h1,h2⟩:=UF hx;rw[h1,List.find?_append];have:(l.take i).find? p=none:=by
  rw[Pv];intro y hy;obtain⟨j,hj,rfl⟩:=AI hy;rw[AK]at hj;rw[HX];rw[h j _ (by omega) (Ad _)];simp
 rw[this,Option.none_or,List.find?_cons_of_pos hp]
theorem iB (l:List α) (p:α->Bool) (h:∀(j:Nat) x,l[j]?=some x->p x=false):l.find? p=none:=by
 rw[Pv];intro y hy;obtain⟨j,hj,rfl⟩:=AI hy;rw[h j _ (Ad hj)];simp
structure He (r:List AE):Prop where
 len:r.length<=1048576
 text:∀y∈r,(L y.Page.Text).length<=90
 seq:∀y∈r,1<=y.Page.Seq/\y.Page.Seq<=1000000000
 tx:∀y∈r,1<=y.Page.Tx/\y.Page.Tx<=1000000000
 cnt:∀y∈r,1<=y.Page.Count/\y.Page.Count<=9
 part:∀y∈r,0<=y.Page.Part/\y.Page.Part<y.Page.Count
def L8 (a seq:Int) (y:AE):Int:=if a=0\/y.Page.Seq<seq then y.Page.Seq else seq
theorem mS (r:List AE) (hr:He r) (t a c:Int) (hp:0<=a) (text:ByteArray) (ht:(L text).length<=10000) (seq:Int):
  ∃text2,Aq (λs:Int×ByteArray×Bool×Int×Int=>H4 r t a s.1 s.2.1 s.2.2.1 s.2.2.2.1 s.2.2.2.2) (c,text,false,0,seq)=some (match YB r t a c with
   |none=>(c,text,false,seq)
   |some y=>(y.Page.Count,text2,true,L8 a seq y))/\(∀y,YB r t a c=some y->L text2=L text++L y.Page.Text):=by
 have k:=hr.len;obtain⟨b,h1,h2⟩:=Bx (body:=λs:Int×ByteArray×Bool×Int×Int=>H4 r t a s.1 s.2.1 s.2.2.1 s.2.2.2.1 s.2.2.2.2) (λ(s:Int×ByteArray×Bool×Int) i=>(s.1,s.2.1,s.2.2.1,i,s.2.2.2)) r.length
  (λi s=>(s=(c,text,false,seq)/\∀(j:Nat) x,j<i->r[j]?=some x->kH t a c x=false)\/∃y u,YB r t a c=some y/\L u=L text++L y.Page.Text/\s=(y.Page.Count,u,true,L8 a seq y))
  (λb=>(b=(c,text,false,seq)/\YB r t a c=none)\/∃y u,YB r t a c=some y/\L u=L text++L y.Page.Text/\b=(y.Page.Count,u,true,L8 a seq y))
  (λs i hi hs=>by
   have hx:=Ad hi;have hm:r[i]∈r:=Bm hi;simp only[H4,AD,Ab hi,Af,Aa]
   rcases hs with⟨rfl,hs⟩|⟨y,u,f1,f2,rfl⟩
   ·simp only[AM,Af,AA,hx,Aa];have f:(cond (r[i].Page.Kind !=2) (some true) (cond (r[i].Page.Tx !=t) (some true) (cond (r[i].Page.Part !=a) (some true) (cond (decide (a>0)) (some (r[i].Page.Count !=c)) (some false)))):Option Bool)=some (!kH t a c r[i]):=by
     unfold kH;simp only[bne];cases r[i].Page.Kind==2<;>cases r[i].Page.Tx==t<;>cases r[i].Page.Part==a<;>cases decide (a>0)<;>cases r[i].Page.Count==c<;>rfl
    rw[f];simp only[Aa];rw[ad1 (by omega)]
    cases hM:kH t a c r[i]with
    |false=>
     refine .inl ⟨_,rfl,.inl ⟨rfl,λj x hj d=>?_⟩⟩;by_cases e:j=i
     ·subst e;rw[hx]at d
      injection d with d
      rw[<-d];exact hM
     exact hs j x (by omega) d
    |true=>
     have l:=hr.text _ hm;simp only[Ap,Ac];rw[JK _ _ (by omega)];simp only[Aa];have hf:YB r t a c=some r[i]:=iC r _ (λj x hj d=>hs j x hj d) hx hM;have g:(cond (a==0) (some true) (some (decide (r[i].Page.Seq<seq))):Option Bool)=some (decide (a=0\/r[i].Page.Seq<seq)):=by
      by_cases e:a=0
      ·rw[show(a==0)=true by simpa using e,Ab (show a=0\/r[i].Page.Seq<seq from .inl e)];rfl
      rw[show(a==0)=false by simpa using e];simp only[Ac];by_cases e2:r[i].Page.Seq<seq
      ·rw[Ab e2,Ab (show a=0\/r[i].Page.Seq<seq from .inr e2)]
      rw[Ae e2,Ae (by rintro(h|h);exact e h;exact e2 h)]
     rw[g];simp only[Aa];refine .inl ⟨(r[i].Page.Count,text++r[i].Page.Text,true,L8 a seq r[i]),?_,.inr ⟨r[i],_,hf,Fu _ _,rfl⟩⟩;unfold L8;by_cases e:a=0\/r[i].Page.Seq<seq
     ·rw[Ab e,Ar e];rfl
     rw[Ae e,Au e];rfl
   simp only[Ap,Ac]
   exact .inr ⟨_,rfl,.inr ⟨y,u,f1,f2,rfl⟩⟩)
  (λs hs=>by
   refine⟨s,by simp only[H4,AD,An,As,Ac,Aa],?_⟩
   rcases hs with⟨rfl,hs⟩|hs
   ·exact .inl ⟨rfl,iB r _ λj x hx=>hs j x (Ag.1 hx).1 hx⟩
   exact .inr hs) (s:=(c,text,false,seq)) (.inl ⟨rfl,λj x hj=>by omega⟩)
 have h1':Aq (λs:Int×ByteArray×Bool×Int×Int=>H4 r t a s.1 s.2.1 s.2.2.1 s.2.2.2.1 s.2.2.2.2) (c,text,false,0,seq)=some b:=h1;rw[h1']
 rcases h2 with⟨rfl,h2⟩|⟨y,u,f1,f2,rfl⟩
 ·rw[h2];exact⟨text,rfl,λy hy=>by cases hy⟩
 rw[f1];refine⟨u,rfl,λz hz=>?_⟩
 injection hz with hz
 rw[<-hz];exact f2
def parts (r:List AE) (t:Int):Nat->Int->Int->List UInt8->Int->Option (List UInt8×Int)
 |0,_,_,_,_=>none
 |n+1,a,c,b,seq=>if a=0\/a<c then(match YB r t a c with
  |none=>none
  |some y=>parts r t n (a+1) y.Page.Count (b++L y.Page.Text) (L8 a seq y))else some (b,seq)
theorem gX {t a b:Int} (h:kH t a b y=true) (hp:0<a):y.Page.Count=b:=by
 unfold kH at h;simp only[Ai,BM,CH,AX,DF]at h
 rcases h.2.2.2 with h|h
 ·omega
 exact h
theorem UX {t a b:Int} (h:YB r t a b=some y):y∈r/\kH t a b y=true:=⟨List.mem_of_find?_eq_some h,List.find?_some h⟩
theorem ZR (r:List AE) (hr:He r) (t:Int):∀(n:Nat) (part cnt:Int) (text:ByteArray) (seq:Int),part+n=11->0<=part->(part=0\/(part<=cnt/\cnt<=9))->(L text).length<=90*part.toNat->
  ∃b,Aq (λs:Int×ByteArray×Int×Int=>Mw r t s.1 s.2.1 s.2.2.1 s.2.2.2) (cnt,text,part,seq)=some b/\(match parts r t n part cnt (L text) seq with
   |none=>∃q,b= .inr (Tx.mk t q [],false)
   |some (x,q)=>∃u,b= .inl (u,q)/\L u=x/\(L u).length<=1000)
 |0,part,cnt,text,seq,hn,h0,hc,ht=>by omega
 |n+1,part,cnt,text,seq,hn,h0,hc,ht=>by
  rw[A9];simp only[Mw,parts];have a:(cond (part==0) (some true) (some (decide (part<cnt))):Option Bool)=some (decide (part=0\/part<cnt)):=by
   by_cases e:part=0
   ·rw[show(part==0)=true by simpa using e,Ab (show part=0\/part<cnt from .inl e)];rfl
   rw[show(part==0)=false by simpa using e];simp only[Ac];by_cases e2:part<cnt
   ·rw[Ab e2,Ab (show part=0\/part<cnt from .inr e2)]
   rw[Ae e2,Ae (by rintro(h|h);exact e h;exact e2 h)]
  rw[a];simp only[Aa];by_cases e:part=0\/part<cnt
  ·rw[Ab e,Ar e];simp only[Af];obtain⟨text2,h1,h2⟩:=mS r hr t part cnt h0 text (by omega) seq;rw[h1]
   cases hf:YB r t part cnt with
   |none=>
    simp only[Aa,AM,Af];exact⟨_,rfl,_,rfl⟩
   |some y=>
    simp only[Aa,Ap,Ac];have hy:=UX hf;have hL:=h2 y hf;have c:=hr.text y hy.1;have d:=hr.cnt y hy.1;rw[DZ (by omega) (by omega),<-hL];refine ZR r hr t n (part+1) y.Page.Count text2 _ (by omega) (by omega) (.inr ?_) ?_
    ·rcases e with e|e
     ·have:=hr.part y hy.1;omega
     by_cases e2:part=0
     ·omega
     have:=gX hy.2 (by omega);omega
    rw[hL,Ah];omega
  rw[Ae e,Au e];simp only[Ac];exact⟨_,rfl,text,rfl,rfl,by omega⟩
noncomputable def Tb (r:List AE) (t:Int):Option Tx:=match parts r t 11 0 0 [] 0 with
 |none=>none
 |some (x,q)=>(lO (bs x)).map λl=>Tx.mk t q l
theorem uP (u:ByteArray):bs (L u)=u:=R9 (by rw[Mi])
theorem Wt (r:List AE) (hr:He r) (t:Int):∃x ok,Ts r t=some (x,ok)/\Tb r t=(if ok=true then some x else none)/\x.Recs.length<=20000:=by
 obtain⟨b,h1,h2⟩:=ZR r hr t 11 0 0 (bs []) 0 (by omega) (by omega) (.inl rfl) (by rw[Mi];simp);rw[Mi]at h2;unfold Ts Tb;rw[h1];simp only[Aa]
 cases hp:parts r t 11 0 0 [] 0 with
 |none=>
  rw[hp]at h2;obtain⟨z,rfl⟩:=h2;exact⟨_,_,rfl,rfl,by simp⟩
 |some w=>
  obtain⟨x,q⟩:=w;rw[hp]at h2;obtain⟨u,rfl,rfl,h4⟩:=h2;simp only[B3];obtain⟨l,ok,r1,r2,r3⟩:=Vx u (by omega);rw[r1,uP,r2];simp only[Aa]
  cases ok with
  |true=>exact⟨_,_,rfl,rfl,r3⟩
  |false=>exact⟨_,_,rfl,rfl,r3⟩
theorem gB {P:List α->Prop} (nil:P []) (app:∀l x,P l->P (l++ [x])) (l:List α):P l:=by
 rw[<-List.reverse_reverse l]
 induction l.reverse with
 |nil=>exact nil
 |cons x l ih=>rw[List.reverse_cons];exact app _ _ ih
def DA (r:List AE):List Int:=r.foldl (λns y=>if y.Page.Kind=2 then m7 ns y.Page.Tx else ns) []
theorem Uz (r:List AE) (y:AE):DA (r++ [y])=if y.Page.Kind=2 then m7 (DA r) y.Page.Tx else DA r:=by unfold DA;rw[HY];rfl
theorem LV (r:List AE) (h:∀y∈r,1<=y.Page.Tx):asc (DA r)/\(∀x,x∈DA r↔∃y∈r,y.Page.Kind=2/\y.Page.Tx=x)/\(DA r).length<=r.length:=by
 have main:∀n,n<=r.length->asc (DA (r.take n))/\(∀x,x∈DA (r.take n)↔∃y∈r.take n,y.Page.Kind=2/\y.Page.Tx=x)/\(DA (r.take n)).length<=n:=by
  intro n
  induction n with
  |zero=>intro _;simp[DA,asc]
  |succ n ih=>
   intro hn;obtain⟨h1,h2,h3⟩:=ih (by omega);have et:r.take (n+1)=r.take n++ [r[n]'(by omega)]:=Az (by omega);have hy:=h _ (Bm (show n<r.length by omega));generalize r[n]'(by omega)=y at et hy;rw[et,Uz]
   have a:∀z∈DA (r.take n),0<z:=λz hz=>by
    obtain⟨w,hw,_,h5⟩:=(h2 z).1 hz;have:=h w (List.mem_of_mem_take hw);omega
   by_cases e:y.Page.Kind=2
   ·rw[Ar e];refine⟨g9 h1,λx=>?_,by have:=UH (DA (r.take n)) y.Page.Tx h1;omega⟩;rw[g8 a,h2 x];simp only[Al,A7];constructor
    ·rintro(⟨w,hw,hk,ht⟩|⟨rfl,h0⟩)
     ·exact⟨w,.inl hw,hk,ht⟩
     exact⟨y,.inr rfl,e,rfl⟩
    rintro⟨w,hw|rfl,hk,ht⟩
    ·exact .inl ⟨w,hw,hk,ht⟩
    exact .inr ⟨ht.symm,by omega⟩
   rw[Au e];refine⟨h1,λx=>?_,by omega⟩;rw[h2 x];simp only[Al,A7];constructor
   ·rintro⟨w,hw,hk,ht⟩;exact⟨w,.inl hw,hk,ht⟩
   rintro⟨w,hw|rfl,hk,ht⟩
   ·exact⟨w,hw,hk,ht⟩
   exact absurd hk e
 have:=main r.length (A5 _);rw[Br]at this;exact this
theorem VC (r:List AE) (hr:He r):Aq (λs:List Int×Int=>HH r s.1 s.2) ([],0)=some (DA r):=by
 have d:=hr.len;obtain⟨b,h1,h2⟩:=Bx (body:=λs:List Int×Int=>HH r s.1 s.2) (λ(o:List Int) i=>(o,i)) r.length (λi o=>o=DA (r.take i)) (λb=>b=DA r)
  (λo i hi ho=>by
   have hx:=Ad hi;have hm:r[i]∈r:=Bm hi;have f:=(hr.tx _ hm).1;have a:=LV (r.take i) (λy hy=>(hr.tx y (List.mem_of_mem_take hy)).1);have g:o.length<=1048576:=by rw[ho];have:=a.2.2;rw[AK]at this;omega
   have et:r.take (i+1)=r.take i++ [r[i]]:=Az hi;simp only[HH,AD,Ab hi,Af,AA,hx,Aa];rw[ad1 (by omega)];refine .inl ?_;by_cases e:r[i].Page.Kind=2
   ·rw[show(r[i].Page.Kind !=2)=false by simp[e]];simp only[Ac]
    rw[Me (body:=λs:List Int×Int=>Jv o r[i] s.1 s.2) o (λy=>decide (y<r[i].Page.Tx)) [] (by simp;omega)
     (λu k x hk hu=>by
      have c:=(Ag.1 hk).1
      simp only[Jv,AD,Ab c,Af,AA,hk,Aa])
     (λu=>by simp only[Jv,AD,An,As,Ac])]
    simp only[Aa,AC];have h:=BF (λy=>decide (y<r[i].Page.Tx)) o;rw[C4 (by simp only[Aj];omega)];simp only[Aa]
    rw[Me (body:=λs:List Int×Int=>Ju o r[i] s.1 s.2) o (λy=>decide (y>r[i].Page.Tx)) _ (by simp only[Ah,Aj];omega)
     (λu k x hk hu=>by
      have c:=(Ag.1 hk).1
      simp only[Ju,AD,Ab c,Af,AA,hk,Aa])
     (λu=>by simp only[Ju,AD,An,As,Ac])]
    simp only[Aa];refine⟨_,rfl,?_⟩;rw[et,Uz,Ar e,<-ho];unfold m7;rw[Ar (by omega)]
   rw[show(r[i].Page.Kind !=2)=true by simpa using e]
   exact⟨o,rfl,by rw[et,Uz,Au e,ho]⟩)
  (λo ho=>⟨o,by simp only[HH,AD,An,As,Ac],by rw[ho,Br]⟩) (s:=[]) rfl
 rw[h2]at h1;exact h1
noncomputable def Gp (r:List AE):List Tx:=(DA r).filterMap (Tb r)
theorem oM {t:Int} {x:Tx} (hr:He r) (h:Tb r t=some x):x.Num=t/\x.Recs.length<=20000:=by
 obtain⟨z,ok,h1,h2,h3⟩:=Wt r hr t;rw[h]at h2
 cases ok with
 |false=>cases h2
 |true=>
  rw[Ar rfl]at h2
  injection h2 with h2
  subst h2;refine⟨?_,h3⟩;unfold Tb at h;split at h
  ·cases h
  obtain⟨l,_,rfl⟩:=AN.1 h;rfl
theorem SF (r:List AE) (hr:He r):Rd r=some (Gp r):=by
 have c:=hr.len;have a:=LV r (λy hy=>(hr.tx y hy).1);have d:=a.2.2;unfold Rd;rw[VC r hr];simp only[Aa];obtain⟨b,h1,h2⟩:=Bx (body:=λs:List Tx×Int=>Jt r (DA r) s.1 s.2) (λ(o:List Tx) i=>(o,i)) (DA r).length (λi o=>o=((DA r).take i).filterMap (Tb r)) (λb=>b=Gp r)
  (λo i hi ho=>by
   have hx:=Ad hi;have et:(DA r).take (i+1)=(DA r).take i++ [(DA r)[i]]:=Az hi;have e:o.length<=i:=by
    rw[ho];have:=List.length_filterMap_le (Tb r) ((DA r).take i);rw[AK]at this;omega
   simp only[Jt,AD,Ab hi,Af,AA,hx,Aa];rw[ad1 (by omega)];obtain⟨z,ok,k1,k2,k3⟩:=Wt r hr (DA r)[i];rw[k1];simp only[Aa];refine .inl ?_
   cases ok with
   |true=>
    simp only[Af];rw[C4 (by simp only[Aj];omega)];refine⟨_,rfl,?_⟩;rw[et,LD,ho];simp only[List.filterMap_cons,List.filterMap_nil,k2,BU]
   |false=>
    refine⟨o,rfl,?_⟩;rw[et,LD,ho]
    simp[k2])
  (λo ho=>⟨o,by simp only[Jt,AD,An,As,Ac],by rw[ho,Br];rfl⟩) (s:=[]) rfl
 rw[h1,h2];rfl
def qX (x:Tx):Bool:=match x.Recs with
 |[]=>false
 |r::_=>r.Kind==1
def eY (l:List Tx):Nat:=l.zipIdx.foldl (λa z=>if qX z.1=true then z.2 else a) 0
def FD (l:List Tx):List Tx:=l.drop (eY l)
theorem Pm (l:List Tx) (x:Tx):eY (l++ [x])=if qX x=true then l.length else eY l:=by
 unfold eY;rw[List.zipIdx_append,HY];simp
theorem nV (l:List Tx):eY l<=l.length:=by
 induction l using gB with
 |nil=>simp[eY]
 |app l x ih=>
  rw[Pm,Ah];split<;>simp<;>omega
theorem NN (l:List Tx) (hl:l.length<=1048576) (hr:∀x∈l,x.Recs.length<=20000):Lm l=some (FD l):=by
 unfold Lm;obtain⟨b,h1,h2⟩:=Bx (body:=λs:Int×Int=>G4 l s.1 s.2) (λ(o:Int) i=>(o,i)) l.length (λi o=>o=(eY (l.take i):Int)) (λb=>b=(eY l:Int))
  (λo i hi ho=>by
   have hx:=Ad hi;have et:l.take (i+1)=l.take i++ [l[i]]:=Az hi;simp only[G4,AD,Ab hi,Af,AA,hx,Aa];rw[ad1 (by omega)];refine .inl ?_;have d:(l.take i).length=i:=by rw[AK];omega
   cases a:l[i].Recs with
   |nil=>
    refine⟨o,rfl,?_⟩;rw[et,Pm,Au (by unfold qX;rw[a];simp),ho]
   |cons q m=>
    have hg:gi (q::m) 0=some q:=AA (i:=0);rw[Ab (by rw[BT,AH];omega:ln (q::m)>0)];simp only[Af,hg,Aa]
    cases hk:(q.Kind==1)with
    |true=>
     refine⟨(i:Int),rfl,?_⟩;rw[et,Pm,Ar (by unfold qX;rw[a];exact hk),d]
    |false=>
     refine⟨o,rfl,?_⟩
     rw[et,Pm,Au (by unfold qX;rw[a];simp only[];rw[hk];simp),ho])
  (λo ho=>⟨o,by simp only[G4,AD,An,As,Ac],by rw[ho,Br]⟩) (s:=0) rfl
 rw[h1,h2];simp only[Aa];have e:=nV l;obtain⟨c,q1,q2⟩:=UE (body:=λs:List Tx×Int=>G3 l s.1 s.2) (λ(o:List Tx) i=>(o,i)) l.length (λi o=>o=(l.take i).drop (eY l)/\eY l<=i) (λb=>b=FD l)
  (λo i hi hs=>by
   obtain⟨ho,f⟩:=hs;have hx:=Ad hi;have hm:l[i]∈l:=Bm hi;have g:=hr _ hm;have et:l.take (i+1)=l.take i++ [l[i]]:=Az hi;have h:o.length<=1048576:=by rw[ho,C7,AK];omega
   simp only[G3,AD,Ab hi,Af,AA,hx,Aa];rw[IK (by omega)];simp only[Aa];rw[C4 (by simp only[Aj];omega)];simp only[Aa];rw[ad1 (by omega)];refine .inl ⟨_,rfl,?_,by omega⟩
   rw[et,List.drop_append_of_le_length (by rw[AK];omega),<-ho])
  (λo hs=>⟨o,by simp only[G3,AD,An,As,Ac],by rw[hs.1,Br];rfl⟩) (l.length-eY l) (eY l) [] (by omega) ⟨by rw[Cx];rw[AK];omega,A5 _⟩
 rw[q1,q2];rfl
def DJ (l:Vs) (nx:Int) (a:List GZ):Option (Vs×Int):=a.foldl (λo r=>o.bind λp=>JJ p.1 p.2 r) (some (l,nx))
theorem Ow (a:List GZ):a.foldl (λ(o:Option (Vs×Int)) r=>o.bind λp=>JJ p.1 p.2 r) none=none:=by
 induction a with
 |nil=>rfl
 |cons r l ih=>rw[Nv];exact ih
theorem Ox (l:Vs) (nx:Int) (r:GZ) (a:List GZ):DJ l nx (r::a)=(JJ l nx r).bind λp=>DJ p.1 p.2 a:=by
 unfold DJ;rw[Nv];simp only[Aa]
 cases JJ l nx r with
 |none=>exact Ow a
 |some p=>rfl
theorem PG (l:Vs) (nx:Int) (a b:List GZ):DJ l nx (a++b)=(DJ l nx a).bind λp=>DJ p.1 p.2 b:=by
 unfold DJ;rw[HY]
 cases a.foldl (λ(o:Option (Vs×Int)) r=>o.bind λp=>JJ p.1 p.2 r) (some (l,nx))with
 |none=>exact Ow b
 |some p=>rfl
def ME (s:Store) (a:List GZ) (o:Option (Store×Bool)):Prop:=match DJ (Ft s) s.Next a with
 |none=>o=some (s,false)
 |some (l,nx)=>∃t,o=some (t,true)/\Dd t/\Ft t=l/\t.Next=nx
theorem SP (h:Dd s) (a:List GZ) (hr:a.length<=1048576):ME s a (IA s a):=by
 have hl:=h.len;have e:=Kj h.ar (by have:=h.few;omega);have c:=FG s e (by omega);unfold IA;rw[c];simp only[Aa];obtain⟨b,h1,h2⟩:=Bx (body:=λq:Int×List Vol×List Knot×Int=>Dk s a q.1 q.2.1 q.2.2.1 q.2.2.2) (λ(t:Store) i=>(i,t.Vols,t.Arena.Knots,t.Next)) a.length
  (λi t=>Dd t/\DJ (Ft s) s.Next (a.take i)=some (Ft t,t.Next))
  (λb=>(b= .inr (s,false)/\DJ (Ft s) s.Next a=none)\/∃t,b= .inl (t.Vols,t.Arena.Knots,t.Next)/\Dd t/\DJ (Ft s) s.Next a=some (Ft t,t.Next))
  (λt i hi hs=>by
   obtain⟨hP,he⟩:=hs;have hx:=Ad hi;obtain⟨e1,e2⟩:=UF hx;have et:a.take (i+1)=a.take i++ [a[i]]:=Az hi;simp only[Dk,AD,Ab hi,Af,AA,hx,Aa];have d:=Vb hP a[i];unfold IV at d;have f:Store.mk t.Vols (Arena.mk t.Arena.Knots) t.Next=t:=rfl;rw[f]
   cases hv:JJ (Ft t) t.Next a[i]with
   |none=>
    rw[hv]at d;rw[d];simp only[Aa,AM,Af];rw[c];refine .inr ⟨_,rfl,.inl ⟨rfl,?_⟩⟩;rw[e1,PG,he];simp only[Aa];rw[Ox,hv];rfl
   |some p=>
    obtain⟨l,nx⟩:=p;rw[hv]at d;obtain⟨u,u1,u2,u3,u4⟩:=d;rw[u1];simp only[Aa,Ap,Ac];rw[ad1 (by omega)];refine .inl ⟨u,rfl,u2,?_⟩;rw[et,PG,he];simp only[Aa];rw[Ox,hv];simp only[Aa];rw[u3,u4]
    rfl)
  (λt hs=>⟨_,by simp only[Dk,AD,An,As,Ac],.inr ⟨t,rfl,hs.1,by rw[<-hs.2,Br]⟩⟩) (s:=s) ⟨h,rfl⟩
 rw[h1];unfold ME
 rcases h2 with⟨rfl,h2⟩|⟨t,rfl,h2,h3⟩
 ·rw[h2];rfl
 rw[h3];exact⟨t,rfl,h2,rfl,rfl⟩
def EV (r:List AE):Int:=r.foldl (λm y=>if y.Page.Seq>=m then y.Page.Seq+1 else m) 1
def Jh (r:List AE):Int:=r.foldl (λm y=>if y.Page.Kind=2/\y.Page.Tx>=m then y.Page.Tx+1 else m) 1
def Nf (l:List Tx):Int:=match l with
 |[]=>0
 |x::_=>x.Num
def KF (l:List Tx):Vs×Int:=l.foldl (λp x=>(DJ p.1 p.2 x.Recs).getD p) ([],1)
theorem Xr (r:List AE) (y:AE):EV (r++ [y])=if y.Page.Seq>=EV r then y.Page.Seq+1 else EV r:=by unfold EV;rw[HY];rfl
theorem Xk (r:List AE) (y:AE):Jh (r++ [y])=if y.Page.Kind=2/\y.Page.Tx>=Jh r then y.Page.Tx+1 else Jh r:=by unfold Jh;rw[HY];rfl
theorem lG (r:List AE):(∀y∈r,y.Page.Seq<EV r)/\1<=EV r/\(∀b,1<=b->(∀y∈r,y.Page.Seq<b)->EV r<=b):=by
 induction r using gB with
 |nil=>exact⟨λy hy=>(by cases hy),by simp[EV],λb hb _=>by simpa[EV]using hb⟩
 |app r x ih=>
  obtain⟨h1,h2,h3⟩:=ih;rw[Xr];refine⟨λy hy=>?_,?_,λb hb a=>?_⟩
  ·rw[Al,A7]at hy
   rcases hy with hy|rfl
   ·have:=h1 y hy;split<;>omega
   split<;>omega
  ·split<;>omega
  have:=h3 b hb (λy hy=>a y (by simp[hy]));have:=a x (by simp);split<;>omega
theorem W4 (h:fB f r) (hf:Ir f):He r:=by
 have a:∀y∈r,(1<=y.Page.Seq/\y.Page.Seq<=1000000000)/\(1<=y.Page.Tx/\y.Page.Tx<=1000000000)/\(1<=y.Page.Count/\y.Page.Count<=9)/\(0<=y.Page.Part/\y.Page.Part<y.Page.Count):=by
  intro y hy;obtain⟨b,x,g1,g2,_,g3⟩:=h.page y hy;obtain⟨_,k1⟩:=HA g1;obtain⟨_,k2⟩:=HA g2;have hx:=hf.text b (A6 k1) x (A6 k2);obtain⟨p,ok,m1,_,_,m2⟩:=HR x.Text (by omega);rw[g3]at m1
  injection m1 with m1
  injection m1 with m1 m3
  have hp:=m2 m3.symm;obtain⟨v,q1,_,q2⟩:=Sv p;rw[hp]at q1
  injection q1 with q1
  obtain⟨_,a1,a2,a3,a4,_⟩:=q2 q1.symm;rw[m1];exact⟨a1,a2,a3,a4⟩
 exact⟨h.len,h.text,λy hy=>(a y hy).1,λy hy=>(a y hy).2.1,λy hy=>(a y hy).2.2.1,λy hy=>(a y hy).2.2.2⟩
theorem Ra (r:List AE) (hr:He r):Aq (λs:Int×Int×Int=>Gb r s.1 s.2.1 s.2.2) (0,1,1)=some (EV r,Jh r):=by
 have c:=hr.len;obtain⟨b,h1,h2⟩:=Bx (body:=λs:Int×Int×Int=>Gb r s.1 s.2.1 s.2.2) (λ(o:Int×Int) i=>(i,o.1,o.2)) r.length (λi o=>o=(EV (r.take i),Jh (r.take i))) (λb=>b=(EV r,Jh r))
  (λo i hi ho=>by
   subst ho;have hx:=Ad hi;have hm:r[i]∈r:=Bm hi;have hs:=hr.seq _ hm;have ht:=hr.tx _ hm;have et:r.take (i+1)=r.take i++ [r[i]]:=Az hi;simp only[Gb,AD,Ab hi,Af,AA,hx,Aa];rw[et,Xr,Xk,ad1 (by omega)];have a:(cond (decide (r[i].Page.Seq>=EV (r.take i))) (some (ad r[i].Page.Seq 1)) (some (EV (r.take i))):Option Int)=some (if r[i].Page.Seq>=EV (r.take i)then r[i].Page.Seq+1 else EV (r.take i)):=by
    by_cases e:r[i].Page.Seq>=EV (r.take i)
    ·rw[Ab e,Ar e,DZ (by omega) (by omega)];rfl
    rw[Ae e,Au e];rfl
   rw[a];simp only[Aa];refine .inl ?_;by_cases e:r[i].Page.Kind=2
   ·rw[show(r[i].Page.Kind==2)=true by simpa using e];simp only[Af,Aa];by_cases e2:r[i].Page.Tx>=Jh (r.take i)
    ·rw[Ab e2,Ar (show r[i].Page.Kind=2/\r[i].Page.Tx>=Jh (r.take i)from⟨e,e2⟩),DZ (by omega) (by omega)];exact⟨(_,_),rfl,rfl⟩
    rw[Ae e2,Au (show¬(r[i].Page.Kind=2/\r[i].Page.Tx>=Jh (r.take i))from λhh=>e2 hh.2)];exact⟨(_,_),rfl,rfl⟩
   rw[show(r[i].Page.Kind==2)=false by simpa using e,Au (show¬(r[i].Page.Kind=2/\r[i].Page.Tx>=Jh (r.take i))from λhh=>e hh.1)]
   exact⟨(_,_),rfl,rfl⟩)
  (λo ho=>⟨o,by simp only[Gb,AD,An,As,Ac],by rw[ho,Br]⟩) (s:=(1,1)) rfl
 rw[h2]at h1;exact h1
theorem Wn:Dd (Store.mk [] (Arena.mk []) 1):=by
 refine⟨⟨by simp,rfl,by simp,by simp,by simp,by simp[AR],by simp[AR],by simp⟩,by simp⟩
theorem dP (l:List Tx) (x:Tx):KF (l++ [x])=(DJ (KF l).1 (KF l).2 x.Recs).getD (KF l):=by unfold KF;rw[HY];rfl
theorem Up (l:List Tx) (hl:l.length<=1048576) (hr:∀x∈l,x.Recs.length<=20000):∃t,Aq (λs:Int×List Vol×List Knot×Int×Int=>CR l s.1 s.2.1 s.2.2.1 s.2.2.2.1 s.2.2.2.2) (0,[],[],1,0)=some (t.Vols,t.Arena.Knots,t.Next,Nf l)/\Dd t/\(Ft t,t.Next)=KF l:=by
 obtain⟨b,h1,t,h2,h3,h4⟩:=Bx (body:=λs:Int×List Vol×List Knot×Int×Int=>CR l s.1 s.2.1 s.2.2.1 s.2.2.2.1 s.2.2.2.2) (λ(o:Store×Int) i=>(i,o.1.Vols,o.1.Arena.Knots,o.1.Next,o.2)) l.length
  (λi o=>Dd o.1/\(Ft o.1,o.1.Next)=KF (l.take i)/\o.2=Nf (l.take i)) (λb=>∃t,b=(t.Vols,t.Arena.Knots,t.Next,Nf l)/\Dd t/\(Ft t,t.Next)=KF l)
  (λo i hi hs=>by
   obtain⟨t,bs0⟩:=o;obtain⟨hP,hv,hb⟩:=hs;simp only at hP hv hb;have hx:=Ad hi;have hm:l[i]∈l:=Bm hi;have j:=hr _ hm;have et:l.take (i+1)=l.take i++ [l[i]]:=Az hi;simp only[CR,AD,Ab hi,Af,AA,hx,Aa];have g:(cond ((i:Int)==0) (some l[i].Num) (some bs0):Option Int)=some (Nf (l.take (i+1))):=by
    by_cases e:i=0
    ·subst e;rw[et];simp[Nf]
    rw[show((i:Int)==0)=false by simp;omega,hb,et];simp only[Ac]
    cases h5:l.take i with
    |nil=>
     have:=Cq List.length h5;rw[AK,Bf]at this;omega
    |cons a m=>rfl
   rw[g];simp only[Aa];have d:=SP hP l[i].Recs (by omega);unfold ME at d;have h:Store.mk t.Vols (Arena.mk t.Arena.Knots) t.Next=t:=rfl;have e1:Ft t=(KF (l.take i)).1:=Cq Prod.fst hv;have e2:t.Next=(KF (l.take i)).2:=Cq Prod.snd hv;rw[h,ad1 (by omega)];refine .inl ?_;have f:=dP (l.take i) l[i];rw[<-et]at f
   cases c:DJ (Ft t) t.Next l[i].Recs with
   |none=>
    rw[c]at d;rw[d];refine⟨(t,Nf (l.take (i+1))),rfl,hP,?_,rfl⟩;rw[f,<-e1,<-e2,c,Option.getD_none];exact hv
   |some p=>
    obtain⟨lv,nx⟩:=p;rw[c]at d;obtain⟨u,u1,u2,u3,u4⟩:=d;rw[u1];refine⟨(u,Nf (l.take (i+1))),rfl,u2,?_,rfl⟩;rw[f,<-e1,<-e2,c,Bu];show(Ft u,u.Next)=(lv,nx)
    rw[u3,u4])
  (λo hs=>⟨(o.1.Vols,o.1.Arena.Knots,o.1.Next,o.2),by simp only[CR,AD,An,As,Ac],o.1,by rw[hs.2.2,Br],hs.1,by rw[hs.2.1,Br]⟩) (s:=(Store.mk [] (Arena.mk []) 1,0)) ⟨Wn,rfl,rfl⟩
 exact⟨t,by rw[<-h2];exact h1,h3,h4⟩
structure wH (d:Device) (r:List AE):Prop where
 fl:Ir d.Flash
 scan:fB d.Flash r
 sr:SR (dG 0 d.Flash.Blocks) r
 st:Dd d.Store
 ab:(Ft d.Store,d.Store.Next)=KF (FD (Gp r))
 seq:d.Seq=EV r
 tx:d.Tx=Jh r
 base:d.Base=Nf (FD (Gp r))
theorem UT (hr:He r):(Gp r).length<=1048576/\∀x∈Gp r,x.Recs.length<=20000:=by
 have b:=hr.len;have a:=LV r (λy hy=>(hr.tx y hy).1);have:=List.length_filterMap_le (Tb r) (DA r);refine⟨by unfold Gp;omega,λx hx=>?_⟩;obtain⟨t,_,ht⟩:=List.mem_filterMap.1 hx;exact(oM hr ht).2
theorem RX (l:List Tx):(FD l).length<=l.length/\∀x∈FD l,x∈l:=⟨by unfold FD;rw[C7];omega,λx hx=>List.mem_of_mem_drop hx⟩
theorem XA (hf:Ir f):∃d r,G5 f=some (d,true)/\wH d r/\d.Flash=f:=by
 obtain⟨r,hs,a⟩:=nZ hf;have hr:=W4 hs hf;obtain⟨g1,g2⟩:=UT hr;obtain⟨b1,b2⟩:=RX (Gp r);obtain⟨t,t1,t2,t3⟩:=Up (FD (Gp r)) (by omega) (λx hx=>g2 x (b2 x hx));refine⟨Device.mk f t (EV r) (Jh r) (Nf (FD (Gp r))),r,?_,⟨hf,hs,a,t2,t3,rfl,rfl,rfl⟩,rfl⟩;unfold G5;rw[WX hf,hs.s,Na f hf.cap];unfold K4;simp only[Aa,Ap,Ac];rw[Ra r hr,SF r hr];simp only[Aa];rw[NN _ g1 g2];simp only[Aa];rw[t1];rfl
theorem Zr (a b:List Int) (ha:a.length<=1048576):IR a b=some (decide (a=b)):=by
 unfold IR;by_cases hl:a.length=b.length
 ·rw[show(ln a !=ln b)=false by simp[ln,hl]];simp only[Ac]
  rw[Yq (body:=λs:Int=>Fc a b s) a b (λx y=>x==y) hl (by omega)
   (λi x y hx hy=>by
    have hi:=(Ag.1 hx).1;simp only[Fc,AD,Ab hi,Af,AA,hx,hy,Aa];rw[ad1 (by omega)]
    cases c:x==y<;>simp[bne,c])
   (by simp only[Fc,AD,An,As,Ac])]
  have:=O6 (p:=λx y:Int=>x==y) (a:=a) (b:=b) (λx _ y _=>by simp) hl
  cases hz:(a.zip b).all (λz=>z.1==z.2)with
  |true=>rw[Ab (this.1 hz)];rfl
  |false=>rw[Ae (λhh=>by rw[this.2 hh]at hz;cases hz)];rfl
 rw[show(ln a !=ln b)=true by simp[ln];omega,Ae (λhh=>hl (by rw[hh]))];rfl
structure uW (r:List AE):Prop where
 uniq:∀y∈r,∀z∈r,y.Page.Kind=2->z.Page.Kind=2->y.Page.Tx=z.Page.Tx->y.Page.Part=z.Page.Part->y=z
def tZ (p:Page):Prop:=(p.Kind=1\/p.Kind=2)/\(1<=p.Seq/\p.Seq<=1000000000)/\(1<=p.Tx/\p.Tx<=1000000000)/\(1<=p.Count/\p.Count<=9)/\(0<=p.Part/\p.Part<p.Count)/\(L p.Text).length<=90/\(p.Kind=2\/p.Count=1)
def Steps:Flash->List Step->Flash->Prop
 |f,[],g=>g=f
 |f,s::ss,g=>rJ f s/\Steps (tS f s) ss g
def pG (r:List AE) (c:Int):Option AE:=(r.filter (Oi c)).getLast?
noncomputable def vA (t:ByteArray):Option ByteArray:=match Ie t with
 |some (s,true)=>some s
 |_=>none
noncomputable def Wh (r:List AE) (c:Int):Option ByteArray:=(pG r c).bind λy=>vA y.Page.Text
theorem ZT {c:Int}:Oi c y=true↔y.Page.Kind=1/\y.Page.Tx=c:=by
 unfold Oi;rw[Ai,DF,DF]
theorem mL (r:List AE) (y:AE) (c:Int):pG (r++ [y]) c=if y.Page.Kind=1/\y.Page.Tx=c then some y else pG r c:=by
 unfold pG;rw[AO];by_cases e:y.Page.Kind=1/\y.Page.Tx=c
 ·rw[Ar e,Cn (ZT.2 e),Gh,List.getLast?_concat]
 rw[Au e,BZ (λhh=>e (ZT.1 hh)),Gh,Aw]
structure oE (r:List AE):Prop where
 pages:He r
 inc:r.Pairwise λx y=>x.Page.Seq<y.Page.Seq
 mu:uW r
structure WY (r:List AE) (P:Int->Prop):Prop where
 data:∀c,P c->∃s,Wh r c=some s
 dist:∀c c',P c->P c'->Wh r c=Wh r c'->c=c'
theorem WY.congr {r':List AE} (h:WY r P) (he:∀c,P c->Wh r' c=Wh r c):WY r' P:=⟨λc hc=>by rw[he c hc];exact h.data c hc,λc c' hc hc' e=>h.dist c c' hc hc' (by rw[<-he c hc,<-he c' hc'];exact e)⟩
theorem rF (h:WY r P) (hy:¬P y.Page.Tx):WY (r++ [y]) P:=h.congr λc hc=>by
 unfold Wh;rw[mL,Au (λhh=>hy (by rw[hh.2];exact hc))]
theorem oE.add (h:oE r) (hl:r.length<=1000000) (hb:tZ y.Page) (hs:EV r<=y.Page.Seq) (hm:y.Page.Kind=2->∀z∈r,z.Page.Kind=2->z.Page.Tx=y.Page.Tx->z.Page.Part≠y.Page.Part):oE (r++ [y]):=by
 obtain⟨b1,b2,b3,b4,b5,b6,b7⟩:=hb
 have all:∀{P:AE->Prop},(∀z∈r,P z)->P y->∀z∈r++ [y],P z:=λh1 h2 z hz=>by
  rw[Al,A7]at hz
  rcases hz with hz|rfl
  ·exact h1 z hz
  exact h2
 refine⟨⟨by simp;omega,all h.pages.text b6,all h.pages.seq b2,all h.pages.tx b3,all h.pages.cnt b4,all h.pages.part b5⟩,?_,⟨λu hu v hv k1 k2 e1 e2=>?_⟩⟩
 ·rw[Bs];refine⟨h.inc,Kv _ _,λu hu v hv=>?_⟩;rw[A7]at hv;rw[hv];have:=(lG r).1 u hu;omega
 rw[Al,A7]at hu hv
 rcases hu with hu|rfl<;>rcases hv with hv|rfl
 ·exact h.mu.uniq u hu v hv k1 k2 e1 e2
 ·exact absurd e2 (hm k2 u hu k1 e1)
 ·exact absurd e2.symm (hm k1 v hv k2 e1.symm)
 rfl
theorem sP (h:Dd s):KX s.Arena:=by unfold KX;have:=h.few;omega
theorem oW (K:Ks) (r:Int):(G6 K r).length=16:=by unfold G6;simp
structure w7 (l:Vs) (nx:Int):Prop where
 len:l.length<=3
 nxt:1<=nx/\nx<=1000000000
 ids:∀p∈l,1<=p.1/\p.1<=9
 asc:l.Pairwise λp q=>p.1<q.1
 row:∀p∈l,p.2.length=16
 num:∀p∈l,∀x∈p.2,0<=x/\x<nx
theorem nQ {r:Int} (hK:Cr K=true) (hr:CC K r=true):∀x∈G6 K r,0<=x:=by
 intro x hx;unfold G6 at hx;obtain⟨s,hs,rfl⟩:=AG.1 hx;rw[List.mem_range]at hs;unfold O1
 rcases BE hr with e|⟨h0,h1,hl⟩
 ·rw[Ar (by omega)];omega
 rw[Au (by omega)]
 rcases Eq hK h0 h1 hl (show s/4<4 by omega)with k1|⟨k1,k2,k3⟩
 ·rw[Ar (by omega)];omega
 rw[Au (by omega)];exact mU hK k1 (by omega) k3 (by omega)
theorem tL (h:Dd s):w7 (Ft s) s.Next:=by
 have mem:∀p∈Ft s,∃v∈s.Vols,p=(v.Id,G6 s.Arena.Knots v.Root):=λp hp=>by
  obtain⟨v,hv,rfl⟩:=AG.1 hp;exact⟨v,hv,rfl⟩
 refine⟨by rw[Vt];exact h.len,h.nx,λp hp=>?_,?_,λp hp=>?_,λp hp x hx=>?_⟩
 ·obtain⟨v,hv,rfl⟩:=mem p hp;exact h.ids v hv
 ·have:=h.asc;unfold Ft;rw[HW]at this⊢;exact this
 ·obtain⟨v,hv,rfl⟩:=mem p hp;exact oW _ _
 obtain⟨v,hv,rfl⟩:=mem p hp;have hm:v.Root∈AR s:=AG.2 ⟨v,hv,rfl⟩;exact⟨nQ h.ar (h.root _ hm) x hx,h.lt _ hm x hx⟩
theorem lJ {r:Int} (h:k<16):(G6 K r)[k]?=some (O1 K r k):=by unfold G6;exact Gc h
def Et (x:Shelf):Nat:=zl ByteArray.size x.Texts
theorem QL (l:List ByteArray) (h:ol oS l):Cs (zl ByteArray.size) Jg l:=
 HQ (LK ByteArray.size (λx left=>some (sb left (EU x))) l h.1 (λx hx left h0 h1=>by
  have hx:=h.2 x hx;unfold oS at hx;refine⟨_,rfl,?_⟩;have e:EU x=(x.size:Int):=rfl;rw[CB (by rw[e];omega) (by rw[e];omega),e]
  split<;>omega) (λ_ _=>rfl) (λ_=>rfl))
theorem cJ (x:Shelf) (h:Ux x):Cs Et LG x:=by
 intro left h0 h1;obtain⟨v,h2,h3⟩:=QL x.Texts h.2 left h0 h1;unfold LG;rw[h2,Aa];unfold Et;split at h3
 ·rename_i hc;rw[Ae (by omega),Ac];exact⟨_,rfl,by rw[Ar hc];exact h3⟩
 rename_i hc;rw[Ab h3,Af];exact⟨_,rfl,by rw[Au hc];omega⟩
theorem Zi (l:List Shelf) (h:ol Ux l):Cs (zl Et) Mo l:=
 HQ (LK Et LG l h.1 (λx hx=>cJ x (h.2 x hx)) (λ_ _=>rfl) (λ_=>rfl))
theorem QK (l:List ByteArray) (h:zl ByteArray.size l<=1048576):Lc l=some l:=by
 have:=D9 (z:=ByteArray.size) (l:=l);exact Ji some l (by omega) (by omega) (λ_ _=>rfl) (λ_ _=>rfl) rfl
theorem bY (x:Shelf) (h:Et x<=1048576):LE x=some x:=by
 unfold LE;rw[QK _ h];rfl
theorem Zf (l:List Shelf) (h:zl Et l<=1048576):PL l=some l:=by
 have:=D9 (z:=Et) (l:=l);exact Ji LE l (by omega) (by omega) (λx hx=>bY x (by have:=JD (z:=Et) hx;omega)) (λ_ _=>rfl) rfl
theorem R1 (a b:List ByteArray) (h:a.length<=1048576):Ds (Ld a b) a b:=
 Hu (λx y=>some (seq x y)) a b (by omega) (λx _ y _=>Wi x y) (λ_=>rfl) rfl
theorem eJ (a b:Shelf) (h:Et a<=1048576):Ds (LH a b) a b:=by
 obtain⟨v,h1,h2⟩:=R1 a.Texts b.Texts (by have:=D9 (z:=ByteArray.size) (l:=a.Texts);unfold Et at h;omega);unfold LH;rw[h1]
 cases a with
 |mk av at_=>
 cases b with
 |mk bv bt=>
 simp only at h2⊢;by_cases hv:av=bv
 ·subst hv;simp only[bne_self_eq_false,Ac,Aa]
  cases v with
  |false=>exact⟨false,rfl,by simp only[Shelf.mk.injEq,true_and];exact h2⟩
  |true=>exact⟨true,rfl,by simpa using h2⟩
 have:(av !=bv)=true:=by simpa using hv
 rw[this];exact⟨false,rfl,by simp[hv]⟩
theorem aL (a b:List Shelf) (h:zl Et a<=1048576):Ds (PO a b) a b:=by
 have:=D9 (z:=Et) (l:=a);exact Hu LH a b (by omega) (λx hx y _=>eJ x y (by have:=JD (z:=Et) hx;omega)) (λ_=>rfl) rfl
theorem Xw (a b:List ByteArray) (h:a.length<=1048576):Ds (Gy a b) a b:=
 Hu (λx y=>some (seq x y)) a b (by omega) (λx _ y _=>Wi x y) (λ_=>rfl) rfl
theorem Un (a b:List Shelf) (h:zl Et a<=1048576):Ds (Lo a b) a b:=by
 have c:=D9 (z:=Et) (l:=a);refine Hu (λx y=>bif x.Vol !=y.Vol then some false else Gy x.Texts y.Texts) a b (by omega) (λx hx y _=>?_) (body:=λi=>bif decide (i<ln a)then((gi a i).bind λx=>(gi b i).bind λy=>(bif x.Vol !=y.Vol then some false else Gy x.Texts y.Texts).bind λv=>bif !v then some (.inr (.inr false))else some (.inl (ad i 1)))else some (.inr (.inl ()))) (λ_=>rfl) ?_
 ·have hz:=JD (z:=Et) hx;have d:Et x=zl ByteArray.size x.Texts:=rfl;obtain⟨v,h1,h2⟩:=Xw x.Texts y.Texts (by have:=D9 (z:=ByteArray.size) (l:=x.Texts);omega);rw[h1]
  cases x with
  |mk av at_=>
  cases y with
  |mk bv bt=>
  by_cases hv:av=bv
  ·subst hv;exact⟨v,by simp,by simpa using h2⟩
  have:(av !=bv)=true:=by simpa using hv
  simp only[this];exact⟨false,rfl,by simp[hv]⟩
 unfold Lo;congr 2;congr 1;funext i;unfold K5
 cases hi:decide (i<ln a)with
 |false=>rfl
 |true=>
  simp only[Af]
  cases ha:gi a i with
  |none=>rfl
  |some x=>
   simp only[Aa]
   cases hb:gi b i with
   |none=>rfl
   |some y=>
    simp only[Aa];cases x.Vol !=y.Vol<;>rfl
theorem UP (a b:List Shelf) (h:zl Et a<=1048576):Ds (J2 a b) a b:=by
 have o:=D9 (z:=Et) (l:=a);by_cases hl:a.length=b.length
 ·have f:(ln a !=ln b)=false:=by simp[ln,hl]
  have q:∀(i:Nat) (x y:Shelf),a[i]?=some x->b[i]?=some y->x.Texts.length=y.Texts.length->
    Aq (λs:Int=>Ej a b (i:Int) x s) 0=some (bif(x.Texts.zip y.Texts).all (λz=>seq z.1 z.2)then .inl ()else .inr (.inr (.inr false)))\/True:=λ_ _ _ _ _ _=> .inr trivial
  have j:∀(i:Nat) (x y:Shelf),a[i]?=some x->b[i]?=some y->x.Texts.length=y.Texts.length->x.Texts.length<=1048576->
    Aq (λs:Int=>Ej a b (i:Int) x s) 0=some (bif(x.Texts.zip y.Texts).all (λz=>seq z.1 z.2)then .inl ()else .inr (.inr (.inr false))):=by
   intro i x y hx hy n hM;have:=ID (body:=λs:Int=>Ej a b (i:Int) x s) (λ(_:Unit) i=>i) (x.Texts.zip y.Texts) (λ_ _ z=>bif seq z.1 z.2 then .inl ()else .inr (.inr (.inr (.inr false)))) (λ_=> .inl ()) (λ_ _=>True)
    (λs k z hz _=>by
     refine⟨?_,λ_ _=>trivial⟩;obtain⟨z1,z2⟩:=z;obtain⟨c,hz'⟩:=Ag.1 hz;rw[List.getElem_zip]at hz'
     injection hz' with e1 e2
     have k1:k<x.Texts.length:=by simp at c;omega
     have k2:k<y.Texts.length:=by simp at c;omega
     simp only[Ej,AD,Ab k1,Af,AA,hx,hy,Aa,Ad k1,Ad k2,e1,e2];cases seq z1 z2
     ·rfl
     simp only[Ap,Ac,Af]
     rw[ad1 (by omega)])
    (λs _=>by
     have:(x.Texts.zip y.Texts).length=x.Texts.length:=by simp[n]
     rw[this]
     simp only[Ej,AD,An,As,Ac]) (s:=()) trivial
   rw[this];have g:∀(m:List (ByteArray×ByteArray)) (i:Nat),Ix (λ(_:Unit) _ z=>bif seq z.1 z.2 then .inl ()else .inr (.inr (.inr (.inr false)))) (λ_=>(.inl ():Unit⊕Int⊕Unit⊕Bool)) m i ()=bif m.all (λz=>seq z.1 z.2)then .inl ()else .inr (.inr (.inr false)):=by
    intro m
    induction m with
    |nil=>intro i;rfl
    |cons z m ih=>
     intro i;simp only[Ix,DE]
     cases seq z.1 z.2 with
     |false=>rfl
     |true=>simp only[Af,BI];exact ih _
   rw[g]
  have hp:∀(x y:Shelf),(bif x.Vol !=y.Vol then false else bif x.Texts.length !=y.Texts.length then false else(x.Texts.zip y.Texts).all (λz=>seq z.1 z.2))=true↔x=y:=by
   intro x y
   cases x with
   |mk av at_=>
   cases y with
   |mk bv bt=>
   by_cases hv:av=bv
   ·subst hv;by_cases hl:at_.length=bt.length
    ·simp only[bne_self_eq_false,Ac,hl,Shelf.mk.injEq,true_and];exact O6 (p:=seq) (λx _ y _=>by rw[NK,A4]) hl
    have:(at_.length !=bt.length)=true:=by simpa using hl
    exact iff_of_false (by simp[this]) (λe=>hl (by injection e with _ e;rw[e]))
   have:(av !=bv)=true:=by simpa using hv
   simp[this,hv]
  have:=Yq (body:=λs:Int=>GH a b s) a b (λx y=>bif x.Vol !=y.Vol then false else bif x.Texts.length !=y.Texts.length then false else(x.Texts.zip y.Texts).all (λz=>seq z.1 z.2)) hl (by omega)
   (λi x y hx hy=>by
    have c:=(Ag.1 hx).1;have hz:=JD (z:=Et) (A6 hx);have r:Et x=zl ByteArray.size x.Texts:=rfl;have t:=D9 (z:=ByteArray.size) (l:=x.Texts);simp only[GH,AD,Ab c,Af,AA,hx,hy,Aa];by_cases hv:x.Vol=y.Vol
    ·have e1:(x.Vol !=y.Vol)=false:=by simp[hv]
     simp only[e1,Ac,Aa];by_cases d:x.Texts.length=y.Texts.length
     ·have e2:(ln x.Texts !=ln y.Texts)=false:=by simp[ln,d]
      have e3:(x.Texts.length !=y.Texts.length)=false:=by simp[d]
      simp only[e2,e3,Ac];rw[j i x y hx hy d (by omega)]
      cases(x.Texts.zip y.Texts).all (λz=>seq z.1 z.2)with
      |false=>rfl
      |true=>
       simp only[Af,Aa,B3];rw[ad1 (by omega)]
     have e2:(ln x.Texts !=ln y.Texts)=true:=by simp[ln];omega
     have e3:(x.Texts.length !=y.Texts.length)=true:=by simpa using d
     simp only[e2,e3,Af,Ac]
    have e1:(x.Vol !=y.Vol)=true:=by simpa using hv
    simp only[e1,Af,Aa,Ac])
   (by simp only[GH,AD,An,As,Ac])
  refine⟨(a.zip b).all (λz=>bif z.1.Vol !=z.2.Vol then false else bif z.1.Texts.length !=z.2.Texts.length then false else(z.1.Texts.zip z.2.Texts).all (λz=>seq z.1 z.2)),?_,O6 (p:=λx y=>bif x.Vol !=y.Vol then false else bif x.Texts.length !=y.Texts.length then false else(x.Texts.zip y.Texts).all (λz=>seq z.1 z.2)) (λx _ y _=>hp x y) hl⟩;unfold J2;rw[f,Ac,this];cases(a.zip b).all _<;>rfl
 have f:(ln a !=ln b)=true:=by simp[ln];omega
 unfold J2;rw[f,Af];exact⟨false,rfl,by simp;intro e;exact hl (by rw[e])⟩
def GY (n:Nat) (f:Int->Option Int):Prop:=∀left:Int,0<=left->left<=1048576->∃v,f left=some v/\(if(n:Int)<=left then v=left-n else v<0)
theorem GY.seq {m:Nat} {g f:Int->Option Int} (h:GY n g) (k:GY m f):GY (n+m) (λleft=>(g left).bind λv=>bif decide (v<0)then some (-1)else f v):=by
 intro left h0 hm;obtain⟨v,k1,k2⟩:=h left h0 hm;simp only[k1,Aa];split at k2
 ·rename_i hc;rw[Ae (by omega),Ac];obtain⟨w,k3,k4⟩:=k v (by omega) (by omega);refine⟨w,k3,?_⟩;split at k4
  ·rw[Ar (by omega)];omega
  rw[Au (by omega)];omega
 rename_i hc;rw[Ab k2,Af];exact⟨_,rfl,by rw[Au (by omega)];omega⟩
theorem GY.fin:GY 0 (λleft=>some left):=λleft h0 hm=>⟨left,rfl,by rw[Ar (by omega)];omega⟩
def Mk (w:World):Nat:=Hx w.Device+(w.Codes.length+(zl ByteArray.size w.Told+(zl Et w.Model+(zl S0 w.Steps+0))))
theorem cG (w:World) (h:dL w):GY (Mk w) (RJ w):=
 GY.seq (g:=Mp w.Device) (Zj _ h.1) (GY.seq (g:=N6 w.Codes) (Cs.flat h.2.1.1 (λ_=>rfl)) (GY.seq (g:=Jg w.Told) (QL _ h.2.2.1) (GY.seq (g:=Mo w.Model) (Zi _ h.2.2.2.1) (GY.seq (g:=OA w.Steps) (cI _ h.2.2.2.2) GY.fin))))
theorem bU (w:World) (h:Mk w<=1048576):Km w=some w:=by
 unfold Mk at h;unfold Km;rw[Zg _ (by omega),Aa,Wg _ (by omega),Aa,QK _ (by omega),Aa,Zf _ (by omega),Aa,bX _ (by omega)];rfl
theorem eI (a b:List Step) (h:a.length<=1048576):Ds (RP a b) a b:=
 Hu N8 a b (by omega) (λx _ y _=>jV x y) (λ_=>rfl) rfl
theorem eG (a b:World) (h:Mk a<=1048576):Ds (OC a b) a b:=by
 cases a with
 |mk a1 a2 a3 a4 a5=>
 cases b with
 |mk b1 b2 b3 b4 b5=>
 unfold Mk at h;simp only at h;have l3:=D9 (z:=ByteArray.size) (l:=a3);have l5:=D9 (z:=S0) (l:=a5);have:JB (OC (World.mk a1 a2 a3 a4 a5) (World.mk b1 b2 b3 b4 b5)) (a1=b1/\a2=b2/\a3=b3/\a4=b4/\a5=b5/\True):=
  Ec (aM a1 b1 (by omega)) (Ec (WK a2 b2 (by omega)) (Ec (R1 a3 b3 (by omega)) (Ec (aL a4 b4 (by omega)) (Ec (eI a5 b5 (by omega)) FY))))
 simpa only[Ds,JB,World.mk.injEq,Ng]using this
theorem kD (d:Device) (h:fB d.Flash r) (hs:EM d.Store<=1048576) (id:Int) (k:Nat) (hk:k<16):∃u ok,OI r d.Store id (k:Int)=some (u,ok)/\Rt d id (k:Int)=some (u,ok):=by
 unfold EM Ml at hs;have hl:=D9 (z:=Iv) (l:=d.Store.Arena.Knots);have ha:KX d.Store.Arena:=by unfold KX;omega
 unfold OI Rt;obtain⟨v,h1,h2,h3⟩:=Zc d.Store id (by omega);rw[h1,h2];simp only[Aa]
 cases decide (v<0)with
 |true=>exact⟨_,_,rfl,rfl⟩
 |false=>
  simp only[Ac];obtain⟨c,c1,c2⟩:=fI d.Store (by omega) ha id k hk;rw[c1,c2];simp only[Aa]
  cases c==0 with
  |true=>exact⟨_,_,rfl,rfl⟩
  |false=>
   simp only[Ac];obtain⟨u,ok,t1,t2⟩:=RE h c;rw[t1,t2];exact⟨_,_,rfl,rfl⟩
theorem Sw (d:Device) (hz:Hx d<=1048576):∃m,Hz d=some m/\H1 d=some m:=by
 unfold Hx at hz;obtain⟨r,hr⟩:=iD d.Flash (by omega);have hs:EM d.Store<=1048576:=by omega
 have hv:d.Store.Vols.length<=1048576:=by unfold EM at hs;omega
 unfold Hz H1;rw[hr.s];simp only[Aa];obtain⟨m,h1,h2,_⟩:=LW (body:=λs:List Shelf×Int=>Eh d r s.1 s.2) (body':=λs:List Shelf×Int=>El d s.1 s.2) (λ(o:List Shelf) i=>(o,i)) (λ(o:List Shelf) i=>(o,i)) d.Store.Vols.length (λi o=>o.length=i) (λ_=>True)
  (λo i hi ho=>by
   have hg:d.Store.Vols[i]?=some d.Store.Vols[i]:=Ad hi;simp only[Eh,El,AD,Ab hi,Af,AA,hg,Aa];obtain⟨l,q1,q2,q3⟩:=LW (body:=λs:Int×List ByteArray=>Eg d r d.Store.Vols[i] s.1 s.2) (body':=λs:Int×List ByteArray=>Ek d d.Store.Vols[i] s.1 s.2) (λ(o:List ByteArray) k=>(k,o)) (λ(o:List ByteArray) k=>(k,o)) 16 (λk o=>o.length=k) (λ_=>True)
    (λu k hk hu=>by
     obtain⟨t,ok,g1,g2⟩:=kD d hr hs d.Store.Vols[i].Id k hk;simp only[Eg,Ek];rw[Ab (by omega:(k:Int)<16),Af,Af,g1,g2];simp only[Aa];rw[C4 (by simp only[Aj];omega),ad1 (by omega)]
     exact .inl ⟨_,rfl,rfl,by simp only[Ah,Aj];omega⟩)
    (λu hu=>⟨u,by simp only[Eg];rw[Ae (by omega:¬((16:Nat):Int)<16),Ac],by simp only[Ek];rw[Ae (by omega:¬((16:Nat):Int)<16),Ac],trivial⟩) (s:=[]) rfl
   rw[q1,q2];simp only[Aa];rw[C4 (by simp only[Aj];omega),ad1 (by omega)]
   exact .inl ⟨_,rfl,rfl,by simp only[Ah,Aj];omega⟩)
  (λo ho=>⟨o,by simp only[Eh,AD,An,As,Ac],by simp only[El,AD,An,As,Ac],trivial⟩) (s:=[]) rfl
 rw[h1,h2];exact⟨m,rfl,rfl⟩
theorem VO (hr:He r):∃l,Aq (λs:List Int×Int=>HN r s.1 s.2) ([],0)=some l/\l.Nodup/\(∀x,x∈l↔∃y∈r,y.Page.Kind=2/\y.Page.Tx=x)/\l.length<=r.length:=by
 have c:=hr.len;obtain⟨l,h1,h2,h3,h4⟩:=Bx (body:=λs:List Int×Int=>HN r s.1 s.2) (λ(o:List Int) i=>(o,i)) r.length (λi o=>o.Nodup/\(∀x,x∈o↔∃y∈r.take i,y.Page.Kind=2/\y.Page.Tx=x)/\o.length<=i) (λo=>o.Nodup/\(∀x,x∈o↔∃y∈r,y.Page.Kind=2/\y.Page.Tx=x)/\o.length<=r.length)
  (λo i hi ho=>by
   obtain⟨o1,o2,o3⟩:=ho;have hx:=Ad hi;have et:r.take (i+1)=r.take i++ [r[i]]:=by rw[Az hi]
   refine .inl ?_;simp only[HN,AD,Ab hi,Af,AA,hx,Aa];rw[ad1 (by omega),Ry o _ (by omega)]
   cases hk:(r[i].Page.Kind==2)with
   |false=>
    simp only[Ac,Aa];refine⟨o,rfl,o1,λx=>?_,by omega⟩;rw[o2,et];constructor
    ·rintro⟨y,y1,y2⟩;exact⟨y,Ax _ y1,y2⟩
    rintro⟨y,y1,y2,y3⟩;rw[Al,A7]at y1
    rcases y1 with y1|rfl
    ·exact⟨y,y1,y2,y3⟩
    rw[y2]at hk;simp at hk
   |true=>
    have hk':r[i].Page.Kind=2:=by simpa using hk
    simp only[Af,Aa]
    cases hc:o.contains r[i].Page.Tx with
    |true=>
     have hc':r[i].Page.Tx∈o:=by simpa using hc
     simp only[Ap,Ac];refine⟨o,rfl,o1,λx=>?_,by omega⟩;rw[o2,et];constructor
     ·rintro⟨y,y1,y2⟩;exact⟨y,Ax _ y1,y2⟩
     rintro⟨y,y1,y2,y3⟩;rw[Al,A7]at y1
     rcases y1 with y1|rfl
     ·exact⟨y,y1,y2,y3⟩
     rw[<-y3];exact(o2 _).1 hc'
    |false=>
     have hc':r[i].Page.Tx∉o:=by
      intro h;rw[List.contains_iff_mem.2 h]at hc;cases hc
     simp only[AM,Af];rw[C4 (by simp only[Aj];omega)];refine⟨_,rfl,?_,λx=>?_,by simp;omega⟩
     ·rw[AY];exact⟨o1,by simp,λa ha b hb e=>by rw[A7]at hb;rw[e,hb]at ha;exact hc' ha⟩
     rw[Al,A7,o2,et];constructor
     ·rintro(⟨y,y1,y2⟩|rfl)
      ·exact⟨y,Ax _ y1,y2⟩
      exact⟨r[i],A8 _ (A7.2 rfl),hk',rfl⟩
     rintro⟨y,y1,y2,y3⟩;rw[Al,A7]at y1
     rcases y1 with y1|rfl
     ·exact .inl ⟨y,y1,y2,y3⟩
     exact .inr y3.symm)
  (λo ho=>⟨o,by simp only[HN,AD,An,As,Ac],by rw[Br]at ho;exact ho⟩) (s:=[]) ⟨Ce,by simp,by simp⟩
 exact⟨l,h1,h2,h3,h4⟩
theorem iQ {l:List Int} (hr:He r) (h1:l.Nodup) (h2:∀x,x∈l↔∃y∈r,y.Page.Kind=2/\y.Page.Tx=x):NI l=DA r:=by
 obtain⟨n1,n2,n3⟩:=LV r (λy hy=>(hr.tx y hy).1);refine Y1 ?_ n1 (λx=>?_)
 ·have hs:(NI l).Pairwise λx y=>x<=y:=by
   have:=List.pairwise_mergeSort (le:=λx y:Int=>decide (x<=y)) (λa b c h1 h2=>by simp at*;omega) (λa b=>by simp;omega) l;unfold NI;exact this.imp (λh=>by simpa using h)
  have hd:(NI l).Nodup:=by
   unfold NI;exact(List.mergeSort_perm l _).nodup_iff.2 h1
  unfold asc;exact(hs.and hd).imp (λh=>by have:=h.1;have:=h.2;omega)
 rw[n2,<-h2];unfold NI;rw[List.mem_mergeSort]
theorem W2 (t:ByteArray) (ht:(L t).length<=20000):∀(n a:Nat) (c:List GZ),(L t).length-a<=n->a<=(L t).length->c.length<=a->Aq (λs:List GZ×Int=>Jc t s.1 s.2) (c,(a:Int))=Aq (λs:List GZ×ByteArray×Int×Bool=>EP t s.1 s.2.1 s.2.2.1 s.2.2.2) (c,t,(a:Int),false)
 |n,a,c,hn,ha,ho=>by
  rw[A9,A9];simp only[EP,Jc];rw[CX];by_cases d:a<(L t).length
  ·rw[Ab (by omega:(a:Int)<((L t).length:Int))];simp only[Af,Aa,AM];rw[I1 t d,ad1 (by omega)];obtain⟨r1,a1,a2,a3⟩:=GJ t ((a+1:Nat):Int) (by omega) ⟨by omega,by omega⟩;have f:oI r1.2.1:=by
    rcases a3 with⟨_,_,e⟩|⟨_,_,b,_,_,e,_,_,e2,_⟩
    ·rw[e];exact⟨by omega,by omega⟩
    rw[e];exact⟨by omega,by omega⟩
   obtain⟨r2,b1,b2,b3⟩:=GJ t r1.2.1 (by omega) f;rw[a2];simp only[Aa];rw[b2];simp only[Aa];have l1:CU (DK.mk t ((a+1:Nat):Int) false)=some (if r1.2.2=true then(r1.1,DK.mk t r1.2.1 false)else(0,DK.mk t ((a+1:Nat):Int) true)):=by
    unfold CU;simp only;rw[a1];cases h:r1.2.2<;>simp[h]
   rw[l1]
   cases h1:r1.2.2 with
   |false=>
    simp only[CN,Iu,Aa,AM,Af];have l2:CU (DK.mk t ((a+1:Nat):Int) true)=some (0,DK.mk t ((a+1:Nat):Int) true):=by
     unfold CU;simp only;rw[a1];simp
    rw[l2];simp only[Aa,Af]
   |true=>
    simp only[BU,Aa,Ap,Ac];have l2:CU (DK.mk t r1.2.1 false)=some (if r2.2.2=true then(r2.1,DK.mk t r2.2.1 false)else(0,DK.mk t r1.2.1 true)):=by
     unfold CU;simp only;rw[b1];cases h:r2.2.2<;>simp[h]
    rw[l2]
    cases h2:r2.2.2 with
    |false=>
     simp only[CN,Iu,Aa,AM,Af]
    |true=>
     simp only[BU,Aa,Ap,Ac];obtain⟨v,c1,c2,_⟩:=bA (GZ.mk (qu (IntKind.i64.wrap ((L t)[a].toNat:Int)) 16) (Int.tmod (IntKind.i64.wrap ((L t)[a].toNat:Int)) 16) r1.1 r2.1);rw[c1,c2];simp only[Aa]
     cases v with
     |false=>simp only[AM,Af]
     |true=>
      simp only[Ap,Ac];rw[C4 (by simp;omega)];simp only[Aa]
      rcases b3 with⟨e,_⟩|⟨_,aa,b,m,k1,k2,k3,k4,k5,_⟩
      ·rw[h2]at e;cases e
      rcases a3 with⟨e,_⟩|⟨_,aa',b',m',p1,p2,p3,p4,p5,_⟩
      ·rw[h1]at e;cases e
      rw[k2]
      match n,hn with
      |n+1,hn=>exact W2 t ht n b _ (by omega) k5 (by simp;omega)
      |0,hn=>omega
  rw[Ae (by omega)];simp only[Ac,Aa]
theorem VN (t:ByteArray) (ht:(L t).length<=20000):MO t=H5 t:=by
 have h:=W2 t ht (L t).length 0 [] (by omega) (by omega) (by simp);rw[show((0:Nat):Int)=0 from rfl]at h;unfold MO H5;rw[h]
def tO:Page:=Page.mk 0 0 0 0 0 (bs [])
theorem W8 (r:List AE) (hl:r.length<=1048576) (t a c:Int) (h:(a=0/\c=0)\/(0<a/\0<c)):Ok r t a c=some (match YB r t a c with|some y=>(y.Page,true)|none=>(tO,false)):=by
 have hp:∀y:AE,(cond (y.Page.Kind==2) (cond (y.Page.Tx==t) (cond (y.Page.Part==a) (cond (c==0) (some true) (some (y.Page.Count==c))) (some false)) (some false)) (some false):Option Bool)=some (kH t a c y):=by
  intro y;unfold kH;cases y.Page.Kind==2<;>cases y.Page.Tx==t<;>cases y.Page.Part==a<;>simp only[Af,Ac,Bool.false_and,BI]
  rcases h with⟨rfl,rfl⟩|⟨h1,h2⟩
  ·simp
  rw[show(c==0)=false by simp;omega];simp[h1]
 unfold Ok;obtain⟨b,h1,h2⟩:=Bx (body:=λs:Int=>J0 r t a c s) (λ(_:Unit) i=>i) r.length (λi _=>∀(j:Nat) x,j<i->r[j]?=some x->kH t a c x=false) (λb=>match YB r t a c with|some y=>b= .inr (y.Page,true)|none=>b= .inl ())
  (λ_ i hi hs=>by
   have hx:=Ad hi;simp only[J0,AD,Ab hi,Af,AA,hx,Aa];rw[hp,ad1 (by omega)];simp only[Aa]
   cases e:kH t a c r[i]with
   |true=>
    refine .inr ⟨_,rfl,?_⟩;unfold YB;rw[iC r _ hs hx e]
   |false=>
    refine .inl ⟨(),by simp only[Ac],λj x hj d=>?_⟩;by_cases q:j=i
    ·subst q;rw[hx]at d;injection d with d;rw[<-d];exact e
    exact hs j x (by omega) d)
  (λ_ hs=>⟨.inl (),by simp only[J0,AD,An,As,Ac],by
   unfold YB
   rw[iB r _ (λj x hx=>hs j x (Ag.1 hx).1 hx)]⟩) (s:=()) (λj x hj=>by omega)
 rw[h1]
 cases hf:YB r t a c with
 |none=>rw[hf]at h2;simp only at h2;rw[h2];rfl
 |some y=>rw[hf]at h2;simp only at h2;rw[h2];rfl
theorem nB (r:List AE) (hr:He r) (t:Int) (v:Page×Bool) (hv:1<=v.1.Count/\v.1.Count<=9):∀(n:Nat) (a:Int) (text:ByteArray) (seq:Int),a+n=11->1<=a->a<=v.1.Count->(L text).length<=90*a.toNat->
  ∃b,Aq (λs:ByteArray×Int×Int=>IX r t v s.1 s.2.1 s.2.2) (text,seq,a)=some b/\(match parts r t n a v.1.Count (L text) seq with
   |none=>b= .inr (Tx.mk 0 0 [],false)
   |some (x,q)=>∃u,b= .inl (u,q)/\L u=x/\(L u).length<=1000)
 |0,a,text,seq,hn,h1,hc,ht=>by omega
 |n+1,a,text,seq,hn,h1,hc,ht=>by
  rw[A9];simp only[IX,parts];by_cases e:a<v.1.Count
  ·rw[Ab e,Ar (.inr e)];simp only[Af];rw[W8 r hr.len t a v.1.Count (.inr ⟨by omega,by omega⟩)];simp only[Aa]
   cases hf:YB r t a v.1.Count with
   |none=>
      simp only[AM,Af];exact⟨_,rfl,rfl⟩
   |some y=>
    simp only[Ap,Ac];have hy:=UX hf;have d:=hr.text y hy.1;have c:=gX hy.2 (by omega);rw[JK text y.Page.Text (by omega)];simp only[Aa];rw[DZ (by omega) (by omega),c];have es:L8 a seq y=(if y.Page.Seq<seq then y.Page.Seq else seq):=by
     unfold L8;by_cases q:y.Page.Seq<seq
     ·rw[Ar (.inr q),Ar q]
     rw[Au (by rintro(h|h);omega;exact q h),Au q]
    rw[es,<-Fu];exact nB r hr t v hv n (a+1) _ _ (by omega) (by omega) (by omega) (by rw[Fu,Ah];omega)
  rw[Ae e,Au (by rintro(h|h);omega;exact e h)];simp only[Ac];exact⟨_,rfl,text,rfl,rfl,by omega⟩
theorem XX (r:List AE) (hr:He r) (t:Int):∃x ok,MI r t=some (x,ok)/\Tb r t=(if ok=true then some x else none)/\x.Recs.length<=20000:=by
 unfold MI Tb;rw[W8 r hr.len t 0 0 (.inl ⟨rfl,rfl⟩)];simp only[Aa]
 have a:parts r t 11 0 0 [] 0=(match YB r t 0 0 with
  |none=>none
  |some y=>parts r t 10 1 y.Page.Count (L y.Page.Text) y.Page.Seq):=by
  rw[show(11:Nat)=10+1 from rfl];unfold parts;rw[Ar (.inl rfl)]
  cases YB r t 0 0 with
  |none=>rfl
  |some y=>
   simp only[AC];have:L8 0 0 y=y.Page.Seq:=by unfold L8;rw[Ar (.inl rfl)]
   rw[this];rfl
 rw[a]
 cases hf:YB r t 0 0 with
 |none=>exact⟨_,_,rfl,rfl,by simp⟩
 |some y=>
  simp only[Ap,Ac];have hy:=UX hf;have c:=hr.text y hy.1;have hc:=hr.cnt y hy.1;obtain⟨b,h1,h2⟩:=nB r hr t (y.Page,true) hc 10 1 y.Page.Text y.Page.Seq (by omega) (by omega) hc.1 (by omega);rw[h1];simp only[Aa]
  cases hp:parts r t 10 1 y.Page.Count (L y.Page.Text) y.Page.Seq with
  |none=>
   rw[hp]at h2;simp only at h2;rw[h2];exact⟨_,_,rfl,rfl,by simp⟩
  |some w=>
   obtain⟨x,q⟩:=w;rw[hp]at h2;obtain⟨u,rfl,rfl,h4⟩:=h2;simp only[B3];obtain⟨l,ok,r1,r2,r3⟩:=Vx u (by omega);rw[VN u (by omega),r1,uP,r2];simp only[Aa]
   cases ok with
   |true=>exact⟨_,_,rfl,rfl,r3⟩
   |false=>exact⟨_,_,rfl,rfl,r3⟩
theorem aA (r:List AE) (hr:He r):Rx r=some (Gp r):=by
 have c:=hr.len;have a:=LV r (λy hy=>(hr.tx y hy).1);have d:=a.2.2;obtain⟨l,l1,l2,l3,l4⟩:=VO hr;unfold Rx;rw[l1];simp only[Aa];unfold QS;rw[Ar (by omega),iQ hr l2 l3];simp only[Aa];obtain⟨b,h1,h2⟩:=Bx (body:=λs:List Tx×Int=>J5 r (DA r) s.1 s.2) (λ(o:List Tx) i=>(o,i)) (DA r).length (λi o=>o=((DA r).take i).filterMap (Tb r)) (λb=>b=Gp r)
  (λo i hi ho=>by
   have hx:=Ad hi;have et:(DA r).take (i+1)=(DA r).take i++ [(DA r)[i]]:=Az hi;have e:o.length<=i:=by
    rw[ho];have:=List.length_filterMap_le (Tb r) ((DA r).take i);rw[AK]at this;omega
   simp only[J5,AD,Ab hi,Af,AA,hx,Aa];rw[ad1 (by omega)];obtain⟨z,ok,k1,k2,k3⟩:=XX r hr (DA r)[i];rw[k1];simp only[Aa];refine .inl ?_
   cases ok with
   |true=>
    simp only[Af];rw[C4 (by simp only[Aj];omega)];refine⟨_,rfl,?_⟩;rw[et,LD,ho];simp only[List.filterMap_cons,List.filterMap_nil,k2,BU]
   |false=>
    refine⟨o,rfl,?_⟩;rw[et,LD,ho]
    simp[k2])
  (λo ho=>⟨o,by simp only[J5,AD,An,As,Ac],by rw[ho,Br];rfl⟩) (s:=[]) rfl
 rw[h1,h2];rfl
theorem jM (x:Tx):Rp x=some (qX x):=by
 unfold Rp qX
 cases h:x.Recs with
 |nil=>rfl
 |cons q m=>
  rw[Ab (by rw[BT,AH];omega:ln (q::m)>0),show gi (q::m) 0=some q from AA (i:=0)];rfl
theorem VY (h:Dd s) (a:List GZ) (hr:a.length<=1048576):MS s a=IA s a:=by
 have hl:=h.len;have f:=Kj h.ar (by have:=h.few;omega);have d:=FG s f (by omega);have c:=Ol s f (by omega);unfold MS IA;rw[d,c];simp only[Aa];obtain⟨b,h1,h2,_⟩:=LX (body:=λq:Int×List Vol×List Knot×Int=>Dk s a q.1 q.2.1 q.2.2.1 q.2.2.2) (body':=λq:Int×List Vol×List Knot×Int=>Gg s a q.1 q.2.1 q.2.2.1 q.2.2.2) (λ(t:Store) i=>(i,t.Vols,t.Arena.Knots,t.Next)) a.length (λ_ t=>Dd t) (λ_=>True)
  (λt i hi hP=>by
   have hx:=Ad hi;have g:Store.mk t.Vols (Arena.mk t.Arena.Knots) t.Next=t:=rfl;have e:=Vb hP a[i];simp only[Dk,Gg,AD,Ab hi,Af,AA,hx,Aa];rw[g,fG hP];unfold IV at e;split at e
   ·rw[e];simp only[Aa,AM,Af];rw[d,c];exact⟨rfl,.inr ⟨_,rfl,trivial⟩⟩
   obtain⟨u,u1,u2,_⟩:=e;rw[u1];simp only[Aa,Ap,Ac];rw[ad1 (by omega)]
   exact⟨by first|rfl|trivial,.inl ⟨u,rfl,u2⟩⟩)
  (λt _=>⟨by simp only[Dk,Gg,AD,An,As,Ac],.inl (t.Vols,t.Arena.Knots,t.Next),by simp only[Dk,AD,An,As,Ac],trivial⟩) (s:=s) h
 have e1:Aq (λq:Int×List Vol×List Knot×Int=>Dk s a q.1 q.2.1 q.2.2.1 q.2.2.2) (0,s.Vols,s.Arena.Knots,s.Next)=some b:=h1;have e2:Aq (λq:Int×List Vol×List Knot×Int=>Gg s a q.1 q.2.1 q.2.2.1 q.2.2.2) (0,s.Vols,s.Arena.Knots,s.Next)=some b:=h2;rw[e1,e2]
theorem UO (l:List Tx) (hl:l.length<=1048576) (hr:∀x∈l,x.Recs.length<=20000):Lu l=some (FD l):=by
 unfold Lu;obtain⟨b,h1,h2⟩:=Bx (body:=λs:Int×Int=>GF l s.1 s.2) (λ(o:Int) i=>(o,i)) l.length (λi o=>o=(eY (l.take i):Int)) (λb=>b=(eY l:Int))
  (λo i hi ho=>by
   have hx:=Ad hi;have et:l.take (i+1)=l.take i++ [l[i]]:=Az hi;have a:(l.take i).length=i:=by rw[AK];omega
   simp only[GF,AD,Ab hi,Af,AA,hx,Aa];rw[ad1 (by omega),jM];simp only[Aa];refine .inl ?_
   cases hb:qX l[i]with
   |true=>exact⟨(i:Int),rfl,by rw[et,Pm,Ar hb,a]⟩
   |false=>exact⟨o,rfl,by rw[et,Pm,Au (by rw[hb];simp),ho]⟩)
  (λo ho=>⟨o,by simp only[GF,AD,An,As,Ac],by rw[ho,Br]⟩) (s:=0) rfl
 rw[h1,h2];simp only[Aa];have d:=nV l;have hd:dr l (eY l:Int) (ln l)=some (FD l):=by
  unfold dr;rw[BT,Ar (by omega),AZ,AZ,AT (by simp)];rfl
 rw[hd];simp only[Aa];obtain⟨b1,b2⟩:=RX l;obtain⟨c,q1,q2⟩:=Bx (body:=λs:List Tx×Int=>GE (FD l) s.1 s.2) (λ(o:List Tx) i=>(o,i)) (FD l).length (λi o=>o=(FD l).take i) (λb=>b=FD l)
  (λo i hi ho=>by
   have hx:=Ad hi;have e:=hr _ (b2 _ (Bm hi));have et:(FD l).take (i+1)=(FD l).take i++ [(FD l)[i]]:=Az hi;have f:o.length<=1048576:=by rw[ho,AK];omega
   simp only[GE,AD,Ab hi,Af,AA,hx,Aa];rw[IK (by omega)];simp only[Aa];rw[C4 (by simp only[Aj];omega)];simp only[Aa];rw[ad1 (by omega)]
   exact .inl ⟨_,rfl,by rw[et,<-ho]⟩)
  (λo ho=>⟨o,by simp only[GE,AD,An,As,Ac],by rw[ho,Br]⟩) (s:=[]) rfl
 rw[q1,q2];rfl
theorem Yg (h:fB f r):Pa f=some (EV r-1):=by
 have a:=h.len;unfold Pa;rw[h.i];simp only[Aa];obtain⟨b,h1,h2⟩:=Bx (body:=λs:Int×Int=>Ip r s.1 s.2) (λ(o:Int) i=>(o,i)) r.length (λi o=>o=EV (r.take i)-1) (λb=>b=EV r-1)
  (λo i hi ho=>by
   have hx:=Ad hi;have et:r.take (i+1)=r.take i++ [r[i]]:=Az hi;simp only[Ip,AD,Ab hi,Af,AA,hx,Aa];rw[ad1 (by omega)];refine .inl ⟨_,rfl,?_⟩;rw[et,Xr,ho];by_cases e:r[i].Page.Seq>=EV (r.take i)
   ·rw[Ar (by omega),Ar e];omega
   rw[Au (by omega),Au e])
  (λo ho=>⟨o,by simp only[Ip,AD,An,As,Ac],by rw[ho,Br]⟩) (s:=0) (by simp[EV])
 rw[h1,h2];rfl
theorem d9 (r:List AE) (hr:He r):Aq (λs:Int×Int=>Gf r s.1 s.2) (0,1)=some (Jh r):=by
 have a:=hr.len;obtain⟨b,h1,h2⟩:=Bx (body:=λs:Int×Int=>Gf r s.1 s.2) (λ(o:Int) i=>(i,o)) r.length (λi o=>o=Jh (r.take i)) (λb=>b=Jh r)
  (λo i hi ho=>by
   have hx:=Ad hi;have ht:=hr.tx _ (Bm hi);have et:r.take (i+1)=r.take i++ [r[i]]:=Az hi;simp only[Gf,AD,Ab hi,Af,AA,hx,Aa];rw[ad1 (by omega),DZ (by omega) (by omega)];refine .inl ?_;by_cases e:r[i].Page.Kind=2
   ·rw[show(r[i].Page.Kind==2)=true by simpa using e];refine⟨_,rfl,?_⟩;rw[et,Xk,ho];by_cases e2:r[i].Page.Tx>=Jh (r.take i)
    ·rw[Ar (by omega),Ar ⟨e,e2⟩]
    rw[Au (by omega),Au λhh=>e2 hh.2]
   rw[show(r[i].Page.Kind==2)=false by simpa using e];refine⟨_,rfl,?_⟩
   rw[et,Xk,ho,Au λhh=>e hh.1])
  (λo ho=>⟨o,by simp only[Gf,AD,An,As,Ac],by rw[ho,Br]⟩) (s:=1) rfl
 rw[<-h2];exact h1
theorem UQ (l:List Tx) (hl:l.length<=1048576) (hr:∀x∈l,x.Recs.length<=20000):Aq (λs:Int×List Vol×List Knot×Int×Int=>ES l s.1 s.2.1 s.2.2.1 s.2.2.2.1 s.2.2.2.2) (0,[],[],1,0)=Aq (λs:Int×List Vol×List Knot×Int×Int=>CR l s.1 s.2.1 s.2.2.1 s.2.2.2.1 s.2.2.2.2) (0,[],[],1,0):=by
 obtain⟨b,h1,h2,_⟩:=LX (body:=λs:Int×List Vol×List Knot×Int×Int=>CR l s.1 s.2.1 s.2.2.1 s.2.2.2.1 s.2.2.2.2) (body':=λs:Int×List Vol×List Knot×Int×Int=>ES l s.1 s.2.1 s.2.2.1 s.2.2.2.1 s.2.2.2.2) (λ(o:Store×Int) i=>(i,o.1.Vols,o.1.Arena.Knots,o.1.Next,o.2)) l.length (λ_ o=>Dd o.1) (λ_=>True)
  (λo i hi hP=>by
   obtain⟨t,b0⟩:=o;simp only at hP;have hx:=Ad hi;have d:=hr _ (Bm hi);have c:Store.mk t.Vols (Arena.mk t.Arena.Knots) t.Next=t:=rfl;simp only[CR,ES,AD,Ab hi,Af,AA,hx,Aa];rw[c,VY hP _ (by omega),ad1 (by omega)];have a:=SP hP l[i].Recs (by omega);unfold ME at a;obtain⟨j,hj⟩:∃j,(cond ((i:Int)==0) (some l[i].Num) (some b0):Option Int)=some j:=by
    cases((i:Int)==0)with
    |true=>exact⟨_,rfl⟩
    |false=>exact⟨_,rfl⟩
   rw[hj];simp only[Aa];split at a
   ·rw[a];exact⟨rfl,.inl ⟨(t,j),rfl,hP⟩⟩
   obtain⟨u,u1,u2,_⟩:=a;rw[u1]
   exact⟨rfl,.inl ⟨(u,j),rfl,u2⟩⟩)
  (λo _=>⟨by simp only[CR,ES,AD,An,As,Ac],(o.1.Vols,o.1.Arena.Knots,o.1.Next,o.2),by simp only[CR,AD,An,As,Ac],trivial⟩) (s:=(Store.mk [] (Arena.mk []) 1,0)) Wn
 have e1:Aq (λs:Int×List Vol×List Knot×Int×Int=>CR l s.1 s.2.1 s.2.2.1 s.2.2.2.1 s.2.2.2.2) (0,[],[],1,0)=some b:=h1;have e2:Aq (λs:Int×List Vol×List Knot×Int×Int=>ES l s.1 s.2.1 s.2.2.1 s.2.2.2.1 s.2.2.2.2) (0,[],[],1,0)=some b:=h2;rw[e1,e2]
theorem VT (hf:Ir f):IH f=G5 f:=by
 obtain⟨r,hs,_⟩:=nZ hf;have hr:=W4 hs hf;obtain⟨g1,g2⟩:=UT hr;obtain⟨b1,b2⟩:=RX (Gp r);have a:=lG r;have b:EV r<=1000000001:=a.2.2 _ (by omega) (λy hy=>by have:=(hr.seq y hy).2;omega);unfold IH G5;rw[Va,WX hf,hs.s,hs.i,Na f hf.cap,Yr,Na f hf.cap,Yg hs];unfold K4 MN;simp only[Aa,Ap,Ac];rw[Ra r hr,d9 r hr,SF r hr,aA r hr];simp only[Aa];rw[NN _ g1 g2,UO _ g1 g2];simp only[Aa];rw[UQ (FD (Gp r)) (by omega) (λx hx=>g2 x (b2 x hx)),DZ (by omega) (by omega),show EV r-1+1=EV r by omega]
def Qd (s:Store) (i:Nat) (v:Vol):Bool:=decide (1<=v.Id/\v.Id<=9)&&((i==0||decide (((s.Vols[i-1]?).map Vol.Id).getD 0<v.Id))&&CC s.Arena.Knots v.Root)
def Pq (s:Store) (r:Int):Bool:=(G6 s.Arena.Knots r).all λx=>decide (x<s.Next)
def Nk (s:Store) (i:Nat):Bool:=!(Bo s.Arena.Knots (i:Int)).Leaf||(Bo s.Arena.Knots (i:Int)).Kids.all λx=>decide (x<s.Next)
theorem uQ (hi:i<s.Vols.length) (hl:s.Vols.length<=3) (ha:s.Arena.Knots.length<=1048576) (f:Option Bool) (hf:f=some (!CC s.Arena.Knots s.Vols[i].Root)):
  ((BV s.Vols[i].Id 1 9).bind λv3=>cond (!v3) (some true) (bif(decide ((i:Int)>0))then((gi s.Vols (sb (i:Int) 1)).bind λx2=>bif(decide (x2.Id>=s.Vols[i].Id))then(some true)else f)else f):Option Bool)=some (!Qd s i s.Vols[i]):=by
 rw[IE];simp only[Aa];unfold Qd;by_cases h1:1<=s.Vols[i].Id/\s.Vols[i].Id<=9
 ·rw[Ab h1];simp only[Ap,Ac,BI];by_cases h0:i=0
  ·rw[Ae (by omega:¬(i:Int)>0),Ac,show(i==0)=true by simpa using h0,fJ,BI,hf]
  rw[Ab (by omega:(i:Int)>0),Af,CB (by omega) (by omega),show(i:Int)-1=((i-1:Nat):Int) by omega,AA,Ad (by omega),show(i==0)=false by simpa using h0,HS];simp only[Aa,Bt,Bu];by_cases h2:s.Vols[i-1].Id<s.Vols[i].Id
  ·rw[Ae (by omega),Ab h2,Ac,BI,hf]
  rw[Ab (by omega),Ae h2,Af];rfl
 rw[Ae h1];rfl
theorem pW (x a b:Int):Hp x a b=BV x a b:=by rw[Oj,IE]
theorem jC {a:Arena} (ha:a.Knots.length<=1048576) (r:Int):(cond (r !=(-1)) ((EF a r).bind λv2=>some (!v2)) (some false):Option Bool)=some (!CC a.Knots r):=by
 rw[Lt a ha];unfold CC
 cases e:r== -1 with
 |true=>simp[bne,e]
 |false=>simp[bne,e]
theorem Sm (hz:EM s<=1048576) (ha:Cr s.Arena.Knots=true):s.Arena.Knots.length<=300000:=by
 unfold EM Ml zl at hz;have a:∀l:List Knot,(∀k∈l,k.Kids.length=4)->4*l.length<=(l.map Iv).sum:=by
  intro l
  induction l with
  |nil=>intro _;simp
  |cons k l ih=>
   intro h;have h1:=h k (by simp)
   have h2:=ih λx hx=>h x (by simp[hx])
   rw[BO,JN,AH];unfold Iv at h2⊢;omega
 have:=a s.Arena.Knots λk hk=>by
  obtain⟨i,hi,rfl⟩:=AI hk;have:=(FU.1 ha i hi).1
  rwa [LZ hi]at this
 omega
theorem Dl (l:List α) (p:Nat->α->Bool):(l.zipIdx.all λz=>p z.2 z.1)=true↔∀(i:Nat) x,l[i]?=some x->p i x=true:=by
 rw[Ca];constructor
 ·intro h i x hx;exact h (x,i) (by rw[HC];exact hx)
 intro h z hz;rw[HC]at hz;exact h z.2 z.1 hz
theorem XK (h3:s.Vols.length<=3) (h:∀(i:Nat) v,s.Vols[i]?=some v->Qd s i v=true):(∀v∈s.Vols,1<=v.Id/\v.Id<=9)/\(s.Vols.map Vol.Id).Pairwise (·<·)/\∀r∈AR s,CC s.Arena.Knots r=true:=by
 have hv:∀(i:Nat) v,s.Vols[i]?=some v->(1<=v.Id/\v.Id<=9)/\(i=0\/∃w,s.Vols[i-1]?=some w/\w.Id<v.Id)/\CC s.Arena.Knots v.Root=true:=λi v hi=>by
  have:=h i v hi;unfold Qd at this;rw[Ai,Ai,A4,BM]at this;obtain⟨k1,k2,k3⟩:=this;refine⟨k1,?_,k3⟩
  rcases k2 with k2|k2
  ·exact .inl (by simpa using k2)
  by_cases e:i=0
  ·exact .inl e
  right;have b:=(Ag.1 hi).1;rw[Ad (show i-1<s.Vols.length by omega)]at k2⊢;exact⟨_,rfl,by simpa using k2⟩
 refine⟨λv hm=>?_,?_,λr hr=>?_⟩
 ·obtain⟨i,hi,rfl⟩:=AI hm;exact(hv i _ (Ad hi)).1
 ·rw[CL];have a:∀(n i:Nat) v w,s.Vols[i]?=some v->s.Vols[i+1+n]?=some w->v.Id<w.Id:=by
   intro n
   induction n with
   |zero=>
    intro i v w hi hw
    rcases(hv _ _ hw).2.1 with e|⟨u,u1,u2⟩
    ·omega
    rw[show i+1+0-1=i by omega,hi]at u1
    injection u1 with u1
    rw[u1];exact u2
   |succ n ih=>
    intro i v w hi hw
    rcases(hv _ _ hw).2.1 with e|⟨u,u1,u2⟩
    ·omega
    rw[show i+1+(n+1)-1=i+1+n by omega]at u1;have:=ih i v u hi u1;omega
  intro i j hi hj c;rw[AQ]at hi hj;rw[List.getElem_map,List.getElem_map];exact a (j-i-1) i _ _ (Ad hi) (by rw[show i+1+(j-i-1)=j by omega];exact Ad hj)
 obtain⟨v,hm,rfl⟩:=AG.1 hr;obtain⟨i,hi,rfl⟩:=AI hm;exact(hv i _ (Ad hi)).2.2
theorem j9 {p:Nat->Bool} (h:HV n p=n):∀j,j<n->p j=true:=by
 induction n with
 |zero=>intro j hj;omega
 |succ n ih=>
  rw[HP]at h
  have a:∀m,HV m p<=m:=λm=>by
   have:=BF p (List.range m);rw[CG]at this;exact this
  have:=a n;intro j hj;by_cases e:p n=true
  ·rw[Ar e]at h;by_cases e2:j=n
   ·rw[e2];exact e
   exact ih (by omega) j (by omega)
  rw[Au e]at h;omega
theorem X2 (h3:s.Vols.length<=3) (hz:EM s<=1048576) (ha:Cr s.Arena.Knots=true) (hn:1<=s.Next/\s.Next<=1000000000):
  Ff s=some ((s.Vols.zipIdx.all λz=>Qd s z.2 z.1&&Pq s z.1.Root)&&(Np s.Arena.Knots (AR s)).length==s.Arena.Knots.length):=by
 have hl:=Sm hz ha;have b:(AR s).length=s.Vols.length:=by unfold AR;rw[AQ]
 unfold Ff;rw[BT,Ae (by omega),Ac,FM _ (by omega),ha,IE,Ab hn];simp only[Aa,Ap,Ac];have q:=KH (body:=λq:Int=>EC s q) s.Vols (λi v=>Qd s i v&&Pq s v.Root) (.inr false) (.inl ()) (by omega)
  (λi v hv=>by
   obtain⟨hi,rfl⟩:=Ag.1 hv;simp only[EC,AD,Ab hi,Af,AA,hv,Aa];rw[JX _ (by omega)];simp only[Aa];rw[uQ hi h3 (by omega) _ rfl];simp only[Aa]
   cases hk:Qd s i s.Vols[i]with
   |false=>rfl
   |true=>
    have hr:CC s.Arena.Knots s.Vols[i].Root=true:=by
     unfold Qd at hk;rw[Ai,Ai]at hk;exact hk.2.2
    simp only[Ap,Ac,BI];have e16:(G6 s.Arena.Knots s.Vols[i].Root).length=16:=by unfold G6;simp
    have q:=KH (body:=λq:Int=>EB s s.Vols[i] q) (G6 s.Arena.Knots s.Vols[i].Root) (λ_ x=>decide (x<s.Next)) (.inr (.inr (.inr false))) (.inl ()) (by omega)
     (λk x hx=>by
      have hk:=(Ag.1 hx).1;rw[e16]at hk;simp only[EB];rw[lJ hk]at hx
      injection hx with hx
      rw[Ab (by omega:(k:Int)<16),Af,SB _ ha hr hk,hx];simp only[Aa];rw[ad1 (by omega)];by_cases e:x<s.Next
      ·rw[Ab e,Ae (by omega)];rfl
      rw[Ae e,Ab (by omega)];rfl)
     (by rw[e16];simp only[EB];rw[Ae (by omega:¬((16:Nat):Int)<16),Ac])
    rw[q];simp only[Aa];rw[ad1 (by omega)];have:((G6 s.Arena.Knots s.Vols[i].Root).zipIdx.all λz=>decide (z.1<s.Next))=Pq s s.Vols[i].Root:=by
     unfold Pq;rw[Ck,Dl (p:=λ_ x=>decide (x<s.Next)),Ca];exact⟨λh x hx=>by obtain⟨k,hk,rfl⟩:=AI hx;exact h k _ (Ad hk),λh k x hx=>h x (A6 hx)⟩
    rw[this]
    cases Pq s s.Vols[i].Root<;>rfl)
  (by simp only[EC,AD,An,As,Ac])
 rw[q];simp only[Aa]
 cases a:s.Vols.zipIdx.all λz=>Qd s z.2 z.1&&Pq s z.1.Root with
 |false=>rfl
 |true=>
  have hk:∀(i:Nat) v,s.Vols[i]?=some v->Qd s i v=true:=λi v hv=>by
   have:=(Dl s.Vols (λi v=>Qd s i v&&Pq s v.Root)).1 a i v hv;rw[Ai]at this;exact this.1
  obtain⟨_,_,hr⟩:=XK h3 hk;simp only[Af,B3];rw[L5 s (by omega)];simp only[Aa];rw[PV _ (by omega) ha _ (by omega) hr];simp only[Aa,BI];rw[BT,BT];congr 1;rw[Ck,DF,DF];omega
theorem Yb (h3:s.Vols.length<=3) (hz:EM s<=1048576) (ha:Cr s.Arena.Knots=true) (hn:1<=s.Next/\s.Next<=1000000000):
  Fo s=some ((s.Vols.zipIdx.all λz=>Qd s z.2 z.1)&&(s.Arena.Knots.zipIdx.all λz=>BC s.Arena.Knots (AR s) z.2&&Nk s z.2)):=by
 have hl:=Sm hz ha;unfold Fo;rw[BT,Ae (by omega),Ac,GW _ (by omega),ha,Oj,Ab hn];simp only[Aa,Ap,Ac];obtain⟨b,h1,h2⟩:=Bx (body:=λq:List Int×Int=>EI s q.1 q.2) (λ(o:List Int) i=>(o,i)) s.Vols.length (λi o=>o.length<=5*i/\(∀(j:Nat) v,j<i->s.Vols[j]?=some v->Qd s j v=true)/\∀n:Nat,(n:Int)∈o↔BC s.Arena.Knots ((AR s).take i) n=true) (λb=>((s.Vols.zipIdx.all λz=>Qd s z.2 z.1)=true/\∃l,b= .inl l/\l.length<=5000/\∀i:Nat,(i:Int)∈l↔BC s.Arena.Knots (AR s) i=true)\/((s.Vols.zipIdx.all λz=>Qd s z.2 z.1)=false/\b= .inr false))
  (λo i hi ho=>by
   obtain⟨o1,o3,o2⟩:=ho;have hx:=Ad hi;have d:(AR s)[i]?=some s.Vols[i].Root:=by unfold AR;rw[AF,hx];rfl
   simp only[EI,AD,Ab hi,Af,AA,hx,Aa];rw[pW,uQ hi h3 (by omega) _ (jC (by omega) _)];simp only[Aa]
   cases hk:Qd s i s.Vols[i]with
   |false=>
    refine .inr ⟨_,rfl,.inr ⟨?_,rfl⟩⟩
    cases a:s.Vols.zipIdx.all λz=>Qd s z.2 z.1 with
    |false=>rfl
    |true=>
     have:=(Dl s.Vols (Qd s)).1 a i _ hx;rw[hk]at this;cases this
   |true=>
    have hr:CC s.Arena.Knots s.Vols[i].Root=true:=by
     unfold Qd at hk;rw[Ai,Ai]at hk;exact hk.2.2
    obtain⟨m,m1,m2,m3⟩:=MG s.Arena (by omega) ha hr;simp only[Ap,Ac];rw[m1];simp only[Aa];rw[C4 (by omega),ad1 (by omega)];refine .inl ⟨o++m,rfl,by simp;omega,λj v hj hv=>?_,λn=>?_⟩
    ·by_cases e:j<i
     ·exact o3 j v e hv
     have e2:j=i:=by omega
     subst e2;rw[hx]at hv
     injection hv with hv
     rw[<-hv];exact hk
    rw[Al,o2,m3];unfold BC
    rw[ND d,BM])
  (λo ho=>⟨_,by simp only[EI,AD,An,As,Ac],.inl ⟨(Dl s.Vols (Qd s)).2 λi v hv=>ho.2.1 i v (Ag.1 hv).1 hv,o,rfl,by have:=ho.1;omega,by
   have:=ho.2.2;rw[AT (by unfold AR;rw[AQ];exact A5 _)]at this
   exact this⟩⟩) (s:=[]) ⟨by simp,λj v hj=>by omega,λn=>by simp[BC]⟩
 rw[h1]
 rcases h2 with⟨e,l,rfl,h4,h5⟩|⟨e,rfl⟩
 ·rw[e];simp only[Aa,B3,BI]
  have c:∀i:Nat,l.contains (i:Int)=BC s.Arena.Knots (AR s) i:=λi=>by
   rw[Ck,List.contains_iff_mem];exact h5 i
  have q:=KH (body:=λq:Int=>EH s l q) s.Arena.Knots (λi _=>BC s.Arena.Knots (AR s) i&&Nk s i) (.inr false) (.inl ()) (by omega)
   (λi k hk=>by
    have hi:=(Ag.1 hk).1;simp only[EH,AD,Ab hi,Af];rw[FR (by omega) (by omega),Ry l _ (by omega),c];simp only[Aa]
    cases BC s.Arena.Knots (AR s) i with
    |false=>rfl
    |true=>
     simp only[Ap,Ac,BI];have h44:=(DL ha (r:=(i:Int)) (by omega) (by omega)).1;have q:=KH (body:=λq:Int=>EG s (Bo s.Arena.Knots (i:Int)) q) (Bo s.Arena.Knots (i:Int)).Kids (λ_ x=>!(Bo s.Arena.Knots (i:Int)).Leaf||decide (x<s.Next)) (.inr (.inr (.inr false))) (.inl ()) (by omega)
      (λt x hx=>by
       have ht:=(Ag.1 hx).1;simp only[EG,AD,Ab ht,Af,AA,hx,Aa];rw[ad1 (by omega)]
       cases(Bo s.Arena.Knots (i:Int)).Leaf with
       |false=>rfl
       |true=>
        by_cases e:x<s.Next
        ·rw[Ab e,Ae (by omega)];rfl
        rw[Ae e,Ab (by omega)];rfl)
      (by simp only[EG,AD,An,As,Ac])
     rw[q];simp only[Aa];rw[ad1 (by omega)];have:((Bo s.Arena.Knots (i:Int)).Kids.zipIdx.all λz=>!(Bo s.Arena.Knots (i:Int)).Leaf||decide (z.1<s.Next))=Nk s i:=by
      unfold Nk;rw[Ck,Dl (p:=λ_ x=>!(Bo s.Arena.Knots (i:Int)).Leaf||decide (x<s.Next)),BM,Ca]
      cases(Bo s.Arena.Knots (i:Int)).Leaf with
      |false=>simp
      |true=>
       simp only[Ap,HS,CN,false_or];exact⟨λh x hx=>by obtain⟨k,hk,rfl⟩:=AI hx;exact h k _ (Ad hk),λh k x hx=>h x (A6 hx)⟩
     rw[this]
     cases Nk s i<;>rfl)
   (by simp only[EH,AD,An,As,Ac])
  rw[q]
  cases s.Arena.Knots.zipIdx.all λz=>BC s.Arena.Knots (AR s) z.2&&Nk s z.2<;>rfl
 rw[e];rfl
theorem Y4 (hz:EM s<=1048576):∃v,Fo s=some v/\Ff s=some v/\(v=true->Dd s):=by
 have w:s.Vols.length<=1048576:=by unfold EM at hz;omega
 have b:s.Arena.Knots.length<=1048576:=by
  unfold EM Ml at hz;have:=D9 (z:=Iv) (l:=s.Arena.Knots);omega
 by_cases h3:s.Vols.length<=3
 ·cases ha:Cr s.Arena.Knots with
  |false=>
   refine⟨false,?_,?_,λh=>by cases h⟩
   ·unfold Fo;rw[BT,Ae (by omega),Ac,GW _ b,ha];rfl
   unfold Ff;rw[BT,Ae (by omega),Ac,FM _ b,ha];rfl
  |true=>
   by_cases hn:1<=s.Next/\s.Next<=1000000000
   ·rw[Yb h3 hz ha hn,X2 h3 hz ha hn];have hl:=Sm hz ha;have o:(s.Vols.zipIdx.all λz=>Qd s z.2 z.1)=true->(((s.Vols.zipIdx.all λz=>Qd s z.2 z.1&&Pq s z.1.Root)=true/\(Np s.Arena.Knots (AR s)).length=s.Arena.Knots.length)↔(s.Arena.Knots.zipIdx.all λz=>BC s.Arena.Knots (AR s) z.2&&Nk s z.2)=true):=by
     intro hk;have d:=(Dl s.Vols (Qd s)).1 hk;obtain⟨_,_,hr⟩:=XK h3 d;have p:(Np s.Arena.Knots (AR s)).length=s.Arena.Knots.length↔∀j,j<s.Arena.Knots.length->BC s.Arena.Knots (AR s) j=true:=by
      have:(Np s.Arena.Knots (AR s)).length=HV s.Arena.Knots.length (BC s.Arena.Knots (AR s)):=by unfold Np HV;rw[AQ]
      rw[this];exact⟨j9,R3⟩
     rw[p,Dl s.Vols (λi v=>Qd s i v&&Pq s v.Root),Dl s.Arena.Knots (λi _=>BC s.Arena.Knots (AR s) i&&Nk s i)];constructor
     ·rintro⟨g1,g2⟩ j k hj;have m:=(Ag.1 hj).1;have hu:=g2 j m;rw[hu,BI];unfold Nk
      cases a:(Bo s.Arena.Knots (j:Int)).Leaf with
      |false=>rfl
      |true=>
       rw[Ap,HS,Ca];intro x hx;obtain⟨r,r1,r2⟩:=ZQ ha hr m hu a hx;obtain⟨v,v1,rfl⟩:=AG.1 r1;obtain⟨i,hi,rfl⟩:=AI v1;have:=g1 i _ (Ad hi);rw[Ai]at this;have h2:=this.2;unfold Pq at h2;exact Ca.1 h2 x r2
     intro g
     have gu:∀j,j<s.Arena.Knots.length->BC s.Arena.Knots (AR s) j=true/\Nk s j=true:=λj hj=>by
      have:=g j _ (Ad hj)
      rwa [Ai]at this
     refine⟨λi v hv=>?_,λj hj=>(gu j hj).1⟩;rw[d i v hv,BI];have q:=hr v.Root (AG.2 ⟨v,A6 hv,rfl⟩);unfold Pq;rw[Ca];intro x hx;obtain⟨c,hc,rfl⟩:=AG.1 hx;have u:c<16:=by simpa using hc
     rw[A4];unfold O1;by_cases e1:v.Root<0
     ·rw[Ar e1];omega
     rw[Au e1];by_cases e2:HT (Bo s.Arena.Knots v.Root) (c/4)<0
     ·rw[Ar e2];omega
     rw[Au e2]
     rcases BE q with e|⟨k0,k1,k2⟩
     ·omega
     rcases Eq ha k0 k1 k2 (show c/4<4 by omega)with e|⟨e3,e4,e5⟩
     ·omega
     have t:(HT (Bo s.Arena.Knots v.Root) (c/4)).toNat<s.Arena.Knots.length:=by omega
     have f:((HT (Bo s.Arena.Knots v.Root) (c/4)).toNat:Int)=HT (Bo s.Arena.Knots v.Root) (c/4):=by omega
     have a:=(gu _ t).2;unfold Nk at a;rw[f,e5,Ap,HS,Ca]at a;obtain⟨g4,gk⟩:=DL ha e3 (by omega);have:=a _ (A6 (gk (c %4) (by omega)).1);simpa using this
    cases hA:s.Vols.zipIdx.all λz=>Qd s z.2 z.1 with
    |false=>
     have hB:(s.Vols.zipIdx.all λz=>Qd s z.2 z.1&&Pq s z.1.Root)=false:=by
      cases hB:s.Vols.zipIdx.all λz=>Qd s z.2 z.1&&Pq s z.1.Root with
      |false=>rfl
      |true=>
       have:=(Dl s.Vols (Qd s)).2 λi v hv=>by
        have:=(Dl s.Vols (λi v=>Qd s i v&&Pq s v.Root)).1 hB i v hv;rw[Ai]at this;exact this.1
       rw[hA]at this;cases this
     rw[hB];exact⟨false,rfl,rfl,λh=>by cases h⟩
    |true=>
     have hk:=o hA;rw[BI];refine⟨_,rfl,?_,λhv=>?_⟩
     ·congr 1;rw[Ck,<-hk,Ai,DF]
     obtain⟨g1,g2⟩:=hk.2 hv;have d:=(Dl s.Vols (Qd s)).1 hA;obtain⟨a1,a2,a3⟩:=XK h3 d
     have hu:∀j,j<s.Arena.Knots.length->BC s.Arena.Knots (AR s) j=true:=λj hj=>by
      have:=(Dl s.Arena.Knots (λi _=>BC s.Arena.Knots (AR s) i&&Nk s i)).1 hv j _ (Ad hj);rw[Ai]at this;exact this.1
     have n:=QG ha s.Arena.Knots.length (AR s) a3;rw[R3 hu]at n;have y:(AR s).length=s.Vols.length:=by unfold AR;rw[AQ]
     exact⟨⟨h3,ha,hn,a1,a2,a3,λr hr x hx=>by
      obtain⟨v,v1,rfl⟩:=AG.1 hr;obtain⟨i,hi,rfl⟩:=AI v1;have:=(Dl s.Vols (λi v=>Qd s i v&&Pq s v.Root)).1 g1 i _ (Ad hi);rw[Ai]at this;have h2:=this.2;unfold Pq at h2
      simpa using Ca.1 h2 x hx,by omega⟩,hu⟩
   refine⟨false,?_,?_,λh=>by cases h⟩
   ·unfold Fo;rw[BT,Ae (by omega),Ac,GW _ b,ha,Oj,Ae hn];rfl
   unfold Ff;rw[BT,Ae (by omega),Ac,FM _ b,ha,IE,Ae hn];rfl
 refine⟨false,?_,?_,λh=>by cases h⟩
 ·unfold Fo;rw[BT,Ab (by omega)];rfl
 unfold Ff;rw[BT,Ab (by omega)];rfl
theorem Ve {body:Int×Int->Option ((Int×Int)⊕Int)} (l:List Int) (p:Int->Bool) (n0:Int) (h0:0<=n0) (hM:(l.length:Int)+n0<=1152921504606846976) (hb:∀(n:Int) (i:Nat) x,l[i]?=some x->body (n,(i:Int))=(bif p x then some (.inl (ad n 1,ad (i:Int) 1))else some (.inl (n,ad (i:Int) 1)))) (he:∀n,body (n,(l.length:Int))=some (.inr n)):Aq body (n0,0)=some (n0+((l.filter p).length:Int)):=by
 obtain⟨b,h1,rfl⟩:=Bx (body:=body) (λ(n:Int) i=>(n,i)) l.length (λi n=>n=n0+(((l.take i).filter p).length:Int)) (λn=>n=n0+((l.filter p).length:Int))
  (λn i hi hn=>by
   have hg:l[i]?=some l[i]:=Ad hi;have a:=BF p (l.take i);simp only[AK]at a;refine .inl ?_;rw[hb n i _ hg];have et:l.take (i+1)=l.take i++ [l[i]]:=by rw[Az hi]
   cases hp:p l[i]with
   |true=>
    simp only[Af];rw[DZ (by omega) (by omega),ad1 (by omega)];refine⟨_,rfl,?_⟩;rw[et,AO,hn,Cn (by simpa using hp),Gh,Ah,Aj];omega
   |false=>
    simp only[Ac];rw[ad1 (by omega)];refine⟨_,rfl,?_⟩
    rw[et,AO,hn,BZ (by simp[hp]),Gh,Aw])
  (λn hn=>⟨n,he n,by rw[hn,Br]⟩) (s:=n0) (by simp)
 exact h1
theorem kC (s:Store) (hv:s.Vols.length<=1048576) (ha:KX s.Arena) (c:Int) (hc:0<c):∃n:Int,QZ s c=some n/\Rs s c=some n/\0<=n/\n<=16777216:=by
 have hN:=Oe s ha s.Vols.length (A5 _);have b:=BF (λx:Int=>x==c) (Gq s s.Vols.length);refine⟨(((Gq s s.Vols.length).filter λx=>x==c).length:Int),?_,?_,by omega,by omega⟩
 ·unfold QZ;obtain⟨n,h1,rfl⟩:=Bx (body:=λq:Int×Int=>Jq s c q.1 q.2) (λ(n:Int) i=>(n,i)) s.Vols.length (λi n=>n=(((Gq s i).filter λx=>x==c).length:Int)) (λn=>n=(((Gq s s.Vols.length).filter λx=>x==c).length:Int))
   (λn i hi hn=>by
    have hg:s.Vols[i]?=some s.Vols[i]:=Ad hi;obtain⟨a,a1,_,a2⟩:=KT s.Arena ha s.Vols[i].Root;have d:=Oe s ha i (by omega);have e:=BF (λx:Int=>x==c) (Gq s i);refine .inl ?_;simp only[Jq,AD,Ab hi,Af,AA,hg,Aa,a1];rw[Ab (by omega:c>0)];simp only[Af]
    rw[Ve (body:=λq:Int×Int=>Jp c a q.1 q.2) a (λx=>x==c) n (by omega) (by omega)
     (λm k y hy=>by
      have hk:=(Ag.1 hy).1
      simp only[Jp,AD,Ab hk,Af,AA,hy,Aa])
     (λm=>by simp only[Jp,AD,An,As,Ac])]
    simp only[Aa];rw[ad1 (by omega)];refine⟨_,rfl,?_⟩;rw[LU s i hi,a1,Bu,AO,Ah,hn]
    omega)
   (λn hn=>⟨n,by simp only[Jq,AD,An,As,Ac,Aa],hn⟩) (s:=0) (by simp[Gq])
  rw[h1];rfl
 unfold Rs;rw[Oz s hv ha];simp only[Aa];have f:=BF (λx:Int=>decide (x>0)) (Gq s s.Vols.length)
 rw[Ve (body:=λq:Int×Int=>J3 c ((Gq s s.Vols.length).filter λx=>decide (x>0)) q.1 q.2) ((Gq s s.Vols.length).filter λx=>decide (x>0)) (λx=>x==c) 0 (by omega) (by omega)
  (λm k y hy=>by
   have hk:=(Ag.1 hy).1
   simp only[J3,AD,Ab hk,Af,AA,hy,Aa])
  (λm=>by simp only[J3,AD,An,As,Ac])]
 simp only[Aa,Int.zero_add];congr 2;rw[Kl];congr 1
 refine List.filter_congr λx _=>?_
 by_cases h:x=c
 ·subst h;simp;omega
 simp[h]
theorem pY (d:Device) (hv:d.Store.Vols.length<=1048576) (ha:KX d.Store.Arena):Aq (λs:Int×Int=>GN d s.1 s.2) (0,0)=some (((Gq d.Store d.Store.Vols.length).filter λx=>decide (x>0)).length:Int):=by
 obtain⟨n,h1,rfl⟩:=Bx (body:=λq:Int×Int=>GN d q.1 q.2) (λ(n:Int) i=>(n,i)) d.Store.Vols.length (λi n=>n=(((Gq d.Store i).filter λx=>decide (x>0)).length:Int)) (λn=>n=(((Gq d.Store d.Store.Vols.length).filter λx=>decide (x>0)).length:Int))
  (λn i hi hn=>by
   have hg:d.Store.Vols[i]?=some d.Store.Vols[i]:=Ad hi;obtain⟨a,a1,_,a2⟩:=KT d.Store.Arena ha d.Store.Vols[i].Root;have b:=Oe d.Store ha i (by omega);have c:=BF (λx:Int=>decide (x>0)) (Gq d.Store i);refine .inl ?_;simp only[GN,AD,Ab hi,Af,AA,hg,Aa,a1]
   rw[Ve (body:=λq:Int×Int=>Ik a q.1 q.2) a (λx=>decide (x>0)) n (by omega) (by omega)
    (λm k y hy=>by
     have hk:=(Ag.1 hy).1
     simp only[Ik,AD,Ab hk,Af,AA,hy,Aa])
    (λm=>by simp only[Ik,AD,An,As,Ac])]
   simp only[Aa];rw[ad1 (by omega)];refine⟨_,rfl,?_⟩;rw[LU d.Store i hi,a1,Bu,AO,Ah,hn]
   omega)
  (λn hn=>⟨n,by simp only[GN,AD,An,As,Ac],hn⟩) (s:=0) (by simp[Gq])
 exact h1
theorem fH (d:Device) (hz:Hx d<=1048576):∃v,OO d=some v/\Pc d=some v:=by
 unfold Hx at hz;obtain⟨r,hr⟩:=iD d.Flash (by omega);have hs:EM d.Store<=1048576:=by omega
 have hv:d.Store.Vols.length<=1048576:=by unfold EM at hs;omega
 have ha:KX d.Store.Arena:=by
  unfold EM Ml at hs;have:=D9 (z:=Iv) (l:=d.Store.Arena.Knots);unfold KX;omega
 obtain⟨l,l1,l2,⟨l3,l4⟩,l5⟩:=kE d.Store hv ha;unfold OO Pc;rw[l1,l2,hr.s];simp only[Aa];obtain⟨v,h1,h2,_⟩:=LW (body:=λs:Int×List ByteArray×Int=>GP d l r s.1 s.2.1 s.2.2) (body':=λs:Int×List ByteArray×Int=>GV d l s.1 s.2.1 s.2.2) (λ(q:Int×List ByteArray) i=>(q.1,q.2,i)) (λ(q:Int×List ByteArray) i=>(q.1,q.2,i)) l.length (λi q=>0<=q.1/\q.1<=16777216*(i:Int)/\q.2.length=i) (λ_=>True)
  (λq i hi hq=>by
   obtain⟨e,f,g⟩:=hq;have hg:l[i]?=some l[i]:=Ad hi;have a:0<l[i]:=((l4 _).1 (Bm hi)).2;obtain⟨n,n1,n2,n3,n4⟩:=kC d.Store hv ha l[i] a;obtain⟨u,ok,t1,t2⟩:=RE hr l[i];simp only[GP,GV,AD,Ab hi,Af,AA,hg,Aa,n1,n2,t1,t2]
   cases ok with
   |false=>
    simp only[AM,Af];exact .inr ⟨_,rfl,rfl,trivial⟩
   |true=>
    simp only[Ap,Ac];have b:∃w,Aq (λs:Int=>GO q.2 (u,true) s) 0=some w/\Aq (λs:Int=>Kg q.2 (u,true) s) 0=some w/\(w= .inl ()\/w= .inr (.inr (.inr false))):=
     LX (body:=λs:Int=>GO q.2 (u,true) s) (body':=λs:Int=>Kg q.2 (u,true) s) (λ(_:Unit) k=>k) q.2.length (λ_ _=>True) (λw=>w= .inl ()\/w= .inr (.inr (.inr false)))
      (λ_ k hk _=>by
       have c:q.2[k]?=some q.2[k]:=Ad hk;refine⟨rfl,?_⟩;simp only[GO,AD,Ab hk,Af,AA,c,Aa]
       cases seq q.2[k] u with
       |true=>exact .inr ⟨_,rfl,.inr rfl⟩
       |false=>
        simp only[Ac];rw[ad1 (by omega)]
        exact .inl ⟨(),rfl,trivial⟩)
      (λ_ _=>⟨rfl,_,by simp only[GO,AD,An,As,Ac],.inl rfl⟩) (s:=()) trivial
    obtain⟨w,w1,w2,w3⟩:=b;rw[w1,w2]
    rcases w3 with rfl|rfl
    ·simp only[Aa,B3];rw[C4 (by simp only[Aj];omega),ad1 (by omega),DZ (by omega) (by omega)];exact .inl ⟨(q.1+n,q.2++ [u]),rfl,rfl,by simp only;omega,by simp only;omega,by simp only[Ah,Aj];omega⟩
    exact .inr ⟨_,rfl,rfl,trivial⟩)
  (λq hq=>⟨_,by simp only[GP,AD,An,As,Ac];rfl,by simp only[GV,AD,An,As,Ac],trivial⟩) (s:=(0,[])) ⟨by simp,by simp,rfl⟩
 have h1':Aq (λs:Int×List ByteArray×Int=>GP d l r s.1 s.2.1 s.2.2) (0,[],0)=some v:=h1;have h2':Aq (λs:Int×List ByteArray×Int=>GV d l s.1 s.2.1 s.2.2) (0,[],0)=some v:=h2;rw[h1',h2',pY d hv ha,Oz d.Store hv ha]
 cases v with
 |inl v=>exact⟨_,rfl,rfl⟩
 |inr v=>exact⟨_,rfl,rfl⟩
theorem Vv {a b:Store} (ha:KX a.Arena) (hb:KX b.Arena) (hl:a.Vols.length<=1048576):∃v,Ln a b=some v/\Lv a b=some v:=by
 unfold Ln Lv
 cases hq:(cond (ln a.Vols !=ln b.Vols) (some true) (some (a.Next !=b.Next)):Option Bool)with
 |none=>cases h:ln a.Vols !=ln b.Vols<;>rw[h]at hq<;>cases hq
 |some j=>
  simp only[Aa]
  cases j with
  |true=>exact⟨_,rfl,rfl⟩
  |false=>
   have f:a.Vols.length=b.Vols.length:=by
    cases h:ln a.Vols !=ln b.Vols with
    |true=>rw[h]at hq;cases hq
    |false=>
     simp only[bne,Bool.not_eq_false',DF]at h;rw[BT,BT]at h;omega
   simp only[Ac];obtain⟨q,q1,q2,_⟩:=LX (body:=λs:Int=>Fg a b s) (body':=λs:Int=>Fp a b s) (λ(_:Unit) i=>i) a.Vols.length (λ_ _=>True) (λ_=>True)
    (λ_ i hi _=>by
     have hx:=Ad hi;have hy:=Ad (show i<b.Vols.length by omega);simp only[Fg,Fp,AD,Ab hi,Af,AA,hx,hy,Aa];obtain⟨l,l1,l2,l3⟩:=KT a.Arena ha a.Vols[i].Root;obtain⟨m,m1,m2,m3⟩:=KT b.Arena hb b.Vols[i].Root;rw[l1,l2,m1,m2];simp only[Aa]
     cases a.Vols[i].Id !=b.Vols[i].Id with
     |true=>exact⟨rfl,.inr ⟨_,rfl,trivial⟩⟩
     |false=>
      simp only[Ac];rw[Zr l m (by omega),ad1 (by omega)];simp only[Aa];have c:(l.zip m).length=16:=by rw[List.length_zip];omega
      have q:=KH (body:=λs:Int=>GG m l s) (l.zip m) (λ_ z=>z.1==z.2) (.inr (.inr (.inr false))) (.inl ()) (by omega)
       (λi z hz=>by
        obtain⟨hx,hy⟩:=List.getElem?_zip_eq_some.1 hz;have hi:=(Ag.1 hx).1;simp only[GG,AD,Ab hi,Af,AA,hx,hy,Aa];rw[ad1 (by omega)]
        cases d:z.1==z.2<;>simp[bne,d])
       (by rw[c,<-l3];simp only[GG,AD,An,As,Ac])
      have e:((l.zip m).zipIdx.all λz=>z.1.1==z.1.2)=(l.zip m).all λz=>z.1==z.2:=by
       rw[Ck,Dl (l.zip m) (λ_ z=>z.1==z.2),Ca];exact⟨λh x hx=>by obtain⟨k,hk,rfl⟩:=AI hx;exact h k _ (Ad hk),λh k x hx=>h x (A6 hx)⟩
      rw[e]at q;rw[q];have:=O6 (p:=λx y:Int=>x==y) (a:=l) (b:=m) (λx _ y _=>by simp) (by omega)
      cases hz:(l.zip m).all (λz=>z.1==z.2)with
      |true=>
       rw[Ab (this.1 hz)];exact⟨rfl,.inl ⟨(),rfl,trivial⟩⟩
      |false=>
       rw[Ae (λhh=>by rw[this.2 hh]at hz;cases hz)]
       exact⟨rfl,.inr ⟨_,rfl,trivial⟩⟩)
    (λ_ _=>by
     simp only[Fg,Fp,AD,An,As,Ac]
     exact⟨trivial,_,rfl,trivial⟩) (s:=()) trivial
   have q1':Aq (λs:Int=>Fg a b s) 0=some q:=q1;have q2':Aq (λs:Int=>Fp a b s) 0=some q:=q2;rw[q1',q2']
   cases q with
   |inl u=>exact⟨_,rfl,rfl⟩
   |inr v=>exact⟨v,rfl,rfl⟩
theorem sO (h:JE f<=1048576):Ys f:=by
 refine⟨?_,λb hb=>?_⟩
 ·have:=D9 (z:=Ef) (l:=f.Blocks);unfold JE at h;omega
 have h1:=JD (z:=Ef) hb;have h2:=D9 (z:=Jf) (l:=b.Leaves);unfold JE at h;have h3:Ef b=zl Jf b.Leaves:=rfl;omega
theorem Wa {d:Device} (hz:Hx d<=1048576):∃v,M3 d=some v/\MT d=some v:=by
 have c:=hz;unfold Hx at hz;obtain⟨v,v1,v2⟩:=Ta d.Flash (sO (by omega));unfold M3 MT
 cases v with
 |false=>
  have e1:G5 d.Flash=some (Device.mk (Flash.mk []) (Store.mk [] (Arena.mk []) 0) 0 0 0,false):=by unfold G5;rw[v1];rfl
  have e2:IH d.Flash=some (Device.mk (Flash.mk []) (Store.mk [] (Arena.mk []) 0) 0 0 0,false):=by unfold IH;rw[Va,v1];rfl
  rw[e1,e2];exact⟨false,rfl,rfl⟩
 |true=>
  have hf:=v2.1 rfl;obtain⟨m,r,m1,m2,m3⟩:=XA hf;rw[VT hf,m1];simp only[Aa,Af];obtain⟨u,u1,u2,_⟩:=Y4 (s:=d.Store) (by omega);have hc:KX d.Store.Arena:=by
   unfold KX;have:=D9 (z:=Iv) (l:=d.Store.Arena.Knots);unfold EM Ml at hz;omega
  obtain⟨w,w1,w2⟩:=Vv (a:=m.Store) (b:=d.Store) (sP m2.st) hc (by have:=m2.st.len;omega);rw[u1,u2,w1,w2];simp only[Aa];refine⟨u&&(w&&(m.Seq==d.Seq&&(m.Tx==d.Tx&&m.Base==d.Base))),?_,?_⟩
  ·cases u<;>cases w<;>cases(m.Seq==d.Seq)<;>cases(m.Tx==d.Tx)<;>cases(m.Base==d.Base)<;>rfl
  cases u<;>cases w<;>cases(m.Seq==d.Seq)<;>cases(m.Tx==d.Tx)<;>cases(m.Base==d.Base)<;>rfl
theorem VX {w:World} (z:Mk w<=1048576):∃u,M2 w=some u/\MR w=some u:=by
 have z':=z;unfold Mk at z';obtain⟨m,m1,m2⟩:=Sw w.Device (by omega);obtain⟨u,h3,h4⟩:=cE (Un w.Model m (by omega)) (UP w.Model m (by omega));exact⟨u,by unfold M2;rw[m1,Aa,h3];rfl,by unfold MR;rw[m2,Aa,h4];rfl⟩
theorem soundWorld_true (w:World) (hw:dL w):Hc w=some true:=by
 unfold Hc;obtain⟨v,h1,h2⟩:=cG w hw 1048576 (by omega) (by omega);rw[h1,Aa];split at h2
 ·rename_i hc;rw[Ae (by omega),Ac];have z:Mk w<=1048576:=by omega
  have z':=z;unfold Mk at z';obtain⟨a,a1,a2⟩:=Wa (d:=w.Device) (by omega);obtain⟨b,b1,b2⟩:=VX z;obtain⟨c,c1,c2⟩:=fH w.Device (by omega);obtain⟨u,e1,e2⟩:∃u,JY w=some u/\Kc w=some u:=by
   unfold JY Kc;rw[a1,a2,b1,b2,c1,c2];refine⟨a&&(b&&c),?_,?_⟩<;>cases a<;>cases b<;>cases c<;>rfl
  have hs:(u==u)=true:=by simp
  simp only[bU w z,Aa,e1,e2,hs,cD (eG w w z),Ap,Ac]
 rw[Ab h2,Af]
end Go.TI
