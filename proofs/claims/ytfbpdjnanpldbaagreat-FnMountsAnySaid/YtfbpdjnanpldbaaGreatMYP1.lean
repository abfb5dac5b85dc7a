/- A drawn flash, torn or not, comes up as it should. No condition; no program is in sight. -/
import Derived.Test.YtfbpdjnanpldbaaGreatMYP0
set_option linter.unusedVariables false
set_option linter.unusedSimpArgs false
namespace Go.TI
open Go
theorem Rz (n:Int) (h0:0<=n) (h1:n<=1000000000):∃s,FR n=some s/\Qd n=some s/\(L s).length<=1000000001:=by
 obtain⟨m,rfl⟩:=BN h0;obtain⟨s,h2,h3⟩:=Hi m (by omega);refine⟨s,h2,?_,by grind [dV]⟩;simp_all [kQ,Qd,Yw,FR,Sm,Mg];grind
theorem oC (n:Int):(L (Gp [n])).length=1:=by rw[LQ];rfl
theorem W8 (a b:ByteArray) (h:(L a).length+(L b).length<=9223372036854775807):∃c,Qs a b=some c/\(L c).length=(L a).length+(L b).length:=⟨_,FP a b h,by rw[FC,AC]⟩
theorem eT (p:Page):∃t ok,Dh p=some (t,ok)/\Wi p=some (t,ok):=by
 obtain⟨v,h1,h2,h3⟩:=Qw p;unfold Dh Wi;rw[h1,h2]
 cases v with
 |false=>simp
 |true=>
  obtain⟨_,k2,k3,k4,k5,k6⟩:=h3 rfl;rw[Bq]at k6;obtain⟨a,a1,a2,a3⟩:=Rz p.Seq (by omega) (by omega);obtain⟨b,b1,b2,b3⟩:=Rz p.Tx (by omega) (by omega);obtain⟨c,c1,c2,c3⟩:=Rz p.Part (by omega) (by omega);obtain⟨d,d1,d2,d3⟩:=Rz p.Count (by omega) (by omega);have e0:Jm p.Kind=some (Gp [IntKind.u8.wrap p.Kind]):=rfl;have e00:=oC<|IntKind.u8.wrap p.Kind;simp only[Av,Ad,a1,a2,b1,b2,c1,c2,d1,d2,e0,Aa];obtain⟨x1,y1,z1⟩:=W8 (Gp [IntKind.u8.wrap p.Kind]) a (by omega);rw[y1];simp only[Aa];obtain⟨x2,y2,z2⟩:=W8 x1 b (by omega);rw[y2];simp only[Aa];obtain⟨x3,y3,z3⟩:=W8 x2 c (by omega);rw[y3];simp only[Aa];obtain⟨x4,y4,z4⟩:=W8 x3 d (by omega);rw[y4];simp only[Aa];obtain⟨x5,y5,z5⟩:=W8 x4 p.Text<|by omega
  grind [YI,Qv]
theorem eN (r:CD):∃v,Mk r=some v/\Qf r=some v/\(v=true->(0<=r.Arg/\r.Arg<=1000000000)/\(0<=r.Chunk/\r.Chunk<=1000000000)):=by
 cases r with
 |mk kind vol arg chunk=>
 unfold Mk Qf;simp only[kP,kQ,Aa,S1];refine⟨_,rfl,?_,?_⟩
 ·congr 1
  grind
 by_cases ha:0<=arg/\arg<=1000000000
 ·grind
 grind
def nb (l:List Leaf):Nat:=(l.map Pv).sum
theorem kC (l:List Leaf) (i:Nat) (h:i<l.length):nb (l.take (i+1))=nb (l.take i)+Pv l[i]:=by grind [Ag,nb]
theorem vY (l:List Leaf) (i:Nat) (h:i<=l.length):nb (l.take i)<=i:=by grind [rM,nb]
theorem UG (x:Leaf):Pv x=if(x.Is==0)=true then 1 else 0:=by
 unfold Pv;simp
variable {r r' m:List An} {f g:Flash} {y:An} {t c:Int} {d d':AG} {α β:Type} {b x:Block} {n k i j:Nat} {P:Int->Prop} {s:Store} {p:Page} {texts T:List ByteArray} {a ss:List Bt} {ps:List Page} {l:List α}
theorem gC (f:Flash) (i:Nat) (hx:f.Blocks[i]?=some x) (hl:x.Leaves.length<=1048576):Aj (λs:Int×Int×Int=>Ff f (i:Int) s.1 s.2.1 s.2.2) (0,0,0)=some ((nb x.Leaves:Int),((x.Leaves.length-nb x.Leaves:Nat):Int)):=by
 obtain⟨b,h1,rfl⟩:=AD (body:=λs:Int×Int×Int=>Ff f (i:Int) s.1 s.2.1 s.2.2) (λ(s:Int×Int) k=>(s.1,s.2,k)) x.Leaves.length (λk s=>s=((nb (x.Leaves.take k):Int),((k-nb (x.Leaves.take k):Nat):Int))) (λs=>s=((nb x.Leaves:Int),((x.Leaves.length-nb x.Leaves:Nat):Int)))
  (λs k hk hs=>by
   subst hs;have hg:x.Leaves[k]?=some x.Leaves[k]:=Ab hk;have c:=vY x.Leaves k (by omega);have a:=kC x.Leaves k hk;rw[UG]at a;refine .inl ?_;simp only[Ff,Ar,hx,Aa,EM hk,hg]
   grind [ad1])
  (λs hs=>⟨_,by simp only[Ff,Ar,hx,Aa,En];rfl,by grind⟩) (s:=(0,0)) (by simp[nb])
 exact h1
def NX (f:Flash) (i:Nat):Bool:=match f.Blocks[i]? with
 |some x=>!x.Bad&&decide (nb x.Leaves=x.Leaves.length)
 |none=>false
theorem qV (f:Flash) (i:Nat) (hx:f.Blocks[i]?=some x) (hl:x.Leaves.length<=1048576):Aj (λs:Bool×Int=>Ew f (i:Int) s.1 s.2) (!x.Bad,0)=some (NX f i):=by
 obtain⟨b,h1,rfl⟩:=AD (body:=λs:Bool×Int=>Ew f (i:Int) s.1 s.2) (λ(s:Bool) k=>(s,k)) x.Leaves.length (λk s=>s=(!x.Bad&&decide (nb (x.Leaves.take k)=k))) (λs=>s=NX f i)
  (λs k hk hs=>by
   have hg:x.Leaves[k]?=some x.Leaves[k]:=Ab hk;have c:=vY x.Leaves k (by omega);have a:=kC x.Leaves k hk;rw[UG]at a;refine .inl ?_;simp only[Ew,Ar,hx,Aa,EM hk,hg]
   grind [ad1])
  (λs hs=>⟨_,by simp only[Ew,Ar,hx,Aa,En];rfl,by grind [NX]⟩) (s:=!x.Bad) (by simp[nb])
 exact h1
def Y2 (f:Flash):List Int:=((List.range f.Blocks.length).filter<|NX f).map λ(i:Nat)=>(i:Int)
theorem X3 (f:Flash) (h:Xt f):KR f=some (Y2 f)/\Ss f=some (Y2 f):=by
 obtain⟨a,b⟩:=h;constructor
 ·unfold KR
  rw[Y1 (body:=λs:List Int×Int=>FU f s.1 s.2) 8 f.Blocks.length (NX f) (λ(i:Nat)=>(i:Int)) (by omega) (by omega)
   (λu i hi=>by simp_all [Ar,EM,qV,FU])
   (λu=>by simp[En,FU])]
  rfl
 unfold Ss
 rw[Y1 (body:=λs:List Int×Int=>HN f s.1 s.2) 8 f.Blocks.length (NX f) (λ(i:Nat)=>(i:Int)) (by omega) (by omega)
  (λu i hi=>by
   have hg:f.Blocks[i]?=some f.Blocks[i]:=Ab hi
   grind [YE,Ar,nb,ln,HN,NX])
  (λu=>by simp[En,HN])]
 rfl
noncomputable def Yc (t:ByteArray):Option Page:=match Ec t with
 |some (p,true)=>some p
 |_=>none
noncomputable def pg (i k:Int) (x:Leaf):List An:=if x.Is=1 then(match Yc x.Text with
 |some p=>[An.mk i k p]
 |none=>[])else []
noncomputable def TC (i:Int):Int->List Leaf->List An
 |_,[]=>[]
 |k,x::l=>pg i k x++TC i (k+1) l
noncomputable def IP:Int->List Block->List An
 |_,[]=>[]
 |i,b::l=>TC i 0 b.Leaves++IP (i+1) l
theorem UD (i:Int):∀(k:Int) (l m:List Leaf),TC i k (l++m)=TC i k l++TC i (k+l.length) m
 |k,[],m=>by simp[TC]
 |k,x::l,m=>by
  rw[BW,TC,UD i (k+1) l m,TC,BD,AZ];congr 3;omega
theorem PX:∀(i:Int) (l m:List Block),IP i (l++m)=IP i l++IP (i+l.length) m
 |i,[],m=>by simp[IP]
 |i,x::l,m=>by
  rw[BW,IP,PX (i+1) l m,IP,BD,AZ];congr 3;omega
theorem xI {i k:Int} {x:Leaf} (h:y∈pg i k x):y.Block=i/\y.Leaf=k/\x.Is=1/\Yc x.Text=some y.Page:=by grind [pg]
theorem Z5 {i:Int}:∀{k:Int} {l:List Leaf} {y:An},y∈TC i k l->y.Block=i/\k<=y.Leaf/\y.Leaf<k+l.length
 |k,[],y,h=>by cases h
 |k,x::l,y,h=>by
  rw[TC,A7]at h;rw[AZ]
  rcases h with h|h
  ·obtain⟨h1,h2,_⟩:=xI h;omega
  obtain⟨h1,h2,h3⟩:=Z5 h;omega
theorem Z6:∀{i:Int} {l:List Block} {y:An},y∈IP i l->i<=y.Block/\y.Block<i+l.length
 |i,[],y,h=>by cases h
 |i,x::l,y,h=>by
  rw[IP,A7]at h;rw[AZ]
  rcases h with h|h
  ·obtain⟨h1,_⟩:=Z5 h;omega
  obtain⟨h1,h2⟩:=Z6 h;omega
theorem HS {x:α} (h:l[k]?=some x):l=l.take k++x::l.drop (k+1)/\(l.take k).length=k:=by grind [AJ,Ci]
theorem qB {x y:α} (h:l[k]?=some x):l.set k y=l.take k++y::l.drop (k+1):=by grind [List.set_eq_take_append_cons_drop]
theorem gA {l:List Block} {x:Leaf} (hb:l[i]?=some b) (hx:b.Leaves[k]?=some x):∃A B,IP 0 l=A++pg i k x++B/\∀bd w y,IP 0 (l.set i (Block.mk bd w (b.Leaves.set k y)))=A++pg i k y++B:=by
 obtain⟨h1,h2⟩:=HS hb;obtain⟨h3,h4⟩:=HS hx;refine⟨IP 0 (l.take i)++TC i 0 (b.Leaves.take k),TC i ((k:Int)+1) (b.Leaves.drop<|k+1)++IP ((i:Int)+1) (l.drop<|i+1),?_,λbd w y=>?_⟩
 ·grind [PX,UD,IP,TC]
 grind [PX,UD,IP,TC]
theorem TE {l:List Block} {b':Block} (hb:l[i]?=some b) (h0:TC i 0 b'.Leaves=[]):IP 0 (l.set i b')=(IP 0 l).filter λy=>y.Block !=(i:Int):=by
 obtain⟨h1,h2⟩:=HS hb;rw[qB hb]
 conv=>rhs;rw[h1]
 rw[PX,PX,h2,IP,IP,Int.zero_add,h0,Cc,Cc];have e1:(IP 0<|l.take i).filter (λy=>y.Block !=(i:Int))=IP 0 (l.take i):=by
  rw[Ha];intro y hy;have:=(Z6 hy).2
  grind
 have e2:(TC i 0 b.Leaves).filter (λy=>y.Block !=(i:Int))=[]:=by
  rw[Co];intro y hy;have:=(Z5 hy).1;simp[this]
 have e3:(IP ((i:Int)+1)<|l.drop<|i+1).filter (λy=>y.Block !=(i:Int))=IP ((i:Int)+1) (l.drop<|i+1):=by
  rw[Ha];intro y hy;have:=(Z6 hy).1;simp;omega
 rw[e1,e2,e3]
def wA (x:Leaf):Prop:=(x.Is=0/\L x.Text=[])\/(x.Is=1/\1<=(L x.Text).length/\(L x.Text).length<=120)\/(x.Is=2/\(L x.Text).length<=120)
def nT (l:List Leaf):Prop:=∀(k:Nat) x y,l[k]?=some x->l[k+1]?=some y->x.Is=0->y.Is=0
structure J7 (b:Block):Prop where
 four:b.Leaves.length=4
 wear:0<=b.Wear/\b.Wear<=1000000000
 leaf:∀x∈b.Leaves,wA x
 turn:nT b.Leaves
structure Bc (f:Flash):Prop where
 n:3<=f.Blocks.length/\f.Blocks.length<=10
 blk:∀b∈f.Blocks,J7 b
theorem qC (x:Leaf):∃v,PO x=some v/\(v=true↔wA x):=by
 unfold PO wA;by_cases h0:x.Is=0
 ·rw[show(x.Is==0)=true by simpa using h0];refine⟨_,rfl,?_⟩;rw[Lr,Bz];constructor
  ·intro h;exact .inl ⟨h0,by rw[h];rfl⟩
  rintro(h|h|h)
  ·exact IX (by rw[h.2];rfl)
  ·omega
  omega
 rw[show(x.Is==0)=false by simpa using h0];by_cases h1:x.Is=1
 ·simp_all [Du,Bq];grind
 rw[show(x.Is==1)=false by simpa using h1];by_cases h2:x.Is=2
 ·simp_all [Bq];grind
 rw[show(x.Is==2)=false by simpa using h2]
 grind
theorem Uf (f:Flash) (h:Xt f):∃v,Fi f=some v/\(v=true↔Bc f):=by
 unfold Fi;obtain⟨r,h1,h2⟩:=AD (body:=λs:Int=>FJ f s) (λ(_:Unit) i=>i) f.Blocks.length (λi _=>∀j b,j<i->f.Blocks[j]?=some b->J7 b) (λr=>(r= .inr false/\¬∀b∈f.Blocks,J7 b)\/r= .inl ()/\∀b∈f.Blocks,J7 b)
  (λ_ i hi hs=>by
   have hx:=Ab hi;have hm:f.Blocks[i]∈f.Blocks:=Ay hi;have l:=h.1;simp only[FJ,EM hi,Ar,hx,Aa];by_cases h4:f.Blocks[i].Leaves.length=4
   ·rw[show(ln f.Blocks[i].Leaves !=4)=false by simp[ln,h4]];rw[Du];simp only[Aa];by_cases hw:0<=f.Blocks[i].Wear/\f.Blocks[i].Wear<=1000000000
    ·rw[Ac hw];obtain⟨q,q1,q2⟩:=AD (body:=λs:Int=>FI f.Blocks[i] s) (λ(_:Unit) i=>i) f.Blocks[i].Leaves.length
      (λk _=>(∀j x,j<k->f.Blocks[i].Leaves[j]?=some x->wA x)/\∀(j:Nat) x y,j+1<k->f.Blocks[i].Leaves[j]?=some x->f.Blocks[i].Leaves[j+1]?=some y->x.Is=0->y.Is=0)
      (λr=>(r= .inr (.inr<|.inr false)/\¬((∀x∈f.Blocks[i].Leaves,wA x)/\nT f.Blocks[i].Leaves))\/r= .inl ()/\(∀x∈f.Blocks[i].Leaves,wA x)/\nT f.Blocks[i].Leaves)
      (λ_ k hk d=>by
       have g:=Ab hk;simp only[FI,EM hk,Ar,g,Aa];obtain⟨v,v1,v2⟩:=qC f.Blocks[i].Leaves[k];rw[v1];simp only[Aa]
       cases hv:v with
       |false=>
        grind
       |true=>
        simp only[Av,Ad];by_cases m:k=0
        ·rw[Ah<|by omega];rw[ad1];simp_all
        rw[Ac<|by omega];rw[BV,show(k:Int)-1=((k-1:Nat):Int) by omega,Ar,Ab<|by omega];simp only[Aa];have good:(f.Blocks[i].Leaves[k-1].Is=0->f.Blocks[i].Leaves[k].Is=0)->(∀j x,j<k+1->f.Blocks[i].Leaves[j]?=some x->wA x)/\∀(j:Nat) x y,j+1<k+1->f.Blocks[i].Leaves[j]?=some x->f.Blocks[i].Leaves[j+1]?=some y->x.Is=0->y.Is=0:=by
         intro hg;refine⟨λj x hj a=>?_,λj x y hj a c h0=>?_⟩
         ·grind
         by_cases e:j+1=k
         ·grind
         grind
        cases e0:(f.Blocks[i].Leaves[k-1].Is==0)with
        |false=>
         rw[ad1];exact .inl ⟨(),rfl,good λhh=>by grind⟩
        |true=>
         simp only[Ak,Aa]
         cases e1:(f.Blocks[i].Leaves[k].Is !=0)with
         |false=>
          rw[ad1];exact .inl ⟨(),rfl,good λ_=>by simpa using e1⟩
         |true=>
          refine .inr ⟨_,rfl,.inl ⟨rfl,λhh=>?_⟩⟩;have:=hh.2 (k-1) _ _ (Ab<|by omega) (by rw[show k-1+1=k by omega];exact g)<|by simpa using e0
          simp[this]at e1)
      (λ_ d=>⟨_,by simp[En,FI],.inr ⟨rfl,λx a=>by
       obtain⟨j,hj,rfl⟩:=A5 a
       simp_all;grind,λj x y a c=>d.2 j x y (Af.1 c).1 a c⟩⟩) (s:=()) ⟨λj x hj=>by omega,λj x y hj=>by omega⟩
     rw[q1]
     rcases q2 with⟨rfl,q2⟩|⟨rfl,q2,q3⟩
     ·exact .inr ⟨_,rfl,.inl ⟨rfl,λhh=>q2 ⟨(hh _ hm).leaf,(hh _ hm).turn⟩⟩⟩
     rw[ad1];refine .inl ⟨(),rfl,λj b hj hb=>?_⟩;by_cases e:j=i
     ·subst e;rw[hx]at hb
      injection hb with hb
      rw[<-hb];exact⟨h4,hw,q2,q3⟩
     grind
    rw[Ah hw];exact .inr ⟨_,rfl,.inl ⟨rfl,λhh=>hw (hh _ hm).wear⟩⟩
   rw[show(ln f.Blocks[i].Leaves !=4)=true by simp[ln];omega]
   exact .inr ⟨_,rfl,.inl ⟨rfl,λhh=>h4 (hh _ hm).four⟩⟩)
  (λ_ hs=>⟨_,by simp[En,FJ],.inr ⟨rfl,λb hb=>by
   obtain⟨j,hj,rfl⟩:=A5 hb
   simp_all⟩⟩) (s:=()) (λj b hj=>by omega)
 rw[h1]
 rcases h2 with⟨rfl,h2⟩|⟨rfl,h2⟩
 ·exact⟨_,rfl,by simp only[Q7,false_iff];exact λhh=>h2 hh.blk⟩
 rw[Du,Bu];refine⟨_,rfl,?_⟩;rw[Bz];constructor
 ·intro hh;exact⟨by omega,h2⟩
 intro hh;have:=hh.n;omega
theorem Bc.cap (h:Bc f):Xt f:=⟨by have:=h.n;omega,λb hb=>by rw[(h.blk b hb).four];omega⟩
theorem Bc.text (h:Bc f):∀b∈f.Blocks,∀x∈b.Leaves,(L x.Text).length<=120:=λb hb x hx=>by
 rcases(h.blk b hb).leaf x hx with h|h|h
 ·rw[h.2];simp
 ·exact h.2.2
 exact h.2
theorem Nl (h:Bc f):Fi f=some true:=by
 obtain⟨v,h1,h2⟩:=Uf f h.cap;rw[h1,h2.2 h]
theorem Bc.few (h:Bc f):nl f.Blocks<=40:=by
 have:∀l:List Block,(∀b∈l,J7 b)->nl l=4*l.length:=by
  intro l
  induction l with
  |nil=>intro _;rfl
  |cons b l ih=>
   intro hh;have h1:=ih (λx hx=>hh x<|by simp[hx]);have h2:=(hh b<|by simp).four
   grind [nl]
 rw[this _ h.blk];have:=h.n;omega
def WP (y:An):Int:=y.Page.Seq
def SR (l r:List An):Prop:=QA WP r/\By WP l r
theorem SR.uniq {l:List An} (h:SR l r) (h':SR l r'):r=r':=Nu WP h.1 h'.1 λk=>by rw[h.2 k,<-h'.2 k]
theorem SR.mem {l:List An} (h:SR l r):y∈r↔y∈l:=h.2.mem
theorem SR.filter {l:List An} (h:SR l r) (p:An->Bool):SR (l.filter p) (r.filter p):=by
 refine⟨h.1.filter _,λk=>?_⟩;have:=h.2 k;rw[Dt,Dt]
 have e:∀m:List An,m.filter (λx=>(WP x==k)&&p x)=(m.filter λx=>WP x==k).filter p:=λm=>by grind [Dt]
 rw[e,e,this]
theorem SR.add {A B r:List An} (h:SR (A++B) r) (hy:∀x∈r,WP x<WP y):SR (A++ [y]++B) (r++ [y]):=by
 refine⟨?_,λk=>?_⟩
 ·unfold QA;rw[Ba];refine⟨h.1,List.pairwise_singleton _ _,λx hx z hz=>?_⟩
  grind
 have h2:=h.2 k;by_cases e:WP y=k
 ·have e1:∀x∈A++B,¬(WP x==k)=true:=λx hx=>by
   have:=hy x<|h.mem.2 hx;simp;omega
  have b0:B.filter (λx=>WP x==k)=[]:=Co.2 λx hx=>e1 x<|by simp[hx]
  grind
 grind
theorem cM {t:ByteArray} (h:Ec t=some (p,true)):Yc t=some p:=by unfold Yc;rw[h]
theorem nD (h:Bc f):Aj (λs:List An×Int=>D1 f s.1 s.2) ([],0)=some (IP 0 f.Blocks):=by
 have hn:=h.n;obtain⟨X,h1,h2⟩:=AD (body:=λs:List An×Int=>D1 f s.1 s.2) (λs i=>(s,i)) f.Blocks.length (λi o=>o=IP 0 (f.Blocks.take i)/\o.length<=4*i) (λb=>b=IP 0 f.Blocks)
  (λa i hi hs=>by
   obtain⟨ho,l⟩:=hs;have hb:f.Blocks[i]?=some f.Blocks[i]:=Ab hi;have hm:f.Blocks[i]∈f.Blocks:=Ay _;have h4:=(h.blk _ hm).four;refine .inl ?_;simp only[D1,EM hi];obtain⟨u,q1,q2,q3⟩:=AD (body:=λs:List An×Int=>EE f (i:Int) s.1 s.2) (λs i=>(s,i)) f.Blocks[i].Leaves.length (λk u=>u=a++TC i 0 (f.Blocks[i].Leaves.take k)/\u.length<=a.length+k) (λu=>u=a++TC i 0 f.Blocks[i].Leaves/\u.length<=a.length+4)
    (λu k hk hu=>by
     obtain⟨d,m⟩:=hu;have hx:f.Blocks[i].Leaves[k]?=some f.Blocks[i].Leaves[k]:=Ab hk;have e:f.Blocks[i].Leaves[k]∈f.Blocks[i].Leaves:=Ay _
     have g:∀y:An,ap 72 u [y]=some (u++ [y]):=λy=>BL<|by grind
     have c:∀z,TC i 0 (f.Blocks[i].Leaves.take<|k+1)=TC i 0 (f.Blocks[i].Leaves.take k)++z↔pg i k f.Blocks[i].Leaves[k]=z:=by
      intro z;rw[Dc,hx,UD];simp_all [TC];grind
     refine .inl ?_;obtain⟨p,ok,r1,r2,r3,r4⟩:=It f.Blocks[i].Leaves[k].Text (by have:=h.text _ hm _ e;omega);simp only[EE,EM hk,Ar,hb,Aa,TZ f h.cap hb hx,g]
     cases j:f.Blocks[i].Leaves[k].Is==1 with
     |false=>
      obtain⟨p',ok',t1,_⟩:=It (bs []) (by rw[DL];simp);simp only[Ad,Aa,t1];refine⟨u,by rw[ad1],?_,by omega⟩;rw[d,(c []).2 (by unfold pg;grind),AW]
     |true=>
      simp only[Ak,Aa,r1]
      cases ok with
      |false=>
       refine⟨u,by grind [ad1],?_,by omega⟩;rw[d,(c []).2 (by unfold pg Yc;grind),AW]
      |true=>
       refine⟨u++ [An.mk i k p],by grind [ad1],?_,by grind⟩
       rw[d,(c [An.mk i k p]).2 (by simp_all [cM,pg]),BD])
    (λu hu=>⟨u,by simp only[EE,Ar,hb,Aa,En],by grind,by omega⟩) (s:=a) ⟨by simp[TC],by omega⟩
   grind [ad1,Dc,PX,IP])
  (λa hs=>⟨a,by simp[En,D1],by grind⟩) (s:=[]) ⟨by simp[IP],by simp⟩
 grind
theorem rY (h:Bc f):∃r,vB f r/\SR (IP 0 f.Blocks) r:=by
 have hT:∀b∈f.Blocks,∀x∈b.Leaves,(L x.Text).length<=1048576:=λb hb x hx=>by have:=h.text b hb x hx;omega
 have hn:=h.few;obtain⟨r,h1,h2,h3,h4,h5⟩:=iR f h.cap hT (by omega);refine⟨r,⟨h1,h2,by omega,h4,λy hy=>pC hT<|h4 y hy,h5⟩,h5,?_⟩;obtain⟨X,c1,_,c3,_⟩:=W2 f h.cap hT (by omega);have hX:X=IP 0 f.Blocks:=by grind [nD]
 obtain⟨r',s1,s2,s3⟩:=XK Bm X (by omega);have:Io f=some r':=by
  unfold Io
  grind
 rw[h2]at this
 injection this with this
 rw[this,<-hX];exact s3
def Je (l:List Leaf):Nat:=(l.takeWhile λx=>x.Is !=0).length
theorem pU (l:List Leaf):Je l<=l.length:=by grind [List.takeWhile_sublist,Je]
theorem MT:∀(l:List Leaf),(∀(k:Nat) x,k<Je l->l[k]?=some x->x.Is≠0)/\(∀x,l[Je l]?=some x->x.Is=0)
 |[]=>⟨λk x h=>by simp[Je]at h,λx h=>by simp[Je]at h⟩
 |y::l=>by
  obtain⟨h1,h2⟩:=MT l
  grind [List.takeWhile_cons_of_neg,List.takeWhile_cons_of_pos,Je]
theorem Fg (b:Block) (h:b.Leaves.length=4):DU b=some (Je b.Leaves:Int):=by
 unfold DU;obtain⟨h1,h2⟩:=MT b.Leaves;have a:=pU b.Leaves;obtain⟨r,q1,q2⟩:=AD (body:=λs:Int=>GE b s) (λ(_:Unit) i=>i) b.Leaves.length (λi _=>i<=Je b.Leaves) (λr=>(r= .inr (Je b.Leaves:Int))\/r= .inl ()/\Je b.Leaves=4)
  (λ_ i hi hs=>by
   have hx:=Ab hi;simp only[GE,EM hi,Ar,hx,Aa];by_cases e:i=Je b.Leaves
   ·grind
   have:=h1 i b.Leaves[i] (by omega) hx;rw[show(b.Leaves[i].Is==0)=false by simpa using this,Ad,ad1]
   exact .inl ⟨(),rfl,by omega⟩)
  (λ_ hs=>⟨_,by simp[En,GE],.inr ⟨rfl,by omega⟩⟩) (s:=()) (by omega)
 grind
theorem J7.blank {x:Leaf} (h:J7 b) (hk:Je b.Leaves<=k) (hx:b.Leaves[k]?=some x):x.Is=0:=by
 induction k generalizing x with
 |zero=>
  have:Je b.Leaves=0:=by omega
  exact(MT b.Leaves).2 x (by grind)
 |succ k ih=>
  by_cases e:Je b.Leaves=k+1
  ·exact(MT b.Leaves).2 x (by rw[e];exact hx)
  have a:=(Af.1 hx).1;have hy:b.Leaves[k]?=some b.Leaves[k]:=Ab (by omega);exact h.turn k _ x hy hx<|ih (by omega) hy
theorem Rd {y:Leaf} (h:J7 b) (hk:k=Je b.Leaves) (h4:k<4) (hy:wA y) (a:y.Is≠0):J7 (Block.mk b.Bad b.Wear (b.Leaves.set k y)):=by
 refine⟨by simpa using h.four,h.wear,λx hx=>?_,?_⟩
 ·rcases Bs hx with hx|rfl
  ·exact h.leaf x hx
  exact hy
 intro j x z hx hz h0;have hx':(b.Leaves.set k y)[j]?=some x:=hx;have hz':(b.Leaves.set k y)[j+1]?=some z:=hz;rw[List.getElem?_set]at hx' hz';by_cases e:k=j
 ·grind
 rw[BE e]at hx';by_cases e2:k=j+1
 ·have:=(MT b.Leaves).1 j x (by omega) hx';exact absurd h0 this
 rw[BE e2]at hz';exact h.turn j x z hx' hz' h0
theorem Kv (h:Bc f) (hb:J7 b):Bc (Flash.mk (f.Blocks.set i b)):=by
 refine⟨by have:=h.n;simpa using this,λx hx=>?_⟩
 rcases Bs hx with hx|rfl
 ·exact h.blk x hx
 exact hb
def ZE (f:Flash) (b l:Int) (t:ByteArray):Prop:=∃x,gi f.Blocks b=some x/\x.Bad=false/\l=(Je x.Leaves:Int)/\Je x.Leaves<4/\1<=(L t).length/\(L t).length<=120
def LR (f:Flash) (b l:Int) (y:Leaf):Flash:=Flash.mk (match gi f.Blocks b with
 |some x=>si f.Blocks b<|Block.mk x.Bad x.Wear<|si x.Leaves l y
 |none=>f.Blocks)
theorem OY (h:Bc f) (b l:Int) (t:ByteArray):(ZE f b l t/\Ig f b l t=some (LR f b l (Leaf.mk 1 t),true))\/(¬ZE f b l t/\Ig f b l t=some (f,false)):=by
 have hn:=h.n;unfold Ig Vy;rw[CT f h.cap,Nl h];rw[Bu,BV,Du];simp only[Aa];by_cases hb:0<=b/\b<=(f.Blocks.length:Int)-1
 ·rw[Ac hb];have hg:=P6 (l:=f.Blocks) hb.1 (by omega);have hm:f.Blocks[b.toNat]'(by omega)∈f.Blocks:=Ay _;generalize d:f.Blocks[b.toNat]'(by omega)=x at hg hm;have hP:=h.blk x hm;rw[hg];simp only[Aa]
  cases a:x.Bad with
  |true=>
   refine .inr ⟨?_,rfl⟩;rintro⟨z,hz,h2,_⟩
   grind
  |false=>
   simp only[DF,Ak];by_cases c:l<4
   ·rw[Ac c];rw[Fg x hP.four];simp only[Aa];by_cases hl:l=(Je x.Leaves:Int)
    ·rw[show(l==(Je x.Leaves:Int))=true by simpa using hl];simp only[Ak];rw[Bq,Du];by_cases ht:1<=(L t).length/\(L t).length<=120
     ·rw[Ac (by omega:1<=((L t).length:Int)/\((L t).length:Int)<=120)];refine .inl ⟨⟨x,hg,a,hl,by omega,ht⟩,?_⟩;rw[P6 (l:=x.Leaves) (i:=l) (by omega) (by rw[hP.four];omega)]
      grind [LR]
     rw[Ah (by omega:¬(1<=((L t).length:Int)/\((L t).length:Int)<=120))];refine .inr ⟨?_,rfl⟩;rintro⟨z,hz,_,_,_,h5⟩;exact ht h5
    rw[show(l==(Je x.Leaves:Int))=false by simpa using hl];refine .inr ⟨?_,rfl⟩;rintro⟨z,hz,_,h3,_⟩
    grind
   rw[Ah c];refine .inr ⟨?_,rfl⟩;rintro⟨z,hz,_,h3,h4,_⟩;omega
 rw[Ah hb];refine .inr ⟨?_,rfl⟩;rintro⟨z,hz,_⟩;obtain⟨k1,k2⟩:=Cu hz
 grind
theorem HR {b l:Int} {t:ByteArray} (h:Bc f) (hm:ZE f b l t):Bc (LR f b l (Leaf.mk 1 t))/\Bc (LR f b l (Leaf.mk 2 t))/\∃A B,IP 0 f.Blocks=A++B/\(∀p,Yc t=some p->IP 0 (LR f b l (Leaf.mk 1 t)).Blocks=A++ [An.mk b l p]++B)/\(∀u,IP 0 (LR f b l (Leaf.mk 2 u)).Blocks=A++B):=by
 obtain⟨x,h1,h2,rfl,h4,h5⟩:=hm;obtain⟨k1,k2⟩:=Cu h1;obtain⟨c,rfl⟩:∃c:Nat,b=(c:Int):=⟨_,(AT k1).symm⟩;rw[Cp]at k2;have hP:=h.blk x<|Ao k2;have hx:x.Leaves[Je x.Leaves]?=some (x.Leaves[Je x.Leaves]'(by rw[hP.four];exact h4)):=Ab _;have d:=hP.blank (A8 _) hx
 have a:∀y,LR f (c:Int) (Je x.Leaves:Int) y=Flash.mk (f.Blocks.set c<|Block.mk x.Bad x.Wear<|x.Leaves.set (Je x.Leaves) y):=λy=>by grind [CP,LR]
 rw[a,a];refine⟨Kv h (Rd hP rfl h4 (.inr<|.inl ⟨rfl,h5.1,h5.2⟩)<|by simp),Kv h (Rd hP rfl h4 (.inr<|.inr ⟨rfl,h5.2⟩)<|by simp),?_⟩
 grind [gA,pg]
theorem pT {l:List Leaf} (h:∀x∈l,x.Is=0):nb l=l.length:=by
 induction l with
 |nil=>rfl
 |cons x l ih=>grind [UG,nb]
theorem tZ {l:List Leaf} (h:∀x∈l,x.Is≠0):nb l=0:=by
 induction l with
 |nil=>rfl
 |cons x l ih=>grind [UG,nb]
theorem xU (l m:List Leaf):nb (l++m)=nb l+nb m:=by unfold nb;grind
theorem J7.nb (h:J7 b):nb b.Leaves=4-Je b.Leaves:=by
 have h4:=h.four;have e:Go.TI.nb b.Leaves=Go.TI.nb (b.Leaves.take<|Je b.Leaves)+Go.TI.nb (b.Leaves.drop<|Je b.Leaves):=by rw[<-xU,Ci]
 rw[e,tZ (l:=b.Leaves.take<|Je b.Leaves),pT (l:=b.Leaves.drop<|Je b.Leaves),Nj,h4]
 ·omega
 ·intro x hx;obtain⟨k,hk,rfl⟩:=A5 hx;rw[List.getElem_drop];exact h.blank (k:=Je b.Leaves+k) (by omega)<|Ab _
 intro x hx;obtain⟨k,hk,rfl⟩:=A5 hx;rw[J5]at hk;rw[List.getElem_take];exact(MT b.Leaves).1 k _ (by omega) (Ab _)
def Ra (f:Flash) (b l:Int):Prop:=∃x,gi f.Blocks b=some x/\x.Bad=false/\l=(Je x.Leaves:Int)/\Je x.Leaves<4
theorem Xa (h:Bc f):∃v:Int,Ml f=some v/\((v= -1/\∀b∈f.Blocks,b.Bad=false->Je b.Leaves=0\/Je b.Leaves=4)\/∃x,gi f.Blocks v=some x/\x.Bad=false/\Je x.Leaves<4):=by
 unfold Ml;have hn:=h.n;obtain⟨b,h1,h3⟩:=AD (body:=λs:Int=>GD f s) (λ(_:Unit) i=>i) f.Blocks.length (λi _=>∀(j:Nat) b,j<i->f.Blocks[j]?=some b->b.Bad=false->Je b.Leaves=0\/Je b.Leaves=4) (λb=>(b= .inl ()/\∀b∈f.Blocks,b.Bad=false->Je b.Leaves=0\/Je b.Leaves=4)\/∃i:Nat,∃x,b= .inr (i:Int)/\f.Blocks[i]?=some x/\x.Bad=false/\Je x.Leaves<4)
  (λ_ i hi hs=>by
   have hg:f.Blocks[i]?=some f.Blocks[i]:=Ab hi;have hP:=h.blk _<|Ay hi;have c:=hP.nb;have h4:=hP.four;have d:=pU f.Blocks[i].Leaves;simp only[GD,EM hi];rw[gC f i hg<|by omega];simp only[Aa,Ar,hg];rw[ad1]
   cases a:f.Blocks[i].Bad with
   |true=>
    refine .inl ⟨(),rfl,λj b hj hb h0=>?_⟩
    grind
   |false=>
    by_cases e:0<Je f.Blocks[i].Leaves/\Je f.Blocks[i].Leaves<4
    ·grind
    have:(cond (decide<|((nb f.Blocks[i].Leaves:Nat):Int)>0) (some<|decide<|((f.Blocks[i].Leaves.length-nb f.Blocks[i].Leaves:Nat):Int)>0) (some false):Option Bool)=some false:=by grind [Ah]
    rw[this];refine .inl ⟨(),rfl,λj b hj hb h0=>?_⟩
    grind)
  (λ_ hs=>⟨_,by simp[En,GD],.inl ⟨rfl,λb hb=>by
   obtain⟨j,hj,rfl⟩:=A5 hb
   simp_all⟩⟩) (s:=()) (λj b hj=>by omega)
 grind [Ar]
theorem cB (h:Bc f):∃b l:Int,∃ok:Bool,MN f=some (b,l,ok)/\(ok=true->Ra f b l)/\(ok=false->∀b∈f.Blocks,b.Bad=false->Je b.Leaves=4):=by
 have hn:=h.n;obtain⟨o,o1,o2⟩:=Xa h;obtain⟨e1,_⟩:=X3 f h.cap;unfold MN;rw[Nl h,o1,e1];simp only[Aa,Av,Ad]
 rcases o2 with⟨rfl,o2⟩|⟨x,o2,o3,o4⟩
 ·rw[Ah<|by omega];have a:∀y∈Y2 f,Ra f y 0:=by
   intro y hy;obtain⟨i,hi,rfl⟩:=AA.1 hy;obtain⟨d,c⟩:=AY.1 hi;rw[X2]at d;unfold NX at c;rw[Ab d]at c;simp only[Ai,DG,Bz]at c;have hP:=h.blk _<|Ay d;have:=hP.nb;have:=hP.four;exact⟨_,by rw[Ar];grind,c.1,by omega,by omega⟩
  cases j:Y2 f with
  |nil=>
   refine⟨0,0,false,rfl,by simp,λ_ b hb g=>?_⟩
   rcases o2 b hb g with e|e
   ·obtain⟨i,hi,rfl⟩:=A5 hb;have hm:(i:Int)∈Y2 f:=by
     refine AA.2 ⟨i,AY.2 ⟨X2.2 hi,?_⟩,rfl⟩;unfold NX;have hP:=h.blk _<|Ay hi;have:=hP.nb;have:=hP.four
     grind
    grind
   exact e
  |cons x l=>
   rw[j]at a;have p:(x::l).length<=10:=by grind [Y2]
   have k:(ln (x::l)==0)=false:=by simp[ln];omega
   rw[k];have m:gi (x::l) 0=some x:=Ar (i:=0);rw[m];simp only[Aa]
   have q:∀y,Ra f y 0->∃z,gi f.Blocks y=some z:=λy ⟨z,hz,_⟩=>⟨z,hz⟩
   obtain⟨w,w1,w2⟩:=Se (body:=λs:Int×Int=>IG f (x::l) s.1 s.2) (λ(b:Int) i=>(b,i)) (x::l).length (λ_ b=>Ra f b 0) (λb=>Ra f b 0)
    (λb i hi hb=>by
     have hg:(x::l)[i]?=some (x::l)[i]:=Ab hi
     grind [Ay,Ar,ad1,IG])
    (λb hb=>⟨b,by simp only[IG,En],hb⟩) l.length 1 x (by simp;omega) (a x<|by simp)
   have e1':((1:Nat):Int)=1:=rfl;rw[e1']at w1;rw[w1];exact⟨w,0,true,rfl,λ_=>w2,by simp⟩
 obtain⟨k1,k2⟩:=Cu o2;rw[cT,o2,Aa,Fg x (h.blk x<|Ao k2).four];exact⟨_,_,true,rfl,λ_=>⟨x,o2,o3,rfl,o4⟩,by simp⟩
def rI (f:Flash) (b:Int):Prop:=∃x,gi f.Blocks b=some x/\x.Bad=false/\x.Wear≠1000000000
def OG (f:Flash) (b:Int):Flash:=Flash.mk (match gi f.Blocks b with
 |some x=>si f.Blocks b<|Block.mk false (x.Wear+1) LN
 |none=>f.Blocks)
theorem bU (h:Bc f) (b:Int):(rI f b/\SM f b=some (OG f b,true))\/(¬rI f b/\SM f b=some (f,false)):=by
 have hn:=h.n;unfold SM;rw[CT f h.cap,Nl h];rw[Bu,BV,Du];simp only[Aa];by_cases hb:0<=b/\b<=(f.Blocks.length:Int)-1
 ·rw[Ac hb];simp only[Av,Ad];have hg:=P6 (l:=f.Blocks) hb.1 (by omega);have hm:f.Blocks[b.toNat]'(by omega)∈f.Blocks:=Ay _;generalize c:f.Blocks[b.toNat]'(by omega)=x at hg hm;have hP:=h.blk x hm;rw[hg];simp only[Aa]
  cases a:x.Bad with
  |true=>
   refine .inr ⟨?_,rfl⟩;rintro⟨z,hz,h2,_⟩
   grind
  |false=>
   simp only[Ad,Aa];by_cases hw:x.Wear=1000000000
   ·rw[show(x.Wear==1000000000)=true by simpa using hw];refine .inr ⟨?_,rfl⟩;rintro⟨z,hz,_,h3⟩
    grind
   rw[show(x.Wear==1000000000)=false by simpa using hw];simp only[Ad];rw[Ym];simp only[Aa];have:=hP.wear;rw[Ca];refine .inl ⟨⟨x,hg,a,hw⟩,?_⟩
   grind [OG]
 rw[Ah hb];refine .inr ⟨?_,rfl⟩;rintro⟨z,hz,_⟩;obtain⟨k1,k2⟩:=Cu hz
 grind
theorem eD {bad:Bool} {w:Int} (h:0<=w/\w<=1000000000):J7 (Block.mk bad w LN):=by
 refine⟨rfl,h,λx hx=> .inl ?_,λk x y hx hy _=>?_⟩
 ·have:=Dl hx;rw[this];exact⟨rfl,rfl⟩
 have:=Dl<|Ao hy;rw[this]
theorem RV (i:Int):∀(k:Int) (l:List Leaf),(∀x∈l,x.Is≠1)->TC i k l=[]
 |k,[],_=>rfl
 |k,x::l,h=>by
  rw[TC,RV i (k+1) l (λy hy=>h y (by simp[hy]))];unfold pg
  grind
theorem OF {b:Int} (h:Bc f) (hc:rI f b):Bc (OG f b)/\IP 0 (OG f b).Blocks=(IP 0 f.Blocks).filter λy=>y.Block !=b:=by
 obtain⟨x,h1,h2,h3⟩:=hc;obtain⟨k1,k2⟩:=Cu h1;obtain⟨c,rfl⟩:∃c:Nat,b=(c:Int):=⟨_,(AT k1).symm⟩;have hP:=h.blk x<|Ao k2;have hw:=hP.wear;unfold OG;rw[h1];simp only[CP];exact⟨Kv h (eD ⟨by omega,by omega⟩),TE k2 (RV _ _ _ λy hy=>by rw[Dl hy];simp)⟩
def OP (f:Flash) (s:Bt):Prop:=(s.Kind=1/\ZE f s.Block s.Leaf s.Text)\/(s.Kind=2/\rI f s.Block)
def KD (f:Flash) (s:Bt):Flash:=if s.Kind=1 then LR f s.Block s.Leaf (Leaf.mk 1 s.Text)else OG f s.Block
theorem NE (h:Bc f) (s:Bt):(OP f s/\Kk f s=some (KD f s,true))\/(¬OP f s/\Kk f s=some (f,false)):=by
 unfold Kk;by_cases k1:s.Kind=1
 ·rw[show(s.Kind==1)=true by simpa using k1]
  rcases OY h s.Block s.Leaf s.Text with⟨h1,h2⟩|⟨h1,h2⟩
  ·rw[h2];exact .inl ⟨.inl ⟨k1,h1⟩,by grind [KD]⟩
  rw[h2];exact .inr ⟨by rintro(hh|hh);exact h1 hh.2;omega,rfl⟩
 rw[show(s.Kind==1)=false by simpa using k1];by_cases k2:s.Kind=2
 ·rw[show(s.Kind==2)=true by simpa using k2]
  rcases bU h s.Block with⟨h1,h2⟩|⟨h1,h2⟩
  ·rw[h2];exact .inl ⟨.inr ⟨k2,h1⟩,by grind [KD]⟩
  rw[h2];exact .inr ⟨by rintro(hh|hh);omega;exact h1 hh.2,rfl⟩
 rw[show(s.Kind==2)=false by simpa using k2];rw[CT f h.cap];exact .inr ⟨by rintro(hh|hh)<;>omega,rfl⟩
theorem s8 {s:Bt} (h:Bc f) (hs:OP f s):Bc (KD f s):=by
 unfold KD
 rcases hs with⟨h1,h2⟩|⟨h1,h2⟩
 ·grind [HR]
 grind [OF]
theorem Vw {t:ByteArray} {ok:Bool} (h:Bc f) (steps:List Bt) (hs:steps.length<=1000) (p:Page) (ht:Dh p=some (t,ok)) (hl:ok=true->1<=(L t).length/\(L t).length<=120):
  (ok=true/\∃b l,Ra f b l/\MN f=some (b,l,true)/\Hy f steps p=some (LR f b l (Leaf.mk 1 t),steps++ [Bt.mk 1 b l t],true))\/Hy f steps p=some (f,steps,false):=by
 obtain⟨b,l,room,p1,p2,_⟩:=cB h;unfold Hy;rw[ht,p1];simp only[Aa]
 cases ok with
 |false=>exact .inr rfl
 |true=>
  simp only[Av,Ad,Aa]
  cases room with
  |false=>exact .inr rfl
  |true=>
   simp only[Av,Ad];have hp:=p2 rfl;have hl':=hl rfl;have hm:ZE f b l t:=by
    obtain⟨x,a1,a2,a3,a4⟩:=hp;exact⟨x,a1,a2,a3,a4,hl'⟩
   rcases NE h (Bt.mk 1 b l t)with⟨h1,h2⟩|⟨h1,h2⟩
   ·rw[h2];rw[Aa,BL (by simp;omega)];refine .inl ⟨trivial,b,l,hp,rfl,?_⟩;rfl
   exact absurd (.inl ⟨rfl,hm⟩) h1
theorem eH (u:ByteArray) (hu:(L u).length<=20000) (a:Nat) (ha:a<=(L u).length):∃n c,CA (DK.mk u (a:Int) false)=some (n,c)/\c.text_=u/\(c.bad_=true\/c.bad_=false/\∃b:Nat,c.at_=b/\a<b/\b<=(L u).length)/\(c.bad_=true->c.at_=a):=by
 obtain⟨r,h1,_,h2⟩:=GY u (a:Int) (by omega) ⟨by omega,by omega⟩;rw[Im u _ hu h1]
 rcases h2 with⟨e1,e2,e3⟩|⟨e1,a',b,n,k1,k2,k3,k4,k5,_⟩
 ·grind
 grind
theorem jS (t:ByteArray) (ht:(L t).length<=20000):∀(n a:Nat) (b:List CD),(L t).length-a<=n->a<=(L t).length->b.length<=a->∃r,Aj (λs:List CD×ByteArray×Int×Bool=>D3 t s.1 s.2.1 s.2.2.1 s.2.2.2) (b,t,(a:Int),false)=some r/\(r= .inr ([],false)\/∃l:List CD,r= .inl l/\l.length<=(L t).length)
 |n,a,b,hn,ha,ho=>by
  rw[Az];simp only[D3];rw[Bq];by_cases c:a<(L t).length
  ·rw[Ac (by omega:(a:Int)<((L t).length:Int))];rw[DO t c,ad1];obtain⟨n1,c1,v1,t1,h1,z1⟩:=eH t ht (a+1) (by omega);rw[v1];simp only[Aa]
   rcases h1 with e1|⟨e1,b1,k1,k2,k3⟩
   ·
    have hz:=z1 e1;obtain⟨c1t,c1a,c1b⟩:=c1;subst t1 e1 hz;rw[GI _ _ ht ⟨by omega,by omega⟩]
    grind
   obtain⟨c1t,c1a,c1b⟩:=c1;simp only at t1 e1 k1;subst t1 e1 k1;obtain⟨n2,c2,v2,t2,h2,z2⟩:=eH c1t ht b1 k3;rw[v2];simp only[Aa]
   rcases h2 with e2|⟨e2,b2,m1,m2,m3⟩
   ·grind
   rw[e2];rw[Le];simp only[Aa]
   cases Fw _ with
   |false=>grind
   |true=>
    rw[BL (by simp;omega),t2,m1]
    match n,hn with
    |n+1,hn=>exact jS c1t ht n b2 _ (by omega) m3 (by simp;omega)
    |0,hn=>omega
  grind
noncomputable def Yb (t:ByteArray):Option (List CD):=match GB t with
 |some (l,true)=>some l
 |_=>none
theorem WI (t:ByteArray) (ht:(L t).length<=20000):∃l ok,GB t=some (l,ok)/\Yb t=(if ok=true then some l else none)/\l.length<=20000:=by
 obtain⟨r,h1,h2⟩:=jS t ht (L t).length 0 [] (by omega) (by omega) (by simp);unfold Yb GB
 grind
def fB (t a b:Int) (y:An):Bool:=y.Page.Kind==2&&(y.Page.Tx==t&&(y.Page.Part==a&&(!decide (a>0)||y.Page.Count==b)))
def P8 (r:List An) (t a b:Int):Option An:=r.find?<|fB t a b
theorem aC {x:α} (l:List α) (p:α->Bool) (h:∀j x,j<i->l[j]?=some x->p x=false) (hx:l[i]?=some x) (hp:p x=true):l.find? p=some x:=by
 obtain⟨h1,h2⟩:=HS hx;have:(l.take i).find? p=none:=by grind [A5]
 grind
theorem kT (l:List α) (p:α->Bool) (h:∀(j:Nat) x,l[j]?=some x->p x=false):l.find? p=none:=by
 rw[List.find?_eq_none];intro y hy;obtain⟨j,hj,rfl⟩:=A5 hy;rw[h j _<|Ab hj];simp
structure EO (r:List An):Prop where
 len:r.length<=1048576
 text:∀y∈r,(L y.Page.Text).length<=90
 seq:∀y∈r,1<=y.Page.Seq/\y.Page.Seq<=1000000000
 tx:∀y∈r,1<=y.Page.Tx/\y.Page.Tx<=1000000000
 cnt:∀y∈r,1<=y.Page.Count/\y.Page.Count<=9
 part:∀y∈r,0<=y.Page.Part/\y.Page.Part<y.Page.Count
def Pq (a seq:Int) (y:An):Int:=if a=0\/y.Page.Seq<seq then y.Page.Seq else seq
theorem qE (r:List An) (hr:EO r) (t a c:Int) (hp:0<=a) (text:ByteArray) (ht:(L text).length<=10000) (seq:Int):
  ∃text2,Aj (λs:Int×ByteArray×Bool×Int×Int=>HO r t a s.1 s.2.1 s.2.2.1 s.2.2.2.1 s.2.2.2.2) (c,text,false,0,seq)=some (match P8 r t a c with
   |none=>(c,text,false,seq)
   |some y=>(y.Page.Count,text2,true,Pq a seq y))/\(∀y,P8 r t a c=some y->L text2=L text++L y.Page.Text):=by
 have f:=hr.len;obtain⟨b,h1,h2⟩:=AD (body:=λs:Int×ByteArray×Bool×Int×Int=>HO r t a s.1 s.2.1 s.2.2.1 s.2.2.2.1 s.2.2.2.2) (λ(s:Int×ByteArray×Bool×Int) i=>(s.1,s.2.1,s.2.2.1,i,s.2.2.2)) r.length
  (λi s=>(s=(c,text,false,seq)/\∀(j:Nat) x,j<i->r[j]?=some x->fB t a c x=false)\/∃y u,P8 r t a c=some y/\L u=L text++L y.Page.Text/\s=(y.Page.Count,u,true,Pq a seq y))
  (λb=>(b=(c,text,false,seq)/\P8 r t a c=none)\/∃y u,P8 r t a c=some y/\L u=L text++L y.Page.Text/\b=(y.Page.Count,u,true,Pq a seq y))
  (λs i hi hs=>by
   have hx:=Ab hi;have hm:r[i]∈r:=Ay hi;simp only[HO,Ms,Ac hi,Ak,Aa]
   rcases hs with⟨rfl,hs⟩|⟨y,u,f1,f2,rfl⟩
   ·simp only[DF,Ak,Ar,hx,Aa];have d:(cond (r[i].Page.Kind !=2) (some true) (cond (r[i].Page.Tx !=t) (some true)<|cond (r[i].Page.Part !=a) (some true)<|cond (decide<|a>0) (some<|r[i].Page.Count !=c)<|some false):Option Bool)=some (!fB t a c r[i]):=by grind [fB]
    rw[d,Aa,ad1]
    cases hM:fB t a c r[i]with
    |false=>
     grind
    |true=>
     have g:=hr.text _ hm;rw[FP _ _<|by omega];have hf:P8 r t a c=some r[i]:=aC r _ (λj x hj e=>hs j x hj e) hx hM
     grind [FC,Pq]
   grind)
  (λs hs=>by
   refine⟨s,by grind [Ms,HO],?_⟩
   rcases hs with⟨rfl,hs⟩|hs
   ·exact .inl ⟨rfl,kT r _ λj x hx=>hs j x (Af.1 hx).1 hx⟩
   exact .inr hs) (s:=(c,text,false,seq)) (.inl ⟨rfl,λj x hj=>by omega⟩)
 have h1':Aj (λs:Int×ByteArray×Bool×Int×Int=>HO r t a s.1 s.2.1 s.2.2.1 s.2.2.2.1 s.2.2.2.2) (c,text,false,0,seq)=some b:=h1;rw[h1']
 rcases h2 with⟨rfl,h2⟩|⟨y,u,f1,f2,rfl⟩
 ·rw[h2];simp
 simp_all
def parts (r:List An) (t:Int):Nat->Int->Int->List UInt8->Int->Option (List UInt8×Int)
 |0,_,_,_,_=>none
 |n+1,a,c,b,seq=>if a=0\/a<c then(match P8 r t a c with
  |none=>none
  |some y=>parts r t n (a+1) y.Page.Count (b++L y.Page.Text) (Pq a seq y))else some (b,seq)
theorem kG {t a b:Int} (h:fB t a b y=true) (hp:0<a):y.Page.Count=b:=by grind [fB]
theorem P7 {t a b:Int} (h:P8 r t a b=some y):y∈r/\fB t a b y=true:=⟨List.mem_of_find?_eq_some h,List.find?_some h⟩
theorem dB (r:List An) (hr:EO r) (t:Int):∀(n:Nat) (a cnt:Int) (text:ByteArray) (seq:Int),a+n=11->0<=a->(a=0\/(a<=cnt/\cnt<=9))->(L text).length<=90*a.toNat->
  ∃b,Aj (λs:Int×ByteArray×Int×Int=>Nz r t s.1 s.2.1 s.2.2.1 s.2.2.2) (cnt,text,a,seq)=some b/\(match parts r t n a cnt (L text) seq with
   |none=>∃q,b= .inr (Tx.mk t q [],false)
   |some (x,q)=>∃u,b= .inl (u,q)/\L u=x/\(L u).length<=1000)
 |0,a,cnt,text,seq,hn,h0,hc,ht=>by omega
 |n+1,a,cnt,text,seq,hn,h0,hc,ht=>by
  rw[Az];simp only[Nz,parts];have c:(cond (a==0) (some true) (some (decide (a<cnt))):Option Bool)=some (decide (a=0\/a<cnt)):=by grind
  rw[c];simp only[Aa];by_cases e:a=0\/a<cnt
  ·rw[Ac e,Cl e];obtain⟨text2,h1,h2⟩:=qE r hr t a cnt h0 text (by omega) seq;rw[h1]
   cases hf:P8 r t a cnt with
   |none=>simp
   |some y=>
    simp only[Aa,Av,Ad];have hy:=P7 hf;have hL:=h2 y hf;have d:=hr.text y hy.1;have f:=hr.cnt y hy.1;rw[Ca,<-hL];refine dB r hr t n (a+1) y.Page.Count text2 _ (by omega) (by omega) (.inr ?_) ?_
    ·grind [kG]
    grind
  simp_all [BE];grind
noncomputable def Iw (r:List An) (t:Int):Option Tx:=match parts r t 11 0 0 [] 0 with
 |none=>none
 |some (x,q)=>(Yb (bs x)).map λl=>Tx.mk t q l
theorem AAm (u:ByteArray):bs (L u)=u:=IX<|by rw[DL]
theorem XO (r:List An) (hr:EO r) (t:Int):∃x ok,U5 r t=some (x,ok)/\Iw r t=(if ok=true then some x else none)/\x.Recs.length<=20000:=by
 obtain⟨b,h1,h2⟩:=dB r hr t 11 0 0 (bs []) 0 (by omega) (by omega) (.inl rfl) (by rw[DL];simp);rw[DL]at h2;unfold U5 Iw;rw[h1];simp only[Aa]
 cases hp:parts r t 11 0 0 [] 0 with
 |none=>grind
 |some w=>
  obtain⟨x,q⟩:=w;rw[hp]at h2;obtain⟨u,rfl,rfl,h4⟩:=h2;simp only[Ei];obtain⟨l,ok,r1,r2,r3⟩:=WI u (by omega);simp_all [AAm];grind
theorem RP {P:List α->Prop} (nil:P []) (app:∀l x,P l->P (l++ [x])) (l:List α):P l:=by
 rw[<-List.reverse_reverse l]
 induction l.reverse with
 |nil=>exact nil
 |cons x l ih=>grind
def CZ (r:List An):List Int:=r.foldl (λns y=>if y.Page.Kind=2 then qO ns y.Page.Tx else ns) []
theorem RZ (r:List An) (y:An):CZ (r++ [y])=if y.Page.Kind=2 then qO (CZ r) y.Page.Tx else CZ r:=by unfold CZ;grind
theorem Fl (r:List An) (h:∀y∈r,1<=y.Page.Tx):asc (CZ r)/\(∀x,x∈CZ r↔∃y∈r,y.Page.Kind=2/\y.Page.Tx=x)/\(CZ r).length<=r.length:=by
 have main:∀n,n<=r.length->asc (CZ<|r.take n)/\(∀x,x∈CZ (r.take n)↔∃y∈r.take n,y.Page.Kind=2/\y.Page.Tx=x)/\(CZ<|r.take n).length<=n:=by
  intro n
  induction n with
  |zero=>simp[CZ,asc]
  |succ n ih=>
   intro hn;obtain⟨h1,h2,h3⟩:=ih (by omega);have et:r.take (n+1)=r.take n++ [r[n]'(by omega)]:=Ag (by omega);have hy:=h _ (Ay<|show n<r.length by omega);generalize r[n]'(by omega)=y at et hy
   grind [RZ,kO,Wb,kN]
 have:=main r.length<|A8 _
 grind
theorem Xd (r:List An) (hr:EO r):Aj (λs:List Int×Int=>Ih r s.1 s.2) ([],0)=some (CZ r):=by
 have d:=hr.len;obtain⟨b,h1,h2⟩:=AD (body:=λs:List Int×Int=>Ih r s.1 s.2) (λ(o:List Int) i=>(o,i)) r.length (λi o=>o=CZ (r.take i)) (λb=>b=CZ r)
  (λo i hi ho=>by
   have hx:=Ab hi;have hm:r[i]∈r:=Ay hi;have f:=(hr.tx _ hm).1;have a:=Fl (r.take i) λy hy=>(hr.tx y<|List.mem_of_mem_take hy).1;have g:o.length<=1048576:=by grind
   have et:r.take (i+1)=r.take i++ [r[i]]:=Ag hi;simp only[Ih,EM hi,Ar,hx,Aa];rw[ad1];refine .inl ?_;by_cases e:r[i].Page.Kind=2
   ·rw[show(r[i].Page.Kind !=2)=false by simp[e]]
    rw[Qm (body:=λs:List Int×Int=>Ki o r[i] s.1 s.2) o (λy=>decide<|y<r[i].Page.Tx) [] (by simp;omega)
     (λu k x hk hu=>by
      have c:=(Af.1 hk).1
      simp_all [Ar,EM,Ki])
     (λu=>by simp[En,Ki])]
    simp only[Aa,A0]
    rw[BL (by grind),Aa,Qm (body:=λs:List Int×Int=>Kh o r[i] s.1 s.2) o (λy=>decide<|y>r[i].Page.Tx) _ (by grind)
     (λu k x hk hu=>by
      have c:=(Af.1 hk).1
      simp_all [Ar,EM,Kh])
     (λu=>by simp[En,Kh])]
    grind [RZ,qO]
   grind [RZ])
  (λo ho=>⟨o,by simp[En,Ih],by grind⟩) (s:=[]) rfl
 grind
noncomputable def AU (r:List An):List Tx:=(CZ r).filterMap (Iw r)
theorem R2 {x:Tx} (hr:EO r) (h:Iw r t=some x):x.Num=t/\x.Recs.length<=20000:=by
 obtain⟨z,ok,h1,h2,h3⟩:=XO r hr t
 grind [AI,Iw]
theorem OZ (r:List An) (hr:EO r):Pa r=some (AU r):=by
 have c:=hr.len;have a:=Fl r λy hy=>(hr.tx y hy).1;unfold Pa;rw[Xd r hr];simp only[Aa];obtain⟨b,h1,h2⟩:=AD (body:=λs:List Tx×Int=>Kg r (CZ r) s.1 s.2) (λ(o:List Tx) i=>(o,i)) (CZ r).length (λi o=>o=((CZ r).take i).filterMap (Iw r)) (λb=>b=AU r)
  (λo i hi ho=>by
   have hx:=Ab hi;have et:(CZ r).take (i+1)=(CZ r).take i++ [(CZ r)[i]]:=Ag hi;simp only[Kg,EM hi,Ar,hx,Aa];rw[ad1];obtain⟨z,ok,k1,k2,k3⟩:=XO r hr (CZ r)[i]
   grind [BL])
  (λo ho=>⟨o,by simp[En,Kg],by rw[ho,Hq];rfl⟩) (s:=[]) rfl
 grind
def kL (x:Tx):Bool:=match x.Recs with
 |[]=>false
 |r::_=>r.Kind==1
def iJ (l:List Tx):Nat:=l.zipIdx.foldl (λa z=>if kL z.1=true then z.2 else a) 0
def Cw (l:List Tx):List Tx:=l.drop<|iJ l
theorem UQ (l:List Tx) (x:Tx):iJ (l++ [x])=if kL x=true then l.length else iJ l:=by
 unfold iJ
 grind
theorem iI (l:List Tx):iJ l<=l.length:=by
 induction l using RP with
 |nil=>simp[iJ]
 |app l x ih=>grind [UQ]
theorem PI (l:List Tx) (x:Tx):Cw (l++ [x])=if kL x=true then [x]else Cw l++ [x]:=by grind [UQ,iI,Cw]
theorem bI (l:List Tx):∃A,l=A++Cw l/\(A≠ []->∃x B,Cw l=x::B/\kL x=true)/\∀x B,Cw l=x::B->∀y∈B,kL y=false:=by
 induction l using RP with
 |nil=>exact⟨[],rfl,λh=>absurd rfl h,λx B h=>by cases h⟩
 |app l x ih=>
  obtain⟨A,h1,h2,h3⟩:=ih;rw[PI];by_cases e:kL x=true
  ·rw[Cl e];exact⟨l,rfl,λ_=>⟨x,[],rfl,e⟩,λy B h=>by grind⟩
  rw[BE e];refine⟨A,by grind,λhA=>?_,λy B h=>?_⟩
  ·grind
  cases hs:Cw l with
  |nil=>grind
  |cons w B'=>grind
theorem oH (A:List Tx):∀(B:List Tx),(A≠ []->∃x B',B=x::B'/\kL x=true)->(∀x B',B=x::B'->∀y∈B',kL y=false)->Cw (A++B)=B:=by
 intro B
 induction B using RP with
 |nil=>
  intro h1 _
  cases A with
  |nil=>rfl
  |cons a A=>grind
 |app B y ih=>
  intro h1 h2;rw[<-BD,PI]
  cases B with
  |nil=>simp_all;grind
  |cons b B=>simp_all
theorem OX (l:List Tx) (hl:l.length<=1048576) (hr:∀x∈l,x.Recs.length<=20000):Mj l=some (Cw l):=by
 unfold Mj;obtain⟨b,h1,h2⟩:=AD (body:=λs:Int×Int=>G8 l s.1 s.2) (λ(o:Int) i=>(o,i)) l.length (λi o=>o=(iJ (l.take i):Int)) (λb=>b=(iJ l:Int))
  (λo i hi ho=>by
   have hx:=Ab hi;have et:l.take (i+1)=l.take i++ [l[i]]:=Ag hi;simp only[G8,EM hi,Ar,hx,Aa]
   grind [ad1,UQ,Bu,kL,gi])
  (λo ho=>⟨o,by simp[En,G8],by grind⟩) (s:=0) rfl
 rw[h1,h2];simp only[Aa];have a:=iI l;obtain⟨c,q1,q2⟩:=Se (body:=λs:List Tx×Int=>G7 l s.1 s.2) (λ(o:List Tx) i=>(o,i)) l.length (λi o=>o=(l.take i).drop (iJ l)/\iJ l<=i) (λb=>b=Cw l)
  (λo i hi hs=>by
   obtain⟨ho,d⟩:=hs;have hx:=Ab hi;have hm:l[i]∈l:=Ay hi;have e:=hr _ hm;have et:l.take (i+1)=l.take i++ [l[i]]:=Ag hi;simp only[G7,EM hi,Ar,hx,Aa];rw[Jy (by omega),Aa,BL (by grind),Aa,ad1];refine .inl ⟨_,rfl,?_,by omega⟩
   rw[et,List.drop_append_of_le_length (by grind),<-ho])
  (λo hs=>⟨o,by simp[En,G7],by rw[hs.1,Hq];rfl⟩) (l.length-iJ l) (iJ l) [] (by omega) ⟨by grind,A8 _⟩
 grind
def C4 (l:Vs) (nx:Int) (a:List CD):Option (Vs×Int):=a.foldl (λo r=>o.bind λp=>Dv p.1 p.2 r)<|some (l,nx)
theorem PA (a:List CD):a.foldl (λ(o:Option (Vs×Int)) r=>o.bind λp=>Dv p.1 p.2 r) none=none:=by
 induction a with
 |nil=>rfl
 |cons r l ih=>grind
theorem Fq (l:Vs) (nx:Int) (r:CD) (a:List CD):C4 l nx (r::a)=(Dv l nx r).bind λp=>C4 p.1 p.2 a:=by grind [PA,C4,Dv]
theorem JO (l:Vs) (nx:Int) (a b:List CD):C4 l nx (a++b)=(C4 l nx a).bind λp=>C4 p.1 p.2 b:=by
 unfold C4;rw[List.foldl_append]
 cases a.foldl (λ(o:Option (Vs×Int)) r=>o.bind λp=>Dv p.1 p.2 r) (some (l,nx))with
 |none=>exact PA b
 |some p=>rfl
def NY (s:Store) (a:List CD) (o:Option (Store×Bool)):Prop:=match C4 (Bn s) s.Next a with
 |none=>o=some (s,false)
 |some (l,nx)=>∃t,o=some (t,true)/\Cr t/\Bn t=l/\t.Next=nx
theorem TO (h:Cr s) (a:List CD) (hr:a.length<=1048576):NY s a (Jr s a):=by
 have hl:=h.len;have e:=JQ h.ar (by have:=h.few;omega);have c:=EB s e (by omega);unfold Jr;rw[c];simp only[Aa];obtain⟨b,h1,h2⟩:=AD (body:=λq:Int×List Vol×List Bk×Int=>D5 s a q.1 q.2.1 q.2.2.1 q.2.2.2) (λ(t:Store) i=>(i,t.Vols,t.Arena.Knots,t.Next)) a.length
  (λi t=>Cr t/\C4 (Bn s) s.Next (a.take i)=some (Bn t,t.Next))
  (λb=>(b= .inr (s,false)/\C4 (Bn s) s.Next a=none)\/∃t,b= .inl (t.Vols,t.Arena.Knots,t.Next)/\Cr t/\C4 (Bn s) s.Next a=some (Bn t,t.Next))
  (λt i hi hs=>by
   obtain⟨hP,he⟩:=hs;have hx:=Ab hi;obtain⟨e1,e2⟩:=HS hx;have et:a.take (i+1)=a.take i++ [a[i]]:=Ag hi;simp only[D5,EM hi,Ar,hx,Aa];have d:=Wy hP a[i];unfold JH at d;have f:Store.mk t.Vols (Arena.mk t.Arena.Knots) t.Next=t:=rfl;rw[f]
   cases hv:Dv (Bn t) t.Next a[i]with
   |none=>grind [JO,Fq]
   |some p=>
    rw[hv]at d;obtain⟨u,u1,u2,u3,u4⟩:=d;rw[u1];rw[ad1];refine .inl ⟨u,rfl,u2,?_⟩;rw[et,JO,he,Aa,Fq,hv,Aa,u3,u4]
    rfl)
  (λt hs=>⟨_,by simp[En,D5],.inr ⟨t,rfl,hs.1,by grind⟩⟩) (s:=s) ⟨h,rfl⟩
 rw[h1];unfold NY
 rcases h2 with⟨rfl,h2⟩|⟨t,rfl,h2,h3⟩
 ·rw[h2];rfl
 simp_all
def C9 (r:List An):Int:=r.foldl (λm y=>if y.Page.Seq>=m then y.Page.Seq+1 else m) 1
def Dm (r:List An):Int:=r.foldl (λm y=>if y.Page.Kind=2/\y.Page.Tx>=m then y.Page.Tx+1 else m) 1
def LO (l:List Tx):Int:=match l with
 |[]=>0
 |x::_=>x.Num
def LA (l:List Tx):Vs×Int:=l.foldl (λp x=>(C4 p.1 p.2 x.Recs).getD p) ([],1)
theorem Uz (r:List An) (y:An):C9 (r++ [y])=if y.Page.Seq>=C9 r then y.Page.Seq+1 else C9 r:=by unfold C9;grind
theorem Uw (r:List An) (y:An):Dm (r++ [y])=if y.Page.Kind=2/\y.Page.Tx>=Dm r then y.Page.Tx+1 else Dm r:=by unfold Dm;grind
theorem M9 (r:List An):(∀y∈r,y.Page.Seq<C9 r)/\1<=C9 r/\(∀b,1<=b->(∀y∈r,y.Page.Seq<b)->C9 r<=b):=by
 induction r using RP with
 |nil=>grind [C9]
 |app r x ih=>grind [Uz]
theorem YS (r:List An):(∀y∈r,y.Page.Kind=2->y.Page.Tx<Dm r)/\1<=Dm r/\(∀b,1<=b->(∀y∈r,y.Page.Kind=2->y.Page.Tx<b)->Dm r<=b):=by
 induction r using RP with
 |nil=>grind [Dm]
 |app r x ih=>grind [Uw]
theorem SZ (h:vB f r) (hf:Bc f):EO r:=by
 have a:∀y∈r,(1<=y.Page.Seq/\y.Page.Seq<=1000000000)/\(1<=y.Page.Tx/\y.Page.Tx<=1000000000)/\(1<=y.Page.Count/\y.Page.Count<=9)/\(0<=y.Page.Part/\y.Page.Part<y.Page.Count):=by
  intro y hy;obtain⟨b,x,g1,g2,_,g3⟩:=h.page y hy;obtain⟨_,k1⟩:=Cu g1;obtain⟨_,k2⟩:=Cu g2;have hx:=hf.text b (Ao k1) x<|Ao k2;obtain⟨p,ok,m1,_,_,m2⟩:=It x.Text (by omega);rw[g3]at m1
  injection m1 with m1
  injection m1 with m1 m3
  obtain⟨v,q1,_,q2⟩:=Qw p
  grind
 exact⟨h.len,h.text,λy hy=>(a y hy).1,λy hy=>(a y hy).2.1,λy hy=>(a y hy).2.2.1,λy hy=>(a y hy).2.2.2⟩
theorem RN (r:List An) (hr:EO r):Aj (λs:Int×Int×Int=>FZ r s.1 s.2.1 s.2.2) (0,1,1)=some (C9 r,Dm r):=by
 have a:=hr.len;obtain⟨b,h1,h2⟩:=AD (body:=λs:Int×Int×Int=>FZ r s.1 s.2.1 s.2.2) (λ(o:Int×Int) i=>(i,o.1,o.2)) r.length (λi o=>o=(C9<|r.take i,Dm<|r.take i)) (λb=>b=(C9 r,Dm r))
  (λo i hi ho=>by
   subst ho;have hx:=Ab hi;have hm:r[i]∈r:=Ay hi;have hs:=hr.seq _ hm;have ht:=hr.tx _ hm;have et:r.take (i+1)=r.take i++ [r[i]]:=Ag hi;simp only[FZ,EM hi,Ar,hx,Aa]
   grind [Uz,Uw,Ca])
  (λo ho=>⟨o,by simp[En,FZ],by grind⟩) (s:=(1,1)) rfl
 grind
theorem XI:Cr (Store.mk [] (Arena.mk []) 1):=by
 refine⟨⟨by simp,rfl,by simp,by simp,by simp,by simp[Bh],by simp[Bh],by simp⟩,by simp⟩
theorem VU (l:List Tx) (x:Tx):LA (l++ [x])=(C4 (LA l).1 (LA l).2 x.Recs).getD (LA l):=by unfold LA;grind
theorem V7 (l:List Tx) (hl:l.length<=1048576) (hr:∀x∈l,x.Recs.length<=20000):∃t,Aj (λs:Int×List Vol×List Bk×Int×Int=>CQ l s.1 s.2.1 s.2.2.1 s.2.2.2.1 s.2.2.2.2) (0,[],[],1,0)=some (t.Vols,t.Arena.Knots,t.Next,LO l)/\Cr t/\(Bn t,t.Next)=LA l:=by
 obtain⟨b,h1,t,h2,h3,h4⟩:=AD (body:=λs:Int×List Vol×List Bk×Int×Int=>CQ l s.1 s.2.1 s.2.2.1 s.2.2.2.1 s.2.2.2.2) (λ(o:Store×Int) i=>(i,o.1.Vols,o.1.Arena.Knots,o.1.Next,o.2)) l.length
  (λi o=>Cr o.1/\(Bn o.1,o.1.Next)=LA (l.take i)/\o.2=LO (l.take i)) (λb=>∃t,b=(t.Vols,t.Arena.Knots,t.Next,LO l)/\Cr t/\(Bn t,t.Next)=LA l)
  (λo i hi hs=>by
   obtain⟨t,bs0⟩:=o;obtain⟨hP,hv,hb⟩:=hs;simp only at hP hv hb;have hx:=Ab hi;have hm:l[i]∈l:=Ay hi;have h:=hr _ hm;have et:l.take (i+1)=l.take i++ [l[i]]:=Ag hi;simp only[CQ,EM hi,Ar,hx,Aa];have c:(cond ((i:Int)==0) (some l[i].Num) (some bs0):Option Int)=some (LO<|l.take<|i+1):=by
    by_cases e:i=0
    ·grind [LO]
    rw[show((i:Int)==0)=false by simp;omega,hb,et]
    cases h5:l.take i with
    |nil=>simp_all
    |cons a m=>rfl
   rw[c];have d:=TO hP l[i].Recs (by omega);unfold NY at d;have f:Store.mk t.Vols (Arena.mk t.Arena.Knots) t.Next=t:=rfl;rw[f,ad1];refine .inl ?_;have j:=VU (l.take i) l[i]
   cases g:C4 (Bn t) t.Next l[i].Recs with
   |none=>simp_all;grind
   |some p=>simp_all;grind)
  (λo hs=>⟨(o.1.Vols,o.1.Arena.Knots,o.1.Next,o.2),by simp[En,CQ],o.1,by grind,hs.1,by grind⟩) (s:=(Store.mk [] (Arena.mk []) 1,0)) ⟨XI,rfl,rfl⟩
 grind
structure KC (d:AG) (r:List An):Prop where
 fl:Bc d.Flash
 scan:vB d.Flash r
 sr:SR (IP 0 d.Flash.Blocks) r
 st:Cr d.Store
 ab:(Bn d.Store,d.Store.Next)=LA (Cw (AU r))
 seq:d.Seq=C9 r
 tx:d.Tx=Dm r
 base:d.Base=LO (Cw (AU r))
theorem KC.pages (h:KC d r):EO r:=SZ h.scan h.fl
theorem Rj (hr:EO r):(AU r).length<=1048576/\∀x∈AU r,x.Recs.length<=20000:=by
 have b:=hr.len;have a:=Fl r λy hy=>(hr.tx y hy).1;have:=List.length_filterMap_le (Iw r)<|CZ r;refine⟨by unfold AU;omega,λx hx=>?_⟩;obtain⟨t,_,ht⟩:=List.mem_filterMap.1 hx;exact(R2 hr ht).2
theorem PH (l:List Tx):(Cw l).length<=l.length/\∀x∈Cw l,x∈l:=⟨by unfold Cw;grind,λx hx=>List.mem_of_mem_drop hx⟩
theorem N6 (hf:Bc f):∃d r,BQ f=some (d,true)/\KC d r/\d.Flash=f:=by
 obtain⟨r,hs,a⟩:=rY hf;have hr:=SZ hs hf;obtain⟨g1,g2⟩:=Rj hr;obtain⟨b1,b2⟩:=PH<|AU r;obtain⟨t,t1,t2,t3⟩:=V7 (Cw<|AU r) (by omega) λx hx=>g2 x<|b2 x hx;refine⟨AG.mk f t (C9 r) (Dm r)<|LO<|Cw<|AU r,r,?_,⟨hf,hs,a,t2,t3,rfl,rfl,rfl⟩,rfl⟩;unfold BQ;rw[Nl hf,hs.s,CT f hf.cap];simp_all [RN,OZ,OX,Lx]
theorem bK (a b:List Int) (ha:a.length<=1048576):JC a b=some (decide (a=b)):=by
 unfold JC;by_cases hl:a.length=b.length
 ·rw[show(ln a !=ln b)=false by simp[ln,hl]]
  rw[kV (body:=λs:Int=>EY a b s) a b (λx y=>x==y) hl (by omega)
   (λi x y hx hy=>by
    have hi:=(Af.1 hx).1;simp only[EY,EM hi,Ar,hx,hy,Aa]
    grind [ad1])
   (by simp[En,EY])]
  have:=i9 (p:=λx y:Int=>x==y) (a:=a) (b:=b) (λx _ y _=>by simp) hl
  grind
 rw[show(ln a !=ln b)=true by simp[ln];omega,Ah λhh=>hl<|by rw[hh]];rfl
theorem TY {a b:Store} (ha:Cr a) (hb:Cr b):JZ a b=some (decide (Bn a=Bn b/\a.Next=b.Next)):=by
 have c:=ha.len;have d:=hb.len;have e:=ha.few;have f:=hb.few;unfold JZ;by_cases hl:a.Vols.length=b.Vols.length
 ·rw[show(ln a.Vols !=ln b.Vols)=false by simp[ln,hl]];by_cases hn:a.Next=b.Next
  ·rw[show(a.Next !=b.Next)=false by simp[hn]]
   rw[kV (body:=λs:Int=>GA a b s) a.Vols b.Vols (λv w=>v.Id==w.Id&&decide (Ej a.Arena.Knots v.Root=Ej b.Arena.Knots w.Root)) hl (by omega)
    (λi x y hx hy=>by
     have hi:=(Af.1 hx).1;simp only[GA,EM hi,Ar,hx,hy,Aa];rw[L4 _ (by omega) ha.ar<|ha.root _<|AA.2 ⟨x,Ao hx,rfl⟩,L4 _ (by omega) hb.ar<|hb.root _<|AA.2 ⟨y,Ao hy,rfl⟩]
     grind [bK,ad1,Ej])
    (by simp[En,GA])]
   have g:(a.Vols.zip b.Vols).all (λz=>z.1.Id==z.2.Id&&decide (Ej a.Arena.Knots z.1.Root=Ej b.Arena.Knots z.2.Root))=decide (Bn a=Bn b):=by
    unfold Bn;generalize a.Vols=l at hl;generalize b.Vols=m at hl
    induction l generalizing m with
    |nil=>cases m with
     |nil=>simp
     |cons y m=>simp at hl
    |cons x l ih=>
     cases m with
     |nil=>simp at hl
     |cons y m=>grind [List.zip_cons_cons]
   grind
  grind
 grind [Ah,Nh,ln]
theorem T3 (h:KC d r):MJ d=some d:=by
 have:=h.st.len;unfold MJ;rw[CT _ h.fl.cap,EB _ (JQ h.st.ar (by have:=h.st.few;omega))<|by omega];rfl
theorem KC.uniq (h:KC d r) (h':KC d' r') (e:d.Flash=d'.Flash):r=r':=by
 have h1:=h.sr;have h2:=h'.sr;rw[<-e]at h2;exact h1.uniq h2
theorem Zs (h:KC d r):NF d=some true:=by
 obtain⟨m,r',h1,h2,h3⟩:=N6 h.fl;obtain rfl:=h.uniq h2 h3.symm;unfold NF;rw[h1];simp only[Aa,Ak];have e:=h2.ab.trans h.ab.symm
 injection e with e1 e2
 rw[TY h2.st h.st,Ac ⟨e1,e2⟩];rw[h2.seq,h.seq,h2.tx,h.tx,h2.base,h.base];simp only[BEq.rfl,Ak];rw[Mi h.st];rfl
theorem Wt {f g:α->Option β} (h:∀x∈l,f x=g x):l.filterMap f=l.filterMap g:=by
 induction l with
 |nil=>rfl
 |cons a l ih=>grind
theorem hJ {p q:α->Bool} (h:∀x∈l,p x=q x):l.find? p=l.find? q:=by
 induction l with
 |nil=>rfl
 |cons a l ih=>grind
theorem TD (h:∀a b,P8 r' t a b=P8 r t a b):∀(n:Nat) (a b:Int) (x:List UInt8) (q:Int),parts r' t n a b x q=parts r t n a b x q
 |0,_,_,_,_=>rfl
 |n+1,a,b,x,q=>by
  simp only[parts,h];split
  ·split
   ·rfl
   exact TD h n _ _ _ _
  rfl
theorem QP (h:∀a b,P8 r' t a b=P8 r t a b):Iw r' t=Iw r t:=by grind [TD,Iw]
theorem Wa {t a b:Int} (h:fB t a b y=true):y.Page.Kind=2/\y.Page.Tx=t/\y.Page.Part=a:=by grind [fB]
theorem aA (r m:List An) (t a b:Int):P8 (r++m) t a b=(P8 r t a b).or (P8 m t a b):=by unfold P8;grind
theorem Su {t a b:Int} (h:∀y∈r,y.Page.Kind=2->y.Page.Tx≠t):P8 r t a b=none:=by grind [Wa,P8]
theorem lE (h:∀y∈r,y.Page.Kind=2->y.Page.Tx≠t):Iw r t=none:=by grind [Su,Iw,parts]
theorem mH (r:List An) (hy:y.Page.Kind≠2):CZ (r++ [y])=CZ r:=by grind [RZ]
theorem TK (r:List An) (hy:y.Page.Kind≠2):AU (r++ [y])=AU r:=by
 unfold AU;rw[mH r hy];congr 1
 grind [QP,aA,Su]
structure YL (m:List An) (t:Int) (n:Nat) (texts:List ByteArray):Prop where
 len:m.length<=n
 pos:1<=n/\n<=9
 tl:texts.length=n
 at_:∀(i:Nat) y,m[i]?=some y->y.Page.Kind=2/\y.Page.Tx=t/\y.Page.Part=i/\y.Page.Count=n/\texts[i]?=some y.Page.Text
theorem YL.all (h:YL m t n texts) (hy:y∈m):y.Page.Kind=2/\y.Page.Tx=t:=by
 obtain⟨i,hi,rfl⟩:=A5 hy;obtain⟨h1,h2,_⟩:=h.at_ i _<|Ab hi;exact⟨h1,h2⟩
theorem pQ (r:List An) (hr:∀y∈r,1<=y.Page.Tx) (ht:∀y∈r,y.Page.Kind=2->y.Page.Tx<t) (h0:1<=t):∀(m:List An),m≠ []->(∀y∈m,y.Page.Kind=2/\y.Page.Tx=t)->CZ (r++m)=CZ r++ [t]:=by
 intro m hm a;have h1:=Fl (r++m) (λy hy=>by grind);have h2:=Fl r hr
 refine UR h1.1 ?_ λx=>?_
 ·grind [asc]
 rw[h1.2.1,A7,Cb,h2.2.1];constructor
 ·grind
 rintro(⟨y,hy,hk,rfl⟩|rfl)
 ·grind
 cases m with
 |nil=>exact absurd rfl hm
 |cons y m=>exact⟨y,by simp,(a y<|by simp).1,(a y<|by simp).2⟩
theorem uR (h:YL m t n texts) {a:Nat} {b:Int} (hc:a=0\/b=n):P8 m t a b=m[a]? :=by
 cases hy:m[a]? with
 |none=>
  unfold P8;rw[List.find?_eq_none];intro y c hm;obtain⟨i,hi,rfl⟩:=A5 c;obtain⟨_,_,h3,_⟩:=h.at_ i _<|Ab hi
  grind [Wa]
 |some y=>
  obtain⟨h1,h2,h3,h4,_⟩:=h.at_ a y hy;refine aC m _ (λj x hj hx=>?_) hy ?_
  ·obtain⟨_,_,k3,_⟩:=h.at_ j x hx
   grind [Wa]
  grind [fB]
def MD (l:List ByteArray):List UInt8:=l.flatMap L
theorem Yg (hr:∀y∈r,y.Page.Kind=2->y.Page.Tx≠t) (h:YL m t n texts):∀(k a:Nat) (c:Int) (x:List UInt8) (q:Int) (b:Nat),a+k=n->(a=0\/c=n)->k<b->
  (m.length=n->∃q',parts (r++m) t b a c x q=some (x++MD (texts.drop a),q'))/\(m.length<n->a<=m.length->parts (r++m) t b a c x q=none)
 |k,a,c,x,q,0,hk,hc,hf=>by omega
 |0,a,c,x,q,b+1,hk,hc,hf=>by
  have hp:=h.pos;simp only[parts];rw[BE<|by omega];refine⟨λ_=>⟨q,?_⟩,λh1 h2=>by omega⟩;rw[ET (by have:=h.tl;omega)];simp[MD]
 |k+1,a,c,x,q,b+1,hk,hc,hf=>by
  have hp:=h.pos;simp only[parts];rw[Cl (by omega),aA,Su hr,Option.none_or,uR h hc]
  cases hy:m[a]? with
  |none=>grind
  |some y=>
   obtain⟨h1,h2,h3,h4,h5⟩:=h.at_ a y hy;have d:=(Af.1 hy).1;simp only[];obtain⟨k1,k2⟩:=Yg hr h k (a+1) y.Page.Count (x++L y.Page.Text) (Pq a q y) b (by omega) (.inr h4)<|by omega
   grind [AJ,MD]
theorem gZ (r:List An) (hr:∀y∈r,1<=y.Page.Tx) (ht:∀y∈r,y.Page.Kind=2->y.Page.Tx<t) (h0:1<=t) (h:YL m t n texts):
  (m.length<n->AU (r++m)=AU r)/\(m.length=n->∀a,Yb (bs (MD texts))=some a->∃q,AU (r++m)=AU r++ [Tx.mk t q a]):=by
 have b:∀y∈r,y.Page.Kind=2->y.Page.Tx≠t:=λy hy hk=>by grind
 have old:∀x∈CZ r,Iw (r++m) x=Iw r x:=by
  intro x hx;have:=Fl r hr;obtain⟨y,hy,hk,rfl⟩:=(this.2.1 x).1 hx;have:=ht y hy hk
  refine QP λd e=>?_
  rw[aA,Su (r:=m) (λz hz f=>by rw[(h.all hz).2];omega),Option.or_none]
 have oldG:(CZ r).filterMap (Iw<|r++m)=AU r:=by grind [Wt,AU]
 by_cases hm:m=[]
 ·subst hm;have:=h.pos
  grind
 have c:=pQ r hr ht h0 m hm λy hy=>h.all hy;have hg:AU (r++m)=AU r++(match Iw (r++m) t with|some x=>[x]|none=>[]):=by grind [AU]
 have hp:=h.pos;obtain⟨p1,p2⟩:=Yg b h n 0 0 [] 0 11 (by omega) (.inl rfl)<|by omega
 grind [Iw]
structure eW (r:List An):Prop where
 uniq:∀y∈r,∀z∈r,y.Page.Kind=2->z.Page.Kind=2->y.Page.Tx=z.Page.Tx->y.Page.Part=z.Page.Part->y=z
theorem g9 (h:eW r) (p:An->Bool) {t a b:Int} (hf:P8 (r.filter p) t a b=some y):P8 r t a b=some y:=by
 obtain⟨h1,h2⟩:=P7 hf;have h3:=(AY.1 h1).1
 cases hz:P8 r t a b with
 |none=>grind [P8]
 |some z=>
  obtain⟨k1,k2⟩:=P7 hz;obtain⟨a1,a2,a3⟩:=Wa h2;obtain⟨b1,b2,b3⟩:=Wa k2;rw[h.uniq z k1 y h3 b1 a1 (by rw[a2,b2])<|by rw[a3,b3]]
theorem RX (h:eW r) (p:An->Bool):∀(n:Nat) (a b:Int) (x:List UInt8) (q:Int) (w:List UInt8×Int),parts (r.filter p) t n a b x q=some w->parts r t n a b x q=some w
 |0,_,_,_,_,_,hw=>by cases hw
 |n+1,a,b,x,q,w,hw=>by
  simp only[parts]at hw⊢;split
  ·rename_i hc;rw[Cl hc]at hw
   cases hf:P8 (r.filter p) t a b with
   |none=>grind
   |some y=>
    rw[hf]at hw;rw[g9 h p hf];exact RX h p n _ _ _ _ w hw
  grind
theorem bA {x:Tx} (h:eW r) (p:An->Bool) (hx:Iw (r.filter p) t=some x):Iw r t=some x:=by grind [RX,Iw]
theorem g6 (r:List An) (hr:EO r):(AU r).Pairwise λx y=>x.Num<y.Num:=by
 have h1:=(Fl r λy hy=>(hr.tx y hy).1).1;unfold AU;rw[List.pairwise_filterMap];refine List.Pairwise.imp ?_ h1
 grind [R2]
theorem Sx (l:List α) (f:α->Option β) (q:β->Bool):(l.filterMap f).filter q=l.filterMap (λa=>(f a).filter q):=by
 induction l with
 |nil=>rfl
 |cons a l ih=>grind
theorem YW (r:List An) (hr:EO r) (h:eW r) (p:An->Bool) (hp:∀y∈r,y.Page.Kind=2->LO (Cw (AU r))<=y.Page.Tx->p y=true):Cw (AU (r.filter p))=Cw (AU r):=by
 have hr':EO (r.filter p):=⟨by have:=MG p r;have:=hr.len;omega,λy hy=>hr.text y (AY.1 hy).1,λy hy=>hr.seq y (AY.1 hy).1,λy hy=>hr.tx y (AY.1 hy).1,λy hy=>hr.cnt y (AY.1 hy).1,λy hy=>hr.part y (AY.1 hy).1⟩;have s1:=Fl r λy hy=>(hr.tx y hy).1;have s2:=Fl (r.filter p) λy hy=>(hr'.tx y hy).1;have e1:AU (r.filter p)=(CZ r).filterMap (Iw<|r.filter p):=by
  have hn:CZ (r.filter p)=(CZ r).filter (λt=>decide<|t∈CZ (r.filter p)):=by
   refine UR s2.1 (List.Pairwise.filter _ s1.1) λx=>?_
   grind
  unfold AU
  grind [List.filterMap_filter,Wt,lE]
 have keep:∀t,LO (Cw<|AU r)<=t->Iw (r.filter p) t=Iw r t:=by
  intro t ht
  refine QP λpart cnt=>?_
  grind [hJ,P8,fB]
 have e2:AU (r.filter p)=(AU r).filter λx=>(Iw (r.filter p) x.Num).isSome:=by
  rw[e1];unfold AU;rw[Sx]
  refine Wt λt ht=>?_
  cases hx:Iw (r.filter p) t with
  |some x=>grind [bA,R2]
  |none=>
   cases hy:Iw r t with
   |none=>rfl
   |some x=>grind [R2]
 obtain⟨A,h1,h2,h3⟩:=bI<|AU r;have a:=g6 r hr;have hB:(Cw<|AU r).filter (λx=>(Iw (r.filter p) x.Num).isSome)=Cw (AU r):=by
  rw[Ha];intro x hx;have c:=(PH<|AU r).2 x hx;obtain⟨t,_,ht⟩:=List.mem_filterMap.1 c;have hn:=(R2 hr ht).1;have d:LO (Cw<|AU r)<=x.Num:=by
   rw[h1,Ba]at a
   cases hb:Cw (AU r)with
   |nil=>grind
   |cons b B=>grind [C6,LO]
  grind
 rw[e2]
 conv=>lhs;rw[h1]
 rw[Cc,hB];refine oH _ _ (λe=>h2 λhA=>?_) h3
 grind
theorem Y4:∀n:Nat,∃ds x,BM n=ds++ [x]/\(∀d∈ds,128<=d.toNat)/\x.toNat<128/\E5 (BM n)=n
 |n=>by
  by_cases h:n<=127
  ·rw[LI h];have:(UInt8.ofNat n).toNat=n:=by rw[Fx];omega
   exact⟨[],_,rfl,by simp,by omega,by grind [E5]⟩
  obtain⟨ds,x,h1,h2,h3,h4⟩:=Y4<|n/128
  grind [Sy,Fx,E5]
termination_by n=>n
decreasing_by omega
theorem LH (h:n<=1000000000):1<=(BM n).length/\(BM n).length<=5:=by grind [BM]
theorem eO (t:ByteArray) (ht:(L t).length<=20000) (a n:Nat) (hn:n<=1000000000) (rest:List UInt8) (h:(L t).drop a=BM n++rest):If t (a:Int)=some ((n:Int),((a+(BM n).length:Nat):Int),true):=by
 obtain⟨ds,x,hD,l,hx,hv⟩:=Y4 n;obtain⟨y,z⟩:=LH hn;have w:(L t).length-a=(BM n).length+rest.length:=by
  have:=Cn List.length h
  grind
 have h0:(BM n).length=ds.length+1:=by rw[hD];simp
 have o:∀k,k<=(BM n).length->((L t).drop a).take k=(BM n).take k:=λk hk=>by grind
 have p:∀(m k:Nat),k+m=ds.length->Aj (λs:Int×Int×Int=>CS t (a:Int) s.1 s.2.1 s.2.2) (((E5 ((BM n).take k):Nat):Int),((128^k:Nat):Int),((a+k:Nat):Int))=some (.inr ((n:Int),((a+(BM n).length:Nat):Int),true)):=by
  intro m
  induction m with
  |zero=>
   intro k hk;have q:k=ds.length:=by omega
   suffices d:CS t (a:Int) ((E5 ((BM n).take k):Nat):Int) ((128^k:Nat):Int) ((a+k:Nat):Int)=some (.inr<|.inr ((n:Int),((a+(BM n).length:Nat):Int),true)) by grind [Az]
   simp only[CS];have e:a+k<(L t).length:=by omega
   rw[Ca (b:=5) (by omega) (by omega),Bq,Ac (by omega:((a+k:Nat):Int)<(a:Int)+5),Ac (by omega:((a+k:Nat):Int)<((L t).length:Int))];simp only[Ak,Aa,DO t e];have hb:(L t)[a+k]=x:=by
    have:((L t).drop a)[k]?=some x:=by simp_all
    grind
   rw[hb];have c:=Ma ds [x];rw[<-hD,hv]at c;have r:(BM n).take k=ds:=by grind
   rw[r];simp only[E5,Nat.mul_zero,iT]at c;have hp:=Z4 k (by omega);have hw:IntKind.i64.wrap (x.toNat:Int)=x.toNat:=M8 (by omega) (by omega);have g:x.toNat %128*128^k<=127*268435456:=X1 (by omega) hp;have emul:ml ((x.toNat %128:Nat):Int) ((128^k:Nat):Int)=((x.toNat %128*128^k:Nat):Int):=by grind [MU]
   have f:=Uu ds;rw[<-q]at f c;have enew:ad ((E5 ds:Nat):Int) ((x.toNat %128*128^k:Nat):Int)=(n:Int):=by grind [Ca]
   rw[hw,jB,emul,enew,Ac (by omega:(x.toNat:Int)<128),Ah (by omega:¬(n:Int)>1000000000),ad1];obtain⟨s,u,h1⟩:=Hi n (by omega);rw[E6 t (by omega) (by omega),u]
   grind [OT,Iv]
  |succ m ih=>
   intro k hk;suffices d:CS t (a:Int) ((E5 ((BM n).take k):Nat):Int) ((128^k:Nat):Int) ((a+k:Nat):Int)=some (.inl (((E5 ((BM n).take<|k+1):Nat):Int),((128^(k+1):Nat):Int),((a+(k+1):Nat):Int))) by grind [Az]
   simp only[CS];have e:a+k<(L t).length:=by omega
   rw[Ca (b:=5) (by omega) (by omega),Bq,Ac (by omega:((a+k:Nat):Int)<(a:Int)+5),Ac (by omega:((a+k:Nat):Int)<((L t).length:Int))];simp only[Ak,Aa,DO t e];have v:k<ds.length:=by omega
   have h2:(BM n)[k]?=some ds[k]:=by grind
   have hb:(L t)[a+k]=ds[k]:=by
    have:((L t).drop a)[k]?=some ds[k]:=by grind
    grind
   rw[hb];have h128:=l _<|Ay v;have hx:=aZ ds[k];have i:(BM n).take (k+1)=(BM n).take k++ [ds[k]]:=by grind [Dc]
   have j:((BM n).take k).length=k:=by rw[J5];omega
   have c:=Ma ((BM n).take k) [ds[k]];rw[<-i,j]at c;have f:=Uu<|(BM n).take k;rw[j]at f;have hp:=Z4 k (by omega);generalize ds[k]=x at hx i c h128;simp only[E5,Nat.mul_zero,iT]at c;have hw:IntKind.i64.wrap (x.toNat:Int)=x.toNat:=M8 (by omega) (by omega);have g:x.toNat %128*128^k<=127*268435456:=X1 (by omega) hp;have emul:ml ((x.toNat %128:Nat):Int) ((128^k:Nat):Int)=((x.toNat %128*128^k:Nat):Int):=by grind [MU]
   have enew:ad (((E5 ((BM n).take k):Nat)):Int) ((x.toNat %128*128^k:Nat):Int)=((E5 ((BM n).take<|k+1):Nat):Int):=by
    rw[Ca,c,Nat.mul_comm<|128^k];omega
   grind [MU,ad1]
 unfold If;rw[Bq,Du,Ac<|by omega];have k0:=p ds.length 0<|by omega
 grind [E5]
theorem Ju (t:ByteArray) (ht:(L t).length<=20000) (a n:Nat) (hn:n<=1000000000) (rest:List UInt8) (h:(L t).drop a=BM n++rest):CA (DK.mk t (a:Int) false)=some ((n:Int),DK.mk t ((a+(BM n).length:Nat):Int) false):=by
 rw[Im t _ ht<|eO t ht a n hn rest h];rfl
def f0 (r:CD):List UInt8:=UInt8.ofNat (16*r.Kind+r.Vol).toNat::(BM r.Arg.toNat++BM r.Chunk.toNat)
theorem Zz {r:CD} (h:Fw r=true):1<=r.Kind/\r.Kind<=5/\0<=r.Vol/\r.Vol<=9/\0<=r.Arg/\r.Arg<=1000000000/\0<=r.Chunk/\r.Chunk<=1000000000:=by
 unfold Fw at h
 cases k1:(r.Kind==1)with
 |true=>grind
 |false=>
  rw[k1]at h
  grind
theorem Zl {r:CD} (h:Fw r=true):∃t,PR r=some (t,true)/\L t=f0 r:=by
 obtain⟨h1,h2,h3,h4,h5,h6,h7,h8⟩:=Zz h;obtain⟨sa,a1,a2⟩:=Hi r.Arg.toNat (by omega);obtain⟨sc,c1,c2⟩:=Hi r.Chunk.toNat (by omega);rw[AT h5]at a1;rw[AT h7]at c1;unfold PR Jm;rw[Le,h];rw[MU (by omega) (by omega),Ca,a1];simp only[Aa]
 grind [LH,FP,FC,LQ,IntKind.wrap_u8,f0]
def Ij (l:List CD):List UInt8:=l.flatMap f0
theorem oZ {r:CD} (h:Fw r=true):3<=(f0 r).length/\(f0 r).length<=11:=by
 obtain⟨h1,h2,h3,h4,h5,h6,h7,h8⟩:=Zz h
 grind [LH,f0]
theorem Ya (t:ByteArray) (ht:(L t).length<=20000):∀(l:List CD) (a:Nat) (b:List CD),(∀r∈l,Fw r=true)->(L t).drop a=Ij l->a<=(L t).length->b.length<=a->Aj (λs:List CD×ByteArray×Int×Bool=>D3 t s.1 s.2.1 s.2.2.1 s.2.2.2) (b,t,(a:Int),false)=some (.inl (b++l))
 |[],a,b,hl,h,ha,ho=>by
  have:(L t).length=a:=by simp_all [Ij];grind
  grind [Az,Bq,D3]
 |r::l,a,b,hl,h,ha,ho=>by
  have hr:=hl r (by simp);obtain⟨h1,h2,h3,h4,h5,h6,h7,h8⟩:=Zz hr;have h':(L t).drop a=UInt8.ofNat (16*r.Kind+r.Vol).toNat::(BM r.Arg.toNat++(BM r.Chunk.toNat++Ij l)):=by grind [Ij,f0]
  have c:a<(L t).length:=by grind
  have d:=AJ c;rw[h']at d
  injection d with hx hd
  rw[Az];simp only[D3];rw[Bq,Ac<|by omega];rw[DO t c,ad1,Aa,Ju t ht (a+1) r.Arg.toNat (by omega) _ hd.symm];simp only[Aa];have e:(L t).drop (a+1+(BM r.Arg.toNat).length)=BM r.Chunk.toNat++Ij l:=by
   rw[<-DE,<-hd,HW rfl]
  rw[Ju t ht _ r.Chunk.toNat (by omega) _ e];simp only[Aa,Ad];have hw:IntKind.i64.wrap (((L t)[a]).toNat:Int)=16*r.Kind+r.Vol:=by grind [Fx,M8]
  have e1:qu (IntKind.i64.wrap (((L t)[a]).toNat:Int)) 16=r.Kind:=by grind [M8,qu]
  have e2:Int.tmod (IntKind.i64.wrap (((L t)[a]).toNat:Int)) 16=r.Vol:=by grind
  rw[e1,e2,AT h5,AT h7];have f:CD.mk r.Kind r.Vol r.Arg r.Chunk=r:=rfl;rw[f,Le,hr];rw[BL<|by grind];have g:(L t).drop (a+1+(BM r.Arg.toNat).length+(BM r.Chunk.toNat).length)=Ij l:=by
   rw[<-DE,e,HW rfl]
  have i:a+1+(BM r.Arg.toNat).length+(BM r.Chunk.toNat).length<=(L t).length:=by
   have h9:=Cn List.length h'
   grind
  have:=Ya t ht l _ (b++ [r]) (λx hx=>hl x<|by simp[hx]) g i (by simp;omega);rw[BD,Iy]at this;exact this
theorem fZ {l:List CD} (hl:∀r∈l,Fw r=true) (a:(Ij l).length<=20000):Yb (bs (Ij l))=some l:=by
 have h:=Ya (bs<|Ij l) (by grind [DL]) l 0 [] hl (by rw[DL];rfl) (by omega) (by simp);unfold Yb GB
 grind
theorem iN {v:Int} (u:ByteArray) (hu:(L u).length<=20000) (hv:Mh u=some v):Jo (u++four v)=some (u,true):=by
 have b:(L<|u++four v).length=(L u).length+4:=by rw[FC,AC,Wr]
 have e4:sb (Gf<|u++four v) 4=((L u).length:Int):=by grind [Bq,BV]
 unfold Jo;rw[e4,Ah (by omega),Ah<|by omega];have c:sub (u++four v) 0 ((L u).length:Int)=some u:=by
  rw[show(0:Int)=((0:Nat):Int)from rfl,E6 _ (by omega)<|by omega]
  grind [IX,Iv,FC]
 have a:sub (u++four v) ((L u).length:Int) (Gf<|u++four v)=some (four v):=by grind [Bq,E6,IX,Iv,FC]
 grind [Jn,four,seq]
def Ik (p:Page):Prop:=(p.Kind=1\/p.Kind=2)/\(1<=p.Seq/\p.Seq<=1000000000)/\(1<=p.Tx/\p.Tx<=1000000000)/\(1<=p.Count/\p.Count<=9)/\(0<=p.Part/\p.Part<p.Count)/\(L p.Text).length<=90/\(p.Kind=2\/p.Count=1)
theorem V6 (p:Page):∃v,IH p=some v/\(v=true↔Ik p):=by
 unfold IH Ik;rw[Du,Du,Du,Du,Bq];simp only[Aa];by_cases h1:1<=p.Kind/\p.Kind<=2
 ·rw[Ac h1];by_cases h2:1<=p.Seq/\p.Seq<=1000000000
  ·rw[Ac h2];by_cases h3:1<=p.Tx/\p.Tx<=1000000000
   ·rw[Ac h3];by_cases h4:1<=p.Count/\p.Count<=9
    ·rw[Ac h4];rw[BV,Du];by_cases h5:0<=p.Part/\p.Part<=p.Count-1
     ·rw[Ac h5];simp only[Av,Ad,Aa];by_cases h6:((L p.Text).length:Int)>90
      ·simp_all;grind
      rw[Ah h6];by_cases h7:p.Kind=2
      ·rw[show(p.Kind==2)=true by simpa using h7]
       grind
      rw[show(p.Kind==2)=false by simpa using h7]
      grind
     simp_all;grind
    simp_all;grind
   simp_all;grind
  simp_all [Ah];grind
 simp_all [Ah];grind
theorem pE (h:Ik p):IH p=some true:=by
 obtain⟨v,h1,h2⟩:=V6 p;rw[h1,h2.2 h]
theorem mB (h:Ik p):∃t,Dh p=some (t,true)/\1<=(L t).length/\(L t).length<=120/\Ec t=some (p,true):=by
 obtain⟨h1,h2,h3,h4,h5,h6,h7⟩:=h
 let k:UInt8:=UInt8.ofNat p.Kind.toNat
 have hk:(k.toNat:Int)=p.Kind:=by grind [Fx]
 let u:=bs<|[k]++BM p.Seq.toNat++BM p.Tx.toNat++BM p.Part.toNat++BM p.Count.toNat++L p.Text
 have hu:L u=[k]++BM p.Seq.toNat++BM p.Tx.toNat++BM p.Part.toNat++BM p.Count.toNat++L p.Text:=DL _;have l1:=LH (show p.Seq.toNat<=1000000000 by omega);have l2:=LH (show p.Tx.toNat<=1000000000 by omega);have l3:=LH (show p.Part.toNat<=1000000000 by omega);have l4:=LH (show p.Count.toNat<=1000000000 by omega);have e:(L u).length=1+(BM p.Seq.toNat).length+(BM p.Tx.toNat).length+(BM p.Part.toNat).length+(BM p.Count.toNat).length+(L p.Text).length:=by grind
 obtain⟨v,hv,hs⟩:=(Qv u).2 (by omega);have c:=pE ⟨h1,h2,h3,h4,h5,h6,h7⟩;have a:=Uc p u k p.Seq.toNat p.Tx.toNat p.Part.toNat p.Count.toNat c hk.symm (by omega) (by omega) (by omega) (by omega) (by omega) (by omega) (by omega) (by omega) (by omega) hu;rw[hs]at a;refine⟨u++four v,a,by grind [FC],by grind [FC,Wr],?_⟩;unfold Ec;rw[iN u (by omega) hv];simp only[Aa,Av,Ad];rw[Bq,Ah<|by omega];have d0:(L u).drop 1=BM p.Seq.toNat++(BM p.Tx.toNat++(BM p.Part.toNat++(BM p.Count.toNat++L p.Text))):=by
  rw[hu];simp
 rw[show(1:Int)=((1:Nat):Int)from rfl,Ju u (by omega) 1 p.Seq.toNat (by omega) _ d0];simp only[Aa];have d1:(L u).drop (1+(BM p.Seq.toNat).length)=BM p.Tx.toNat++(BM p.Part.toNat++(BM p.Count.toNat++L p.Text)):=by grind
 rw[Ju u (by omega) _ p.Tx.toNat (by omega) _ d1];simp only[Aa];have d2:(L u).drop (1+(BM p.Seq.toNat).length+(BM p.Tx.toNat).length)=BM p.Part.toNat++(BM p.Count.toNat++L p.Text):=by grind [HW]
 rw[Ju u (by omega) _ p.Part.toNat (by omega) _ d2];simp only[Aa];have d3:(L u).drop (1+(BM p.Seq.toNat).length+(BM p.Tx.toNat).length+(BM p.Part.toNat).length)=BM p.Count.toNat++L p.Text:=by grind [HW]
 rw[Ju u (by omega) _ p.Count.toNat (by omega) _ d3];have d4:(L u).drop (1+(BM p.Seq.toNat).length+(BM p.Tx.toNat).length+(BM p.Part.toNat).length+(BM p.Count.toNat).length)=L p.Text:=by grind [HW]
 have d:sx u 0=some ((k.toNat:Nat):Int):=by
  rw[show(0:Int)=((0:Nat):Int)from rfl,DO u<|by omega];rfl
 rw[d];simp only[Aa];have b:sub u ((1+(BM p.Seq.toNat).length+(BM p.Tx.toNat).length+(BM p.Part.toNat).length+(BM p.Count.toNat).length:Nat):Int) ((L u).length:Int)=some p.Text:=by
  rw[E6 u (by omega)<|by omega]
  grind [IX,Iv]
 rw[b,Aa,M8 (by omega) (by omega),hk,AT (by omega),AT (by omega),AT (by omega),AT<|by omega];have hp:Page.mk p.Kind p.Seq p.Tx p.Part p.Count p.Text=p:=rfl;rw[hp,a]
 grind [seq]
theorem pD (h:¬Ik p):Dh p=some (bs [],false):=by
 obtain⟨v,h1,h2⟩:=V6 p;unfold Dh
 grind
theorem lN (s:ByteArray) (f a:Nat) (hf:f<a) (ha:a<=(L s).length) (hs:(L s).length<=64):∃k:Nat,Lw s (f:Int) (a:Int)=some (k:Int)/\k<=31/\a+k<=(L s).length/\∀j,j<k->(L s)[f+j]?=(L s)[a+j]? :=by
 obtain⟨b,h1,k,rfl,h2,h3,h4⟩:=AD (body:=λn:Int=>H4 s (f:Int) (a:Int) n) (λ(_:Unit) i=>i) 31 (λi _=>a+i<=(L s).length/\∀j,j<i->(L s)[f+j]?=(L s)[a+j]?) (λb=>∃k:Nat,b=(k:Int)/\k<=31/\a+k<=(L s).length/\∀j,j<k->(L s)[f+j]?=(L s)[a+j]?)
  (λ_ i hi hs=>by
   simp only[H4];rw[cT,Ca,Ca,Bq];by_cases c:a+i<(L s).length
   ·rw[cT];have e1:((f:Int)+(i:Int))=((f+i:Nat):Int):=by omega
    have e2:((a:Int)+(i:Int))=((a+i:Nat):Int):=by omega
    rw[e1,e2,DO s (by omega),DO s c];simp only[Aa]
    cases hq:((((L s)[f+i]).toNat:Int)==(((L s)[a+i]).toNat:Int))with
    |true=>
     rw[ad1];refine .inl ⟨(),rfl,by omega,λj hj=>?_⟩
     grind [UInt8.toNat_inj]
    |false=>grind
   grind)
  (λ_ hs=>by
   simp only[H4];rw[cF]
   exact⟨_,rfl,31,rfl,by omega,hs.1,hs.2⟩) (s:=()) ⟨by omega,λj hj=>by omega⟩
 unfold Lw
 grind
def rN (s:ByteArray) (a z b:Nat):Prop:=z<=31/\a+z<=(L s).length/\(z=0\/(4<=z/\1<=b/\b<=a/\∀j,j<z->(L s)[a-b+j]?=(L s)[a+j]?))
theorem oQ (s:ByteArray) (a:Nat) (ha:a<=(L s).length) (hs:(L s).length<=64):∃z b:Nat,Aj (λq:Int×Int×Int=>D0 s (a:Int) q.1 q.2.1 q.2.2) (0,0,sb (a:Int) 1)=some ((z:Int),(b:Int))/\rN s a z b:=by
 rw[BV];obtain⟨r,h1,z,b,rfl,h2⟩:=AD (body:=λq:Int×Int×Int=>D0 s (a:Int) q.1 q.2.1 q.2.2) (λ(q:Nat×Nat) i=>((q.1:Int),(q.2:Int),(a:Int)-1-i)) a (λi q=>rN s a q.1 q.2) (λr=>∃z b:Nat,r=((z:Int),(b:Int))/\rN s a z b)
  (λq i hi hq=>by
   obtain⟨k,m1,m2,m3,m4⟩:=lN s (a-1-i) a (by omega) ha hs;have e1:((a:Int)-1-(i:Int))=((a-1-i:Nat):Int):=by omega
   simp only[D0,e1];rw[Ac (by omega:(((a-1-i:Nat)):Int)>=0),Ak,m1,Aa,BV,BV];refine .inl ?_;have e2:(((a-1-i:Nat):Int)-1)=(a:Int)-1-((i+1:Nat):Int):=by omega
   have e3:((a:Int)-((a-1-i:Nat):Int))=((1+i:Nat):Int):=by omega
   rw[e2,e3];by_cases h4:4<=k
   ·rw[cT];by_cases h5:q.1<k
    ·rw[Ac (by omega:(k:Int)>(q.1:Int))];exact⟨(k,1+i),rfl,m2,m3,.inr ⟨h4,by omega,by omega,λj hj=>by grind⟩⟩
    grind
   grind)
  (λq hq=>by grind [D0]) (s:=(0,0)) ⟨by omega,by omega,.inl rfl⟩
 grind
def TP:Nat->Nat->List UInt8->List UInt8
 |0,_,out=>out
 |n+1,b,out=>TP n b (out++ [(out[out.length-b]?).getD 0])
def Ww (a:List UInt8) (t:AL):List UInt8:=if t.Back=0 then a++L t.Text else TP t.Size.toNat t.Back.toNat a
def Ed (l:List AL):List UInt8:=l.foldl Ww []
def xK (a:List UInt8) (t:AL):Prop:=(t.Back=0/\t.Size=0/\1<=(L t.Text).length/\(L t.Text).length<=31)\/(1<=t.Back/\t.Back<=(a.length:Int)/\1<=t.Size/\t.Size<=31/\L t.Text=[])
def pO (l:List AL):Prop:=∀(i:Nat) t,l[i]?=some t->xK (Ed<|l.take i) t
theorem MR (l:List AL) (t:AL):Ed (l++ [t])=Ww (Ed l) t:=by unfold Ed;grind
theorem ZB {l:List AL} {t:AL} (h:pO l) (ht:xK (Ed l) t):pO (l++ [t]):=by
 intro i x hx;by_cases e:i<l.length
 ·rw[JS e]at hx;rw[List.take_append_of_le_length<|by omega];exact h i x hx
 grind
theorem pN {l:List AL} {t:AL} (h:pO (l++ [t])):pO l/\xK (Ed l) t:=by
 refine⟨λi x hx=>?_,?_⟩
 ·have:=h i x (by grind)
  grind
 have:=h l.length t<|by grind
 grind
theorem Y8 (S:List UInt8):∀(n a b:Nat),a+n<=S.length->1<=b->b<=a->(∀j,j<n->S[a-b+j]?=S[a+j]?)->TP n b (S.take a)=S.take (a+n)
 |0,a,b,_,_,_,_=>rfl
 |n+1,a,b,h1,h2,h3,h4=>by
  rw[TP];have hl:(S.take a).length=a:=by grind
  have e:((S.take a)[(S.take a).length-b]?).getD 0=S[a]'(by omega):=by
   have:=h4 0<|by omega
   grind
  rw[e,<-Ag (by omega),Y8 S n (a+1) b (by omega) h2 (by omega) λj hj=>by grind];congr 1;omega
theorem dY:∀(n b:Nat) (a:List UInt8),(TP n b a).length=a.length+n
 |0,_,_=>rfl
 |n+1,b,a=>by rw[TP,dY];simp;omega
theorem R6 (s:ByteArray) (hs:(L s).length<=64):∀(n a:Nat) (c:List AL),(L s).length-a<=n->a<=(L s).length->c.length<=a->pO c->Ed c=(L s).take a->∃l,Aj (λq:List AL×Int=>Ch s q.1 q.2) (c,(a:Int))=some l/\pO l/\Ed l=L s/\l.length<=64
 |n,a,c,hn,ha,g,d,hpl=>by
  by_cases h:a<(L s).length
  ·obtain⟨z,b,h1,h2,h3,h4⟩:=oQ s a ha hs
   match n,hn with
   |0,hn=>omega
   |n+1,hn=>
   rcases h4 with rfl|⟨h4,h5,h6,h7⟩
   ·
    have f:sub s (a:Int) ((a+1:Nat):Int)=some (s.extract a<|a+1):=E6 s (by omega) (by omega);have hx:L (s.extract a<|a+1)=[(L s)[a]]:=by
     rw[Iv,show a+1-a=1 by omega,AJ h];rfl
    have fresh:∃l,Aj (λq:List AL×Int=>Ch s q.1 q.2) (c++ [AL.mk 0 0<|s.extract a<|a+1],((a+1:Nat):Int))=some l/\pO l/\Ed l=L s/\l.length<=64:=
     R6 s hs n (a+1) _ (by omega) (by omega) (by simp;omega) (ZB d<|.inl ⟨rfl,rfl,by rw[hx];simp,by rw[hx];simp⟩) (by grind [MR,Ag,Ww])
    rcases FB c with e|⟨out0,t0,e⟩
    ·subst e;obtain⟨l,f1,f2⟩:=fresh;rw[Az];have hb:Ch s [] (a:Int)=some (.inl ([AL.mk 0 0<|s.extract a<|a+1],((a+1:Nat):Int))):=by
      simp only[Ch];rw[Bq,cT,h1];simp only[Aa];rw[show decide ((((0:Nat):Int))>0)=false from rfl,Ad,ad1,f,show decide ((sb (ln ([]:List AL)) 1)>=0)=false from rfl];rfl
     grind
    rw[Iz]at e;subst e;obtain⟨ok0,okt0⟩:=pN d;have hol':out0.length+1<=a:=by simpa using g
    have j:ln (out0++ [t0])=((out0.length+1:Nat):Int):=by rw[Bu];simp
    have k:sb (ln<|out0++ [t0]) 1=(out0.length:Int):=by grind [BV]
    have m:gi (out0++ [t0]) (out0.length:Int)=some t0:=F8 _ _;by_cases hm:t0.Back=0/\(L t0.Text).length<31
    ·have i:Qs t0.Text (s.extract a<|a+1)=some (t0.Text++s.extract a (a+1)):=FP _ _ (by grind);have hb:Ch s (out0++ [t0]) (a:Int)=some (.inl (out0++ [AL.mk t0.Back t0.Size<|t0.Text++s.extract a (a+1)],((a+1:Nat):Int))):=by
      simp only[Ch];rw[Bq,cT,h1];simp only[Aa]
      grind [ad1,Bq,Ia]
     have hX:L (t0.Text++s.extract a (a+1))=L t0.Text++ [(L s)[a]]:=by rw[FC,hx]
     obtain⟨l,f1,f2⟩:=R6 s hs n (a+1) (out0++ [AL.mk t0.Back t0.Size<|t0.Text++s.extract a (a+1)]) (by omega) (by omega) (by grind) (ZB ok0 (by
      rcases okt0 with⟨k1,k2,k3,k4⟩|⟨k1,_⟩
      ·exact .inl ⟨k1,k2,by rw[hX];simp,by grind⟩
      omega))<|by grind [MR,Ag,Ww]
     grind [Az]
    have hb:Ch s (out0++ [t0]) (a:Int)=some (.inl (out0++ [t0]++ [AL.mk 0 0<|s.extract a<|a+1],((a+1:Nat):Int))):=by grind [Bq,ad1,BL,Ch]
    grind [Az]
   have hb:Ch s c (a:Int)=some (.inl (c++ [AL.mk (b:Int) (z:Int)<|bs []],((a+z:Nat):Int))):=by grind [Bq,BL,Ca,Ch]
   obtain⟨l,f1,f2⟩:=R6 s hs n (a+z) (c++ [AL.mk (b:Int) (z:Int)<|bs []]) (by omega) h3 (by simp;omega) (ZB d<|.inr ⟨by simp;omega,by grind,by simp;omega,by simp;omega,DL _⟩)<|by grind [MR,Y8,Ww]
   grind [Az]
  grind [Az,Bq,Ch]
theorem rW (s:ByteArray) (hs:(L s).length<=64):∃l,Jp s=some l/\pO l/\Ed l=L s/\l.length<=64:=by
 obtain⟨l,h1,h2⟩:=R6 s hs (L s).length 0 [] (by omega) (by omega) (by simp) (λi t h=>by simp at h)<|by simp[Ed]
 grind [Bq,Jp]
def LW (t:AL):List UInt8:=if t.Back=0 then UInt8.ofNat (L t.Text).length::L t.Text else [UInt8.ofNat (128+t.Size).toNat,UInt8.ofNat t.Back.toNat]
theorem j7 {t:AL} {a:List UInt8} (h:xK a t) (ho:a.length<=64):(LW t).length<=32:=by
 unfold LW
 rcases h with⟨h1,h2,h3,h4⟩|⟨h1,h2,h3,h4,h5⟩
 ·grind
 grind
theorem uV {t:AL} {a:List UInt8} (h:xK a t):a.length<=(Ww a t).length:=by grind [dY,Ww]
theorem L7 {l:List AL} (h:pO l):∀i,i<=l.length->(Ed (l.take i)).length<=(Ed l).length:=by
 have step:∀i,i<l.length->(Ed<|l.take i).length<=(Ed<|l.take<|i+1).length:=λi hi=>by
  rw[Ag hi,MR];exact uV<|h i _<|Ab hi
 intro i hi;have:∀k,i+k<=l.length->(Ed<|l.take i).length<=(Ed<|l.take<|i+k).length:=by
  intro k
  induction k with
  |zero=>grind
  |succ k ih=>grind
 have:=this (l.length-i) (by omega);simp_all
theorem yS (s:ByteArray) (hs:(L s).length<=64):∃l,pO l/\Ed l=L s/\l.length<=64/\((DJ s=some (bs (122::l.flatMap LW),true))\/DJ s=some (bs (114::L s),true)):=by
 obtain⟨l,h1,h2,h3,h4⟩:=rW s hs;refine⟨l,h2,h3,h4,?_⟩;unfold DJ;rw[Bq,cF,h1];simp only[Aa];obtain⟨b,q1,q2⟩:=AD (body:=λq:ByteArray×Int=>DS l q.1 q.2) (λz i=>(z,i)) l.length (λi z=>L z=122::(l.take i).flatMap LW/\(L z).length<=1+32*i) (λz=>L z=122::l.flatMap LW/\(L z).length<=3000)
  (λz i hi hz=>by
   have hx:=Ab hi;have c:=h2 i _ hx;have a:=L7 h2 i (by omega);rw[h3]at a;have d:=j7 c (by omega);have et:(l.take<|i+1).flatMap LW=(l.take i).flatMap LW++LW l[i]:=by grind [Ag]
   simp only[DS,EM hi,Ar,hx,Aa];rw[ad1];refine .inl ?_
   rcases c with⟨k1,k2,k3,k4⟩|⟨k1,k2,k3,k4,k5⟩
   ·grind [FP,FC,LQ,Bq,IntKind.wrap_u8,LW]
   grind [Ca,FP,FC,LQ,IntKind.wrap_u8,LW])
  (λz hz=>⟨z,by simp[En,DS],by grind,by omega⟩) (s:=bs [122]) ⟨by rw[DL];rfl,by rw[DL];simp⟩
 rw[q1];simp only[Aa];have hb:b=bs (122::l.flatMap LW):=IX<|by rw[q2.1,DL]
 cases decide (ad ((L s).length:Int) 1<=Gf b)with
 |false=>grind
 |true=>
  right;rw[FP _ _<|by grind [DL]];rfl
theorem SF (t:ByteArray) (ht:(L t).length<=10000):∀(l:List AL) (a:Nat) (c:List AL),(∀x∈l,∃o:List UInt8,xK o x/\o.length<=64)->(L t).drop a=l.flatMap LW->a<=(L t).length->c.length<=a->Aj (λq:List AL×Int=>B7 t q.1 q.2) (c,(a:Int))=some (.inl (c++l))
 |[],a,c,hl,h,ha,ho=>by
  have:(L t).length=a:=by simp_all;grind
  grind [Az,Bq,B7]
 |x::l,a,c,hl,h,ha,ho=>by
  obtain⟨o,k,p⟩:=hl x (by simp);rw[List.flatMap_cons]at h;have d:=Cn List.length h;rw[Nj,AC]at d
  rcases k with⟨k1,k2,k3,k4⟩|⟨k1,k2,k3,k4,k5⟩
  ·have he:LW x=UInt8.ofNat (L x.Text).length::L x.Text:=by grind [LW]
   rw[he]at h d;rw[AZ]at d;have f:a<(L t).length:=by omega
   have e:=AJ f;rw[h,BW]at e
   injection e with hx hd
   have j:(((L t)[a]).toNat:Int)=((L x.Text).length:Int):=by grind [Fx]
   have n:sub t ((a+1:Nat):Int) ((a+1+(L x.Text).length:Nat):Int)=some x.Text:=by
    rw[E6 t (by omega)<|by omega]
    grind [IX,Iv,List.take_left']
   have hb:B7 t c (a:Int)=some (.inl (c++ [AL.mk 0 0 x.Text],((a+1+(L x.Text).length:Nat):Int))):=by grind [Bq,DO,M8,Ca,BL,B7]
   have i:AL.mk 0 0 x.Text=x:=by
    cases x with
    |mk b z u=>grind
   rw[i]at hb;rw[Az];simp only[hb];have:=SF t ht l (a+1+(L x.Text).length) (c++ [x]) (λy hy=>hl y<|by simp[hy]) (by rw[<-DE,<-hd,HW rfl]) (by omega) (by simp;omega)
   grind
  have he:LW x=[UInt8.ofNat (128+x.Size).toNat,UInt8.ofNat x.Back.toNat]:=by unfold LW;grind
  rw[he]at h d;simp only[AZ,KI]at d;have f:a<(L t).length:=by omega
  have e:=AJ f;rw[h]at e;simp only[BW,A0]at e
  injection e with hx hd
  have g:=AJ (show a+1<(L t).length by omega);rw[<-hd]at g
  injection g with hx2 hd2
  have j:(((L t)[a]).toNat:Int)=128+x.Size:=by grind [Fx]
  have m:(((L t)[a+1]'(by omega)).toNat:Int)=x.Back:=by grind [Fx]
  have hb:B7 t c (a:Int)=some (.inl (c++ [AL.mk x.Back x.Size<|bs []],((a+2:Nat):Int))):=by
   simp only[B7];rw[Bq,cT,DO t f,Aa,j,M8 (by omega) (by omega),cT,Ca (b:=2) (by omega) (by omega),cF,ad1,DO t (by omega),Aa,m,M8 (by omega) (by omega),BV,BL (by simp;omega),Aa,show 128+x.Size-128=x.Size by omega];rfl
  have i:AL.mk x.Back x.Size (bs [])=x:=by
   cases x with
   |mk b z u=>grind [IX,DL]
  rw[i]at hb;rw[Az];simp only[hb];have:=SF t ht l (a+2) (c++ [x]) (λy hy=>hl y<|by simp[hy]) (by grind) (by omega) (by simp;omega)
  grind
def HC (l:List UInt8):List Int:=l.map λc=>(c.toNat:Int)
theorem mG (l:List UInt8):L (Gp (HC l))=l:=by
 rw[LQ,HC,HI];have:((λn:Int=>UInt8.ofNat n.toNat)∘λc:UInt8=>(c.toNat:Int))=id:=by
  funext c;simp
 rw[this,Rw]
theorem oP (b:ByteArray):lM b=HC (L b):=rfl
theorem VL (x:AL) (b:1<=x.Back) (hs:0<=x.Size/\x.Size<=31):∀(n k:Nat) (a:List UInt8),(k:Int)+n=x.Size->x.Back<=(a.length:Int)->a.length+n<=1000->Aj (λq:List Int×Int=>Dg x q.1 q.2) (HC a,(k:Int))=some (HC (TP n x.Back.toNat a))
 |0,k,a,hk,c,ho=>by
  rw[Az];have hb:Dg x (HC a) (k:Int)=some (.inr (HC a)):=by grind [Dg]
  simp only[hb];rfl
 |n+1,k,a,hk,c,ho=>by
  have d:ln (HC a)=(a.length:Int):=by rw[Bu,HC,BG]
  have e:gi (HC a) ((a.length:Int)-x.Back)=some (((a[a.length-x.Back.toNat]?).getD 0).toNat:Int):=by grind [Ar,HC]
  have hb:Dg x (HC a) (k:Int)=some (.inl (HC<|a++ [(a[a.length-x.Back.toNat]?).getD 0],((k+1:Nat):Int))):=by grind [BV,BL,ad1,Dg,HC]
  rw[Az];simp only[hb];rw[TP];exact VL x b hs n (k+1) _ (by omega) (by simp;omega) (by simp;omega)
theorem f8 (l:List AL) (hl:l.length<=64) (a:pO l) (h64:(Ed l).length<=64):Aj (λq:List Int×Int=>D4 l q.1 q.2) ([],0)=some (.inl (HC (Ed l))):=by
 obtain⟨b,h1,h2⟩:=AD (body:=λq:List Int×Int=>D4 l q.1 q.2) (λ(o:List UInt8) i=>(HC o,i)) l.length (λi o=>o=Ed (l.take i)) (λb=>b= .inl (HC<|Ed l))
  (λo i hi ho=>by
   have hx:=Ab hi;have hk:=a i _ hx;have hm:=L7 a i (by omega);have c:=L7 a (i+1) (by omega);have et:Ed (l.take<|i+1)=Ww o l[i]:=by grind [Ag,MR]
   rw[<-ho]at hk hm;rw[et]at c
   have d:∀q:List UInt8,ln (HC q)=(q.length:Int):=λq=>by rw[Bu,HC,BG]
   simp only[D4,EM hi,Ar,hx,Aa];refine .inl ⟨Ww o l[i],?_,et.symm⟩
   rcases hk with⟨k1,k2,k3,k4⟩|⟨k1,k2,k3,k4,k5⟩
   ·rw[show(l[i].Back==0)=true by simpa using k1,Ak,Bq,Du,Ac<|by omega]
    grind [oP,ad1,ap,HC,Ww]
   rw[show(l[i].Back==0)=false by simp;omega,Ad,d,Du,Ac<|by omega];rw[Du,Ac<|by omega];simp only[Aa,Av,Ad];have e:seq l[i].Text (bs [])=true:=by grind [Lr,IX,DL]
   grind [VL,ad1,Ww])
  (λo ho=>⟨.inl<|HC o,by simp[En,D4],by grind⟩) (s:=[]) rfl
 rw[<-h2];exact h1
theorem rV (s:ByteArray) (hs:(L s).length<=64):∃z,DJ s=some (z,true)/\ED z=some (s,true)/\1<=(L z).length:=by
 obtain⟨l,h1,h2,h3,h4⟩:=yS s hs;have fin:∀z:ByteArray,DJ s=some (z,true)->((DJ s).bind λv3=>(cond (!v3.2) (some true) (some<|!(seq v3.1 z)):Option Bool).bind λj2=>cond j2 (some (bs [],false))<|some (s,true))=some (s,true):=by grind [seq]
 rcases h4 with h4|h4
 ·refine⟨_,h4,?_,by rw[DL];simp⟩;have hf:=fin _ h4;generalize hz:bs (122::l.flatMap LW)=z at h4 hf;have hL:L z=122::l.flatMap LW:=by rw[<-hz,DL]
  have f:(L z).length<=3000:=by
   have:∀m:List AL,(∀x∈m,∃o:List UInt8,xK o x/\o.length<=64)->(m.flatMap LW).length<=32*m.length:=by
    intro m
    induction m with
    |nil=>intro _;simp
    |cons x m ih=>
     intro hm;obtain⟨o,g,h⟩:=hm x<|by simp
     grind [j7]
   have:=this l (λx hx=>by
    obtain⟨i,hi,rfl⟩:=A5 hx;have hm:=L7 h1 i (by omega);rw[h2]at hm
    exact⟨_,h1 i _<|Ab hi,by omega⟩)
   grind
  unfold ED;have a:1<=(L z).length:=by rw[hL];simp
  rw[Bq,show(((L z).length:Int)==0)=false by grind,Ad];have b:sub z 1 ((L z).length:Int)=some (bs<|l.flatMap LW):=by
   rw[show(1:Int)=((1:Nat):Int)from rfl,E6 z a<|A8 _]
   grind [IX,Iv,DL]
  have c:sx z 0=some 122:=by
   rw[show(0:Int)=((0:Nat):Int)from rfl,DO z (i:=0) a];simp_all
  rw[b,c];simp only[Aa];rw[show((122:Int)==122)=true from rfl];have d:(L<|bs<|l.flatMap LW).length<=10000:=by rw[DL];grind
  have e:=SF (bs<|l.flatMap LW) d l 0 [] (λx hx=>by
    obtain⟨i,hi,rfl⟩:=A5 hx;have hm:=L7 h1 i (by omega);rw[h2]at hm
    exact⟨_,h1 i _<|Ab hi,by omega⟩) (by rw[DL];rfl) (by omega)<|by simp
  rw[show((0:Nat):Int)=0 from rfl,A0]at e
  grind [f8,IX,mG,JX,Fe]
 refine⟨_,h4,?_,by rw[DL];simp⟩;have hf:=fin _ h4;generalize hz:bs (114::L s)=z at h4 hf;have hL:L z=114::L s:=by rw[<-hz,DL]
 unfold ED;have a:1<=(L z).length:=by rw[hL];simp
 rw[Bq,show(((L z).length:Int)==0)=false by grind,Ad];have b:sub z 1 ((L z).length:Int)=some s:=by
  rw[show(1:Int)=((1:Nat):Int)from rfl,E6 z a<|A8 _]
  grind [IX,Iv]
 have c:sx z 0=some 114:=by
  rw[show(0:Int)=((0:Nat):Int)from rfl,DO z (i:=0) a];simp_all
 grind
theorem rE (a b:List ByteArray):MD (a++b)=MD a++MD b:=by unfold MD;grind
def BR (seq tx:Int) (T:List ByteArray):List Page:=T.mapIdx λi t=>Page.mk 2 (seq+i) tx i T.length t
theorem nF (a:List CD) (hr:a.length<=1048576) (d:∀r∈a,Fw r=true):∃T:List ByteArray,Aj (λs:List ByteArray×Int=>Hd a s.1 s.2) ([bs []],0)=some (.inl T)/\1<=T.length/\T.length<=max 1 a.length/\MD T=Ij a/\∀t∈T,(L t).length<=90:=by
 obtain⟨b,h1,T,h2,h3⟩:=AD (body:=λs:List ByteArray×Int=>Hd a s.1 s.2) (λ(o:List ByteArray) i=>(o,i)) a.length
  (λi T=>1<=T.length/\(T.length<=max 1 i/\(i=0->T=[bs []]))/\MD T=Ij (a.take i)/\∀t∈T,(L t).length<=90)
  (λb=>∃T:List ByteArray,b= .inl T/\1<=T.length/\T.length<=max 1 a.length/\MD T=Ij a/\∀t∈T,(L t).length<=90)
  (λT i hi hT=>by
   obtain⟨g,⟨h,q⟩,j,k⟩:=hT;have hx:=Ab hi;obtain⟨t,t1,t2⟩:=Zl<|d _<|Ay hi;have l:=oZ<|d _<|Ay hi;rw[<-t2]at l;have et:Ij (a.take<|i+1)=Ij (a.take i)++L t:=by grind [Ag,Ij]
   rcases FB T with e|⟨T0,c,e⟩
   ·grind
   rw[Iz]at e;subst e;have u:ln (T0++ [c])=((T0.length+1:Nat):Int):=by rw[Bu];simp
   rw[AC,F9]at g h;have m:sb (ln<|T0++ [c]) 1=(T0.length:Int):=by grind [BV]
   have n:gi (T0++ [c]) (T0.length:Int)=some c:=F8 _ _;have p:=k c (by simp);rw[rE]at j;simp only[Hd,EM hi,Ar,hx,Aa];rw[t1];rw[m,n];simp only[Aa];rw[Bq,Bq,Ca,ad1];refine .inl ?_;by_cases f:((L c).length:Int)+((L t).length:Int)>90
   ·have v:i≠0:=λe=>by grind [DL]
    grind [BL,MD]
   rw[Ah f,Ad,FP _ _<|by omega];simp only[Aa];rw[Ia];refine⟨T0++ [c++t],rfl,by simp,⟨by simp;omega,by omega⟩,?_,λx w=>?_⟩
   ·grind [FC,MD]
   grind [FC])
  (λT hT=>⟨_,by simp[En,Hd],T,rfl,hT.1,hT.2.1.1,by grind,hT.2.2.2⟩) (s:=[bs []]) ⟨by simp,⟨by simp,λ_=>rfl⟩,by rfl,λt ht=>by grind [DL]⟩
 grind
theorem nG (seq tx:Int) (a:List CD) (hr:a.length<=1000) (c:∀r∈a,Fw r=true):∃T:List ByteArray,1<=T.length/\MD T=Ij a/\(∀t∈T,(L t).length<=90)/\T.length<=max 1 a.length/\
  ((MM seq tx a=some (BR seq tx T,true)/\T.length<=9/\1<=seq/\seq+T.length-1<=1000000000/\1<=tx/\tx<=1000000000)\/(MM seq tx a=some ([],false)/\¬(T.length<=9/\1<=seq/\seq+T.length-1<=1000000000/\1<=tx/\tx<=1000000000))):=by
 obtain⟨T,h1,h2,h2',h3,h4⟩:=nF a (by omega) c;refine⟨T,h2,h3,h4,h2',?_⟩;unfold MM;rw[h1];simp only[Aa,Ei];rw[Bu];by_cases h9:(T.length:Int)>9
 ·grind
 rw[Ah h9];rw[BV,Ca,Du,Du];simp only[Aa];by_cases hs:1<=seq/\seq<=1000000000-(T.length:Int)+1
 ·rw[Ac hs];by_cases ht:1<=tx/\tx<=1000000000
  ·left;obtain⟨b,q1,q2⟩:=AD (body:=λs:List Page×Int=>I9 seq tx T s.1 s.2) (λ(o:List Page) i=>(o,i)) T.length (λi o=>o=(BR seq tx T).take i) (λb=>b=BR seq tx T)
    (λo i hi ho=>by grind [Ar,Ca,Bu,BL,Dc,I9,BR])
    (λo ho=>⟨o,by simp[En,I9],by grind [AS,BR]⟩) (s:=[]) rfl
   grind
  grind
 grind
def Steps:Flash->List Bt->Flash->Prop
 |f,[],g=>g=f
 |f,s::ss,g=>OP f s/\Steps (KD f s) ss g
theorem Ni:∀(f:Flash) (a b:List Bt) (g:Flash),Steps f (a++b) g↔∃m,Steps f a m/\Steps m b g
 |f,[],b,g=>⟨λh=>⟨f,rfl,h⟩,λ⟨m,h1,h2⟩=>by rw[h1]at h2;exact h2⟩
 |f,s::a,b,g=>by
  rw[BW];simp only[Steps,Ni]
  grind
theorem UT:∀{f:Flash} {a:List Bt} {g:Flash},Bc f->Steps f a g->Bc g
 |f,[],g,hf,h=>by rw[h];exact hf
 |f,s::a,g,hf,h=>UT (s8 hf h.1) h.2
theorem iQ {m:Flash} {s:Bt} (h:Steps f a m) (hs:OP m s):Steps f (a++ [s]) (KD m s):=(Ni f a [s] _).2 ⟨m,h,hs,rfl⟩
theorem cE (hf:Bc f) (h:Steps f a g) (ha:a.length<=1048576):PT f a=some (g,(a.length:Int)):=by
 unfold PT;rw[CT f hf.cap];simp only[Aa];obtain⟨b,h1,h2⟩:=AD (body:=λs:Int×List Block=>IK a s.1 s.2) (λ(o:List Block) i=>(i,o)) a.length (λi o=>Steps f (a.take i) (Flash.mk o)/\Steps (Flash.mk o) (a.drop i) g) (λb=>b= .inl g.Blocks)
  (λo i hi hs=>by
   have hx:=Ab hi;obtain⟨s1,s2⟩:=hs;rw[AJ hi]at s2;simp only[IK,EM hi,Ar,hx,Aa];have hP:=UT hf s1
   rcases NE hP a[i]with⟨k1,k2⟩|⟨k1,k2⟩
   ·rw[k2];rw[ad1];refine .inl ⟨(KD (Flash.mk o) a[i]).Blocks,rfl,?_,s2.2⟩;rw[Ag hi];exact iQ s1 k1
   exact absurd s2.1 k1)
  (λo hs=>⟨.inl o,by simp[En,IK],by
   have:=hs.2;rw[List.drop_length]at this
   rw[show g=Flash.mk o from this]⟩) (s:=f.Blocks) ⟨rfl,h⟩
 rw[h1,h2];rfl
def GZ:Flash->List Bt->List Page->Flash->Prop
 |f,[],[],g=>g=f
 |f,s::ss,p::ps,g=>s.Kind=1/\ZE f s.Block s.Leaf s.Text/\Ec s.Text=some (p,true)/\GZ (KD f s) ss ps g
 |_,_,_,_=>False
theorem EI:∀{f:Flash} {ss:List Bt} {ps:List Page} {g:Flash},GZ f ss ps g->Steps f ss g/\ss.length=ps.length
 |f,[],[],g,h=>⟨h,rfl⟩
 |f,s::ss,p::ps,g,h=>⟨⟨.inl ⟨h.1,h.2.1⟩,(EI h.2.2.2).1⟩,by rw[AZ,AZ,(EI h.2.2.2).2]⟩
 |f,[],p::ps,g,h=>h.elim
 |f,s::ss,[],g,h=>h.elim
theorem WK:∀{f:Flash} {ss:List Bt} {ps:List Page} {g:Flash} {b l:Int} {t:ByteArray} {p:Page},GZ f ss ps g->ZE g b l t->Ec t=some (p,true)->GZ f (ss++ [Bt.mk 1 b l t]) (ps++ [p]) (LR g b l (Leaf.mk 1 t))
 |f,[],[],g,b,l,t,p,h,h1,h2=>by
  have:g=f:=h;subst this;exact⟨rfl,h1,h2,by unfold KD;rfl⟩
 |f,s::ss,q::ps,g,b,l,t,p,h,h1,h2=>⟨h.1,h.2.1,h.2.2.1,WK h.2.2.2 h1 h2⟩
 |f,[],q::ps,g,b,l,t,p,h,h1,h2=>h.elim
 |f,s::ss,[],g,b,l,t,p,h,h1,h2=>h.elim
def BU (ss:List Bt) (ps:List Page):List An:=List.zipWith (λs p=>An.mk s.Block s.Leaf p) ss ps
def FQ:Int->List Page->Prop
 |_,[]=>True
 |n,p::ps=>n<=p.Seq/\FQ (p.Seq+1) ps
theorem WL:∀{f:Flash} {ss:List Bt} {ps:List Page} {g:Flash} {r:List An} {n:Int},Bc f->SR (IP 0 f.Blocks) r->GZ f ss ps g->(∀y∈r,y.Page.Seq<n)->FQ n ps->SR (IP 0 g.Blocks) (r++BU ss ps)
 |f,[],[],g,r,n,hf,a,h,hn,ha=>by
  have:g=f:=h;simp_all [BU]
 |f,s::ss,p::ps,g,r,n,hf,a,h,hn,ha=>by
  obtain⟨h1,h2,h3,h4⟩:=h;obtain⟨k1,_,A,B,k2,k3,_⟩:=HR hf h2;have c:KD f s=LR f s.Block s.Leaf (Leaf.mk 1 s.Text):=by grind [KD]
  rw[c]at h4;have b:SR (IP 0 (LR f s.Block s.Leaf<|Leaf.mk 1 s.Text).Blocks) (r++ [An.mk s.Block s.Leaf p]):=by
   rw[k3 p<|cM h3]
   refine SR.add (by grind) λx hx=>?_
   have:=hn x hx;have:=ha.1;show x.Page.Seq<p.Seq;omega
  have:=WL k1 b h4 (n:=p.Seq+1) (λy hy=>by
   rw[A7,Cb]at hy
   rcases hy with hy|rfl
   ·have:=hn y hy;have:=ha.1;omega
   grind) ha.2
  rw[BD]at this;exact this
 |f,[],q::ps,g,r,n,hf,a,h,hn,ha=>h.elim
 |f,s::ss,[],g,r,n,hf,a,h,hn,ha=>h.elim
theorem Rs:∀{f:Flash} {ss:List Bt} {ps:List Page} {g:Flash} (k:Nat),GZ f ss ps g->∃m,GZ f (ss.take k) (ps.take k) m
 |f,[],[],g,k,h=>⟨f,by simp[GZ]⟩
 |f,s::ss,p::ps,g,0,h=>⟨f,rfl⟩
 |f,s::ss,p::ps,g,k+1,h=>by
  obtain⟨m,hm⟩:=Rs k h.2.2.2;exact⟨m,h.1,h.2.1,h.2.2.1,hm⟩
 |f,[],q::ps,g,k,h=>h.elim
 |f,s::ss,[],g,k,h=>h.elim
theorem pA (hg:Bc g) (h:GZ f ss ps g) (hs:ss.length<=1000) (p:Page):
  (∃s g',Hy g ss p=some (g',ss++ [s],true)/\GZ f (ss++ [s]) (ps++ [p]) g'/\Bc g'/\Ik p/\Ra g s.Block s.Leaf)\/Hy g ss p=some (g,ss,false):=by
 by_cases hp:Ik p
 ·obtain⟨t,t1,t2,t3,t4⟩:=mB hp
  rcases Vw hg ss (by omega) p t1 (λ_=>⟨t2,t3⟩)with⟨_,b,l,q1,_,q2⟩|q
  ·left;have hm:ZE g b l t:=by
    obtain⟨x,a1,a2,a3,a4⟩:=q1;exact⟨x,a1,a2,a3,a4,t2,t3⟩
   exact⟨_,_,q2,WK h hm t4,(HR hg hm).1,hp,q1⟩
  exact .inr q
 rcases Vw hg ss (by omega) p (pD hp) (λhh=>by cases hh)with⟨hh,_⟩|q
 ·cases hh
 exact .inr q
theorem VM (hf:Bc f) (ps:List Page) (rt:Bool) (c:ps.length<=9) (a:List Page) (ss0:List Bt) (g0:Flash) (ok0:Bool) (h0:ok0=true->GZ f ss0 a g0/\Bc g0/\ss0.length<=1):
  ∃ss ok,Aj (λs:List Bt×Bool×Int×List Block=>Ep (ps,rt) s.1 s.2.1 s.2.2.1 s.2.2.2) (ss0,ok0,0,g0.Blocks)=some (ss,ok)/\(ok=true->ok0=true/\∃g,GZ f ss (a++ps) g/\Bc g/\∀p∈ps,Ik p):=by
 obtain⟨b,h1,h2⟩:=AD (body:=λs:List Bt×Bool×Int×List Block=>Ep (ps,rt) s.1 s.2.1 s.2.2.1 s.2.2.2) (λ(o:List Bt×Bool×List Block) i=>(o.1,o.2.1,i,o.2.2)) ps.length
  (λi o=>o.2.1=true->ok0=true/\GZ f o.1 (a++ps.take i) (Flash.mk o.2.2)/\Bc (Flash.mk o.2.2)/\o.1.length<=i+1/\∀p∈ps.take i,Ik p)
  (λb=>b.2=true->ok0=true/\∃g,GZ f b.1 (a++ps) g/\Bc g/\∀p∈ps,Ik p)
  (λo i hi hs=>by
   obtain⟨ss,ok,bl⟩:=o;have hx:=Ab hi;simp only[Ep,Ms,Ac hi,Ak,Aa]
   cases ok with
   |false=>grind
   |true=>
    obtain⟨k0,k1,k2,k3,k4⟩:=hs rfl;simp only[Ak,Ar,hx,Aa];refine .inl ?_
    rcases pA k2 k1 (by omega) ps[i]with⟨s,g',q1,q2,q3,q4,_⟩|q
    ·rw[q1];rw[ad1];refine⟨(ss++ [s],true,g'.Blocks),rfl,λ_=>⟨k0,?_,q3,by simp;omega,λp hp=>?_⟩⟩
     ·simp_all
     grind [Ag]
    rw[q];rw[ad1]
    simp)
  (λo hs=>⟨(o.1,o.2.1),by grind [Ms,Ep],λhh=>by grind⟩) (s:=(ss0,ok0,g0.Blocks)) (λhh=>by simp_all)
 grind
def Cv (d:AG) (c:Int) (a:ByteArray):List Page:=if L a=[]then []else [Page.mk 1 d.Seq c 0 1 a]
def Ht (d:AG) (a:ByteArray):Int:=if L a=[]then d.Seq else d.Seq+1
theorem aN (hf:Bc d.Flash) (j:0<=d.Seq/\d.Seq<=1000000001) (b:List CD) (h:b≠ []) (hr:b.length<=1000) (i:∀r∈b,Fw r=true) (a:ByteArray):
  Df d b a=some ([],false)\/∃steps T g c,b[b.length-1]?=some c/\Df d b a=some (steps,true)/\1<=T.length/\T.length<=9/\MD T=Ij b/\(∀t∈T,(L t).length<=90)/\
   GZ d.Flash steps (Cv d c.Chunk a++BR (Ht d a) d.Tx T) g/\Bc g/\(∀p∈Cv d c.Chunk a++BR (Ht d a) d.Tx T,Ik p)/\T.length<=max 1 b.length:=by
 have k:0<b.length:=K1.2 h;obtain⟨c,e⟩:∃c,b[b.length-1]?=some c:=⟨_,Ab<|by omega⟩;unfold Df;rw[show(ln b==0)=false by grind [Bu]];have first:∃ss0 g0 ok0,(cond (!(seq a<|bs [])) (((gi b<|sb (ln b) 1).bind λx1=>(Hy d.Flash []<|Page.mk 1 d.Seq x1.Chunk 0 1 a).bind λv1=>some (v1.2.1,v1.2.2,v1.1.Blocks):Option (List Bt×Bool×List Block)).bind λj2=>some (j2.1,ad d.Seq 1,j2.2.1,j2.2.2)) (some ([],d.Seq,true,d.Flash.Blocks)):Option (List Bt×Int×Bool×List Block))=some (ss0,Ht d a,ok0,Flash.Blocks g0)/\(ok0=true->GZ d.Flash ss0 (Cv d c.Chunk a) g0/\Bc g0/\ss0.length<=1/\∀p∈Cv d c.Chunk a,Ik p):=by
  by_cases ht:L a=[]
  ·have:seq a (bs [])=true:=by grind [Lr,IX,DL]
   rw[this];refine⟨[],d.Flash,true,?_,λ_=>⟨?_,hf,by simp,?_⟩⟩
   ·grind [Ht]
   ·unfold Cv;rw[Cl ht];rfl
   unfold Cv;grind
  have:seq a (bs [])=false:=by grind [Lr,DL]
  rw[this];rw[Bu,BV,show(b.length:Int)-1=((b.length-1:Nat):Int) by omega,Ar,e,Aa,Ca];have e1:Ht d a=d.Seq+1:=by grind [Ht]
  have e2:Cv d c.Chunk a=[Page.mk 1 d.Seq c.Chunk 0 1 a]:=by grind [Cv]
  rw[e1,e2]
  rcases pA (f:=d.Flash) (ss:=[]) (ps:=[]) hf rfl (by simp) (Page.mk 1 d.Seq c.Chunk 0 1 a)with⟨s,g',q1,q2,q3,q4,_⟩|q
  ·rw[q1];refine⟨_,g',true,rfl,λ_=>⟨q2,q3,by simp,λp hp=>?_⟩⟩
   grind
  rw[q];exact⟨_,d.Flash,false,rfl,λhh=>by cases hh⟩
 obtain⟨ss0,g0,ok0,e0,h0⟩:=first
 rw[e0];simp only[Aa];obtain⟨T,t1,t2,t3,tm,t4⟩:=nG (Ht d a) d.Tx b hr i
 rcases t4 with⟨t4,t5,t6,t7,t8,t9⟩|⟨t4,_⟩
 ·rw[t4];simp only[Aa];obtain⟨ss,ok,q1,q2⟩:=VM hf (BR (Ht d a) d.Tx T) true (by unfold BR;grind) (Cv d c.Chunk a) ss0 g0 ok0 λhh=>⟨(h0 hh).1,(h0 hh).2.1,(h0 hh).2.2.1⟩;rw[q1];simp only[Aa]
  grind
 rw[t4];obtain⟨ss,ok,q1,q2⟩:=VM hf [] false (by simp) (Cv d c.Chunk a) ss0 g0 ok0 λhh=>⟨(h0 hh).1,(h0 hh).2.1,(h0 hh).2.2.1⟩
 grind
theorem S3 (hf:Bc d.Flash) (q:0<=d.Seq/\d.Seq<=1000000001) (h:List CD) (u:h≠ []) (hr:h.length<=1000) (v:∀r∈h,Fw r=true) (i:ByteArray):
  Df d h i=some ([],false)\/∃steps T g j,h[h.length-1]?=some j/\Df d h i=some (steps,true)/\1<=T.length/\T.length<=9/\MD T=Ij h/\(∀t∈T,(L t).length<=90)/\
   GZ d.Flash steps (Cv d j.Chunk i++BR (Ht d i) d.Tx T) g/\Bc g/\∀p∈Cv d j.Chunk i++BR (Ht d i) d.Tx T,Ik p:=
 (aN hf q h u hr v i).imp id λ⟨s,T,g,l,a,b,c,e,f,k,m,n,o,_⟩=>⟨s,T,g,l,a,b,c,e,f,k,m,n,o⟩
def IY (r:List An) (c:Int):Option An:=(r.filter<|LD c).getLast?
noncomputable def SC (t:ByteArray):Option ByteArray:=match ED t with
 |some (s,true)=>some s
 |_=>none
noncomputable def BX (r:List An) (c:Int):Option ByteArray:=(IY r c).bind λy=>SC y.Page.Text
theorem Sj:LD c y=true↔y.Page.Kind=1/\y.Page.Tx=c:=by
 unfold LD
 grind
theorem VS (h:IY r c=some y):y∈r/\y.Page.Kind=1/\y.Page.Tx=c:=by
 have:=List.mem_of_getLast? h
 grind [Sj]
theorem MS (r:List An) (y:An) (c:Int):IY (r++ [y]) c=if y.Page.Kind=1/\y.Page.Tx=c then some y else IY r c:=by simp_all [Sj,IY];grind
theorem Yk (r m:List An) (h:∀y∈m,y.Page.Kind≠1) (c:Int):IY (r++m) c=IY r c:=by grind [Sj,IY]
theorem Wm {y:α} (l:List α) (p:α->Bool) (h:l.getLast? =some y) (hp:p y=true):(l.filter p).getLast? =some y:=by
 rcases FB l with e|⟨m,x,e⟩
 ·grind
 grind
theorem cV (p:An->Bool) (h:IY r c=some y) (hp:p y=true):IY (r.filter p) c=some y:=by
 unfold IY at h⊢;rw[Dt];have:r.filter (λa=>LD c a&&p a)=(r.filter<|LD c).filter p:=by grind [Dt]
 grind [Wm]
theorem VQ {o:Option Nat} (h:cZ c r r.length o):IY r c=o.bind λj=>r[j]? :=by
 cases o with
 |none=>
  unfold IY;have:r.filter (LD c)=[]:=by
   rw[Co];intro y hy;obtain⟨j,hj,rfl⟩:=A5 hy;have:=h j r[j] hj<|Ab hj;rw[this];simp
  rw[this];rfl
 |some j=>
  obtain⟨h1,⟨y,h2,h3⟩,h4⟩:=h;unfold IY;obtain⟨e1,e2⟩:=HS h2;have:(r.drop<|j+1).filter (LD c)=[]:=by
   rw[Co];intro z hz;obtain⟨k,hk,rfl⟩:=A5 hz;rw[Nj]at hk;rw[List.getElem_drop];have:=h4 (j+1+k) _ (by omega) (by omega) (Ab<|by omega);rw[this];simp
  grind
theorem fY (hr:r.length<=1048576) (c:Int):∃y ok,JU r c=some (y,ok)/\IY r c=(if ok=true then some y else none):=by
 obtain⟨o,h1,h2⟩:=mJ r hr c;have h3:=VQ h2
 cases o with
 |none=>grind
 |some j=>
  obtain⟨_,⟨y,k1,_⟩,_⟩:=h2
  grind [uU]
theorem bW (hr:EO r) (c:Int):∃u ok,MK r c=some (u,ok)/\BX r c=(if ok=true then some u else none):=by
 obtain⟨y,ok,h1,h2⟩:=fY hr.len c;unfold MK BX;rw[h1,h2]
 cases ok with
 |false=>simp
 |true=>
  have hy:=(VS (by rw[h2];rfl)).1;obtain⟨u,ok2,k1,_,_⟩:=Xz y.Page.Text (by have:=hr.text y hy;omega)
  grind [SC]
structure HK (r:List An):Prop where
 pages:EO r
 inc:r.Pairwise λx y=>x.Page.Seq<y.Page.Seq
 mu:eW r
def Dx (l:Vs) (c:Int):Prop:=0<c/\∃p∈l,c∈p.2
structure Fu (r:List An) (P:Int->Prop):Prop where
 data:∀c,P c->∃s,BX r c=some s
 dist:∀c c',P c->P c'->BX r c=BX r c'->c=c'
theorem Fu.mono {Q:Int->Prop} (h:Fu r P) (hq:∀c,Q c->P c):Fu r Q:=⟨λc hc=>h.data c<|hq c hc,λc c' hc hc'=>h.dist c c' (hq c hc)<|hq c' hc'⟩
theorem Fu.congr (h:Fu r P) (he:∀c,P c->BX r' c=BX r c):Fu r' P:=⟨λc hc=>by rw[he c hc];exact h.data c hc,λc c' hc hc' e=>h.dist c c' hc hc'<|by grind⟩
theorem Fu.metas (h:Fu r P) (hm:∀y∈m,y.Page.Kind≠1):Fu (r++m) P:=h.congr λc _=>by grind [Yk,BX]
theorem e7 (h:Fu r P) (hy:¬P y.Page.Tx):Fu (r++ [y]) P:=h.congr λc hc=>by grind [MS,BX]
theorem e8 (h:Fu r P) (hy:SC y.Page.Text=BX r y.Page.Tx):Fu (r++ [y]) P:=h.congr λc hc=>by grind [MS,BX]
theorem nL {s:ByteArray} (h:Fu r P) (hk:y.Page.Kind=1) (hn:¬P y.Page.Tx) (ht:SC y.Page.Text=some s) (hs:∀c,P c->BX r c≠some s):Fu (r++ [y]) (λc=>P c\/c=y.Page.Tx):=by
 have b:BX (r++ [y]) y.Page.Tx=some s:=by grind [MS,BX]
 have a:∀c,P c->BX (r++ [y]) c=BX r c:=λc hc=>by grind [MS,BX]
 refine⟨λc hc=>?_,λc c' hc hc' e=>?_⟩
 ·rcases hc with hc|rfl
  ·rw[a c hc];exact h.data c hc
  grind
 rcases hc with hc|rfl<;>rcases hc' with hc'|rfl
 ·exact h.dist c c' hc hc'<|by grind
 ·grind
 ·grind
 rfl
theorem HK.filter (h:HK r) (p:An->Bool):HK (r.filter p):=by
 refine⟨⟨by have:=MG p r;have:=h.pages.len;omega,λy hy=>h.pages.text y (AY.1 hy).1,λy hy=>h.pages.seq y (AY.1 hy).1,λy hy=>h.pages.tx y (AY.1 hy).1,λy hy=>h.pages.cnt y (AY.1 hy).1,λy hy=>h.pages.part y (AY.1 hy).1⟩,h.inc.filter _,⟨λy hy z hz=>h.mu.uniq y (AY.1 hy).1 z (AY.1 hz).1⟩⟩
theorem HK.add (h:HK r) (hl:r.length<=1000000) (hb:Ik y.Page) (hs:C9 r<=y.Page.Seq) (hm:y.Page.Kind=2->∀z∈r,z.Page.Kind=2->z.Page.Tx=y.Page.Tx->z.Page.Part≠y.Page.Part):HK (r++ [y]):=by
 obtain⟨b1,b2,b3,b4,b5,b6,b7⟩:=hb
 have all:∀{P:An->Prop},(∀z∈r,P z)->P y->∀z∈r++ [y],P z:=λh1 h2 z hz=>by grind
 refine⟨⟨by simp;omega,all h.pages.text b6,all h.pages.seq b2,all h.pages.tx b3,all h.pages.cnt b4,all h.pages.part b5⟩,?_,⟨λu hu v hv k1 k2 e1 e2=>?_⟩⟩
 ·rw[Ba];refine⟨h.inc,List.pairwise_singleton _ _,λu hu v hv=>?_⟩;rw[Cb]at hv;rw[hv];have:=(M9 r).1 u hu;omega
 rw[A7,Cb]at hu hv
 rcases hu with hu|rfl<;>rcases hv with hv|rfl
 ·exact h.mu.uniq u hu v hv k1 k2 e1 e2
 ·grind
 ·grind
 rfl
theorem XN (h:C9 r<=y.Page.Seq):C9 (r++ [y])=y.Page.Seq+1:=by rw[Uz,Cl h]
theorem HK.metas (h:HK r) (ht:∀y∈r,y.Page.Kind=2->y.Page.Tx<t):∀(m:List An) (k:Nat),r.length+m.length<=1000000->(∀(i:Nat) y,m[i]?=some y->y.Page.Kind=2/\y.Page.Tx=t/\y.Page.Part=i/\y.Page.Seq=C9 r+i/\Ik y.Page)->k<=m.length->HK (r++m.take k)/\C9 (r++m.take k)=C9 r+k
 |m,0,_,_,_=>by simpa using h
 |m,k+1,hl,hm,hk=>by
  obtain⟨ih1,ih2⟩:=HK.metas h ht m k hl hm (by omega);have hx:m[k]?=some m[k]:=Ab (by omega);obtain⟨k1,k2,k3,k4,k5⟩:=hm k _ hx;rw[Ag (by omega),<-BD];refine⟨HK.add ih1 (by simp;omega) k5 (by grind) λ_ z hz a b=>?_,?_⟩
  ·grind [A5]
  grind [XN]
theorem jX (i:Int):∀(k:Int) (l:List Leaf),(TC i k l).length<=l.length
 |_,[]=>A8 _
 |k,x::l=>by
  rw[TC,AC,AZ];have:=jX i (k+1) l
  grind [pg]
theorem jY:∀(i:Int) (l:List Block),(IP i l).length<=nl l
 |_,[]=>A8 _
 |i,b::l=>by
  rw[IP,AC];have:=jY (i+1) l
  grind [jX,nl]
theorem yO (hf:Bc f) (h:SR (IP 0 f.Blocks) r):r.length<=40:=by
 have h1:=jY 0 f.Blocks;have h2:=hf.few;have h3:=h.2.len;omega
theorem LG:∀{ss:List Bt} {ps:List Page} {i:Nat} {y:An},(BU ss ps)[i]?=some y->ps[i]?=some y.Page
 |[],_,i,y,h=>by simp[BU]at h
 |s::ss,[],i,y,h=>by simp[BU]at h
 |s::ss,p::ps,0,y,h=>by grind [BU]
 |s::ss,p::ps,i+1,y,h=>by grind [BU]
theorem Ws (h:ss.length=ps.length):(BU ss ps).length=ps.length:=by unfold BU;grind
theorem TL (ss:List Bt) (ps:List Page) (k:Nat):BU (ss.take k) (ps.take k)=(BU ss ps).take k:=by unfold BU;grind
theorem d9:∀(T:List ByteArray),(∀t∈T,(L t).length<=90)->(MD T).length<=90*T.length
 |[],_=>by simp[MD]
 |t::T,h=>by
  have:=d9 T λx hx=>h x<|by simp[hx]
  grind [MD]
theorem Yn {r1:List An} (h:HK r1) (hl:r1.length<=1000) {a:List CD} (c:1<=T.length) (d:T.length<=9) (e:∀t∈T,(L t).length<=90) (f:MD T=Ij a) (g:∀r∈a,Fw r=true) (hm:∀(i:Nat) y,m[i]?=some y->(BR (C9 r1) (Dm r1) T)[i]?=some y.Page) (j:m.length=T.length) (l:∀p∈BR (C9 r1) (Dm r1) T,Ik p) (k:Nat) (hk:k<=T.length):
  HK (r1++m.take k)/\(∀y∈m.take k,y.Page.Kind≠1)/\(k<T.length->AU (r1++m.take k)=AU r1)/\(k=T.length->∃q,AU (r1++m.take k)=AU r1++ [Tx.mk (Dm r1) q a]):=by
 have n:∀(i:Nat) y,m[i]?=some y->∃t,T[i]?=some t/\y.Page=Page.mk 2 (C9 r1+i) (Dm r1) i T.length t:=by grind [BR]
 have b:=YS r1;obtain⟨c1,_⟩:=HK.metas h b.1 m k (by omega) (λi y hy=>by grind) (by omega);have hN:YL (m.take k) (Dm r1) T.length T:=by
  refine⟨by grind,⟨c,d⟩,rfl,λi y hy=>?_⟩
  grind
 obtain⟨g1,g2⟩:=gZ r1 (λy hy=>(h.pages.tx y hy).1) b.1 b.2.1 hN;refine⟨c1,λy hy=>by rw[(hN.all hy).1];omega,λhh=>g1 (by grind),λhh=>g2 (by grind) a ?_⟩
 grind [fZ,d9]
structure LY (d:AG) (r:List An):Prop where
 dev:KC d r
 core:HK r
 data:Fu r (Dx (Bn d.Store))
theorem LY.few (h:LY d r):r.length<=40:=yO h.dev.fl h.dev.sr
theorem Kx (hg:Bc g) (a:SR (IP 0 g.Blocks) r):∃d,BQ g=some (d,true)/\KC d r/\d.Flash=g:=by
 obtain⟨d,r',h1,h2,h3⟩:=N6 hg;have:r'=r:=by
  have h4:=h2.sr;rw[h3]at h4;exact h4.uniq a
 grind
theorem QL (seq tx:Int) (T:List ByteArray):FQ seq (BR seq tx T):=by
 have a:∀(l:List ByteArray) (i:Nat) (n:Int),n<=seq+i->FQ n (l.mapIdx λj t=>Page.mk 2 (seq+(i+j:Nat)) tx (i+j:Nat) T.length t):=by
  intro l
  induction l with
  |nil=>intro i n _;trivial
  |cons x l ih=>
   intro i n hn;rw[List.mapIdx_cons];refine⟨by simpa using hn,?_⟩;have:=ih (i+1) (seq+(i:Int)+1)<|by omega
   grind
 have:=a T 0 seq<|by omega
 grind [BR]
theorem iB (c:Int) (a:ByteArray) (tx:Int) (T:List ByteArray):FQ d.Seq (Cv d c a++BR (Ht d a) tx T):=by
 unfold Cv Ht;by_cases e:L a=[]
 ·grind [QL]
 rw[BE e,BE e];exact⟨Jb _,QL _ _ _⟩
theorem Ko (ss:List Bt) (ps:List Page) (k:Nat):∀y∈(BU ss ps).take k,y.Page∈ps:=by
 intro y hy;obtain⟨i,hi,rfl⟩:=A5<|List.mem_of_mem_take hy;exact Ao<|LG<|Ab hi
def Hr (f:Flash) (n:Int):Prop:=∀b∈f.Blocks,b.Wear<=n
theorem YP {l:List Block} {n b:Int} (h:∀y∈l,y.Wear<=n) (hx:x.Wear<=n):∀y∈si l b x,y.Wear<=n:=by grind [si]
theorem XJ {s:Bt} {n m:Int} (h:Hr f n) (hm:n<=m) (hs:s.Kind=1\/n+1<=m):Hr (KD f s) m:=by
 have h0:∀y∈f.Blocks,y.Wear<=m:=λy hy=>by have:=h y hy;omega
 unfold KD LR OG Hr;by_cases e:s.Kind=1
 ·rw[Cl e]
  cases hg:gi f.Blocks s.Block with
  |none=>exact h0
  |some x=>exact YP h0<|h0 x<|Ao (Cu hg).2
 rw[BE e]
 cases hg:gi f.Blocks s.Block with
 |none=>exact h0
 |some x=>exact YP h0 (by have:=h x<|Ao (Cu hg).2;grind)
theorem Rr {n:Int}:∀{f:Flash} {ss:List Bt} {ps:List Page} {g:Flash},GZ f ss ps g->Hr f n->Hr g n
 |f,[],[],g,h,hw=>by rw[show g=f from h];exact hw
 |f,s::ss,p::ps,g,h,hw=>Rr h.2.2.2 (XJ hw (Jb _) (.inl h.1))
 |f,[],q::ps,g,h,_=>h.elim
 |f,s::ss,[],g,h,_=>h.elim
theorem Oy:∀{f:Flash} {ss:List Bt} {ps:List Page} {g:Flash},GZ f ss ps g->∀s∈ss,s.Kind=1
 |f,[],[],g,h,s,hs=>by cases hs
 |f,s::ss,p::ps,g,h,x,hs=>by
  rcases Iu.1 hs with rfl|hs
  ·exact h.1
  exact Oy h.2.2.2 x hs
 |f,[],q::ps,g,h,_,_=>h.elim
 |f,s::ss,[],g,h,_,_=>h.elim
def UY (f g:Flash):Prop:=∀n,Hr f n->Hr g n
theorem SB (h:LY d r) {l:List CD} (x:∀r∈l,Fw r=true) {a:ByteArray} {b:CD} {steps:List Bt} (z:1<=T.length) (h0:T.length<=9) (h1:MD T=Ij l) (v:∀t∈T,(L t).length<=90) (hp:GZ d.Flash steps (Cv d b.Chunk a++BR (Ht d a) d.Tx T) g) (o:∀p∈Cv d b.Chunk a++BR (Ht d a) d.Tx T,Ik p) (a6:L a≠ []->¬Dx (Bn d.Store) b.Chunk) (k:Nat) (hk:k<=steps.length):
  ∃m d' r',Steps d.Flash (steps.take k) m/\Bc m/\BQ m=some (d',true)/\KC d' r'/\d'.Flash=m/\r'=r++(BU steps (Cv d b.Chunk a++BR (Ht d a) d.Tx T)).take k/\UY d.Flash m/\HK r'/\Fu r' (Dx (Bn d.Store))/\
   (k<steps.length->AU r'=AU r)/\(k=steps.length->(∃q,AU r'=AU r++ [Tx.mk d.Tx q l])/\∀s,SC a=some s->L a≠ []->(∀c,Dx (Bn d.Store) c->BX r c≠some s)->Fu r' (λc=>Dx (Bn d.Store) c\/c=b.Chunk)):=by
 obtain⟨a7,f⟩:=EI hp;obtain⟨m,hm⟩:=Rs k hp;obtain⟨h2,_⟩:=EI hm;have h3:=UT h.dev.fl h2;have a5:=h.few
 have h4:∀y∈r,y.Page.Seq<d.Seq:=λy hy=>by rw[h.dev.seq];simp_all [M9]
 have h5:=iB (d:=d) b.Chunk a d.Tx T;have ascT:∀(ps:List Page) (n:Int) (k:Nat),FQ n ps->FQ n (ps.take k):=by
  intro ps
  induction ps with
  |nil=>grind
  |cons p ps ih=>
   intro n k ha
   cases k with
   |zero=>trivial
   |succ k=>exact⟨ha.1,ih _ k ha.2⟩
 have h6:=WL h.dev.fl h.dev.sr hm h4<|ascT _ _ k h5;rw[TL]at h6;obtain⟨d',u1,u2,u3⟩:=Kx h3 h6;refine⟨m,d',r++(BU steps<|Cv d b.Chunk a++BR (Ht d a) d.Tx T).take k,h2,h3,u1,u2,u3,rfl,λ_=>Rr hm,?_⟩;have w:(BR (Ht d a) d.Tx T).length=T.length:=by unfold BR;grind
 have u:=Ws f;by_cases e:L a=[]
 ·
  have e1:Cv d b.Chunk a=[]:=by grind [Cv]
  have e2:Ht d a=d.Seq:=by grind [Ht]
  rw[e1,e2,A0]at u f o⊢;rw[e2]at w;rw[h.dev.seq,h.dev.tx]at u f o w⊢;obtain⟨a1,a2,a3,a4⟩:=Yn h.core (by omega) z h0 v h1 x (m:=BU steps<|BR (C9 r) (Dm r) T) (λi y hy=>LG hy) (by omega) o k (by omega);exact⟨a1,h.data.metas a2,λhh=>a3 (by omega),λhh=>⟨a4 (by omega),λs _ h7=>absurd e h7⟩⟩
 have e1:Cv d b.Chunk a=[Page.mk 1 d.Seq b.Chunk 0 1 a]:=by grind [Cv]
 have e2:Ht d a=d.Seq+1:=by grind [Ht]
 rw[e1,e2]at u f o⊢;rw[e2]at w;rw[Iy]at u f o⊢;rw[AZ]at f u
 match hsteps:steps,f with
 |[],f=>simp at f
 |s0::ss,f=>
  have ef:BU (s0::ss) (Page.mk 1 d.Seq b.Chunk 0 1 a::BR (d.Seq+1) d.Tx T)=An.mk s0.Block s0.Leaf (Page.mk 1 d.Seq b.Chunk 0 1 a)::BU ss (BR (d.Seq+1) d.Tx T):=rfl;rw[ef]
  cases k with
  |zero=>
   rw[List.take_zero,AW];exact⟨h.core,h.data,λ_=>rfl,λhh=>by simp at hh⟩
  |succ k=>
   rw[List.take_succ_cons];generalize h8:An.mk s0.Block s0.Leaf (Page.mk 1 d.Seq b.Chunk 0 1 a)=y0;have j:y0.Page=Page.mk 1 d.Seq b.Chunk 0 1 a:=by rw[<-h8]
   have c1:HK (r++ [y0]):=HK.add h.core (by omega) (by grind) (by rw[j,h.dev.seq];exact Jb _) (λhh=>by grind);have g1:AU (r++ [y0])=AU r:=TK r (by rw[j];simp);have s1:C9 (r++ [y0])=d.Seq+1:=by rw[XN (by rw[j,h.dev.seq];exact Jb _),j]
   have t1:Dm (r++ [y0])=d.Tx:=by rw[Uw,BE (by rw[j];simp),h.dev.tx]
   have h9:(BU ss<|BR (d.Seq+1) d.Tx T).length=T.length:=by grind
   rw[List.append_cons];obtain⟨a1,a2,a3,a4⟩:=Yn c1 (by simp;omega) z h0 v h1 x (m:=BU ss<|BR (d.Seq+1) d.Tx T) (by grind [LG]) h9 (by grind) k (by omega);have dz:Fu (r++ [y0]) (Dx<|Bn d.Store):=e7 h.data (by grind);rw[g1,t1]at a4;rw[g1]at a3;have a8:ss.length=T.length:=by simp at f;omega
   refine⟨a1,dz.metas a2,λhh=>a3 (by simp at hh;omega),λhh=>⟨a4 (by simp at hh;omega),λs hs _ a0=>?_⟩⟩;have:=nL h.data (y:=y0) (s:=s) (by rw[j]) (by grind) (by grind) a0;rw[j]at this;exact this.metas a2
theorem rH (h:Cr s):iE s.Arena:=by unfold iE;have:=h.few;omega
theorem pR (h:Cr s) (x:Int):x∈ZC s s.Vols.length↔∃p∈Bn s,x∈p.2:=by
 unfold ZC Bn;simp only[List.mem_flatten,AA]
 have a:∀v∈s.Vols,(HM s.Arena v.Root).getD []=Ej s.Arena.Knots v.Root:=λv hv=>by
  rw[L4 _ (by have:=h.few;omega) h.ar<|h.root _<|AA.2 ⟨v,hv,rfl⟩];rfl
 grind
theorem N8 (h:Cr s):∃l,Kf s=some l/\asc l/\(∀x,x∈l↔Dx (Bn s) x)/\l.length<=16777216:=by
 have:=h.len;obtain⟨l,h1,h2,h3⟩:=cC s (by omega)<|rH h;refine⟨l,h1,h2.1,λx=>?_,h3⟩;rw[h2.2 x,pR h]
 grind [Dx]
theorem ZG (h:Cr s) (hc:Dx (Bn s) c):0<c/\c<s.Next:=by
 obtain⟨h0,p,hp,hx⟩:=hc;unfold Bn at hp;obtain⟨v,hv,rfl⟩:=AA.1 hp;exact⟨h0,h.lt _ (AA.2 ⟨v,hv,rfl⟩) c hx⟩
def Jd (r:List An) (a:List Int) (b:Int):List Bool:=a.foldl (kE r)<|r.map<|Gg b
theorem PY (r:List An) (a:List Int) (b:Int):(Jd r a b).length=r.length:=by unfold Jd;rw[dO,BG]
theorem Tc (r:List An) (a:List Int) (b:Int) (hy:r[j]?=some y):(Jd r a b)[j]?=some (Gg b y||a.any (λc=>bC c r r.length==some j)):=by grind [cW,Jd]
theorem sV (h:bC c r r.length=some j):IY r c=r[j]? :=by
 rw[VQ<|Ve c r r.length<|A8 _,h];rfl
theorem tY (h:IY r c=some y):∃j,bC c r r.length=some j/\r[j]?=some y:=by
 have:=VQ<|Ve c r r.length<|A8 _;rw[h]at this
 cases ht:bC c r r.length with
 |none=>grind
 |some j=>grind
theorem kX {p:Nat->Bool} (h:cn n p=0):∀j,j<n->p j=false:=by grind [Co,cn]
theorem tO {a:List Int} {d b:Int} (h:cn r.length (λj=>(Jd r a d)[j]?.getD false&&bk r b j)=0):∀y∈r,y.Block=b->(y.Page.Kind=2->y.Page.Tx<d)/\∀c∈a,IY r c≠some y:=by
 intro y hy hb;obtain⟨j,hj,rfl⟩:=A5 hy;have hx:=Ab hj;have h1:=kX h j hj;rw[Tc r a d hx]at h1;have h2:bk r b j=true:=by unfold bk;grind
 rw[h2,Bool.and_true,Ft,Bool.or_eq_false_iff]at h1;refine⟨λhk=>?_,λc hc hn=>?_⟩
 ·grind [Gg]
 
 obtain⟨i,i1,i2⟩:=tY hn
 grind [kX,Tc,bk]
theorem VC (h:KC d r):∃l,KS d=some l/\l.length<=10/\∀b∈l,∃x,gi d.Flash.Blocks b=some x/\x.Bad=false/\∀y∈r,y.Block=b->(y.Page.Kind=2->y.Page.Tx<d.Base)/\∀c,Dx (Bn d.Store) c->IY r c≠some y:=by
 obtain⟨a,l1,l2,l3,l4⟩:=N8 h.st;have hn:=h.fl.n;unfold KS;rw[h.scan.s,l1];simp only[Aa];rw[UF r a d.Base h.scan.len l4];have f:a.foldl (kE r) (r.map<|Gg d.Base)=Jd r a d.Base:=rfl;rw[f];obtain⟨b,q1,q2⟩:=AD (body:=λs:List Int×Int=>FV d r (Jd r a d.Base) s.1 s.2) (λ(o:List Int) i=>(o,i)) d.Flash.Blocks.length
  (λi o=>o.length<=i/\∀b∈o,∃x,gi d.Flash.Blocks b=some x/\x.Bad=false/\∀y∈r,y.Block=b->(y.Page.Kind=2->y.Page.Tx<d.Base)/\∀c,Dx (Bn d.Store) c->IY r c≠some y)
  (λo=>o.length<=10/\∀b∈o,∃x,gi d.Flash.Blocks b=some x/\x.Bad=false/\∀y∈r,y.Block=b->(y.Page.Kind=2->y.Page.Tx<d.Base)/\∀c,Dx (Bn d.Store) c->IY r c≠some y)
  (λo i hi ho=>by
   have hx:=Ab hi;have hP:=h.fl.blk _<|Ay hi;obtain⟨nbl,_,bl⟩:=rL d.Flash.Blocks[i] (by rw[hP.four];omega);simp only[FV,EM hi,Ar,hx,Aa];rw[bl,pJ r _ (i:Int) h.scan.len<|PY _ _ _,ad1];simp only[Aa];refine .inl ?_
   cases e:d.Flash.Blocks[i].Bad with
   |true=>grind
   |false=>
    simp only[DF,Ak]
    cases k:(!(!decide (nbl<ln d.Flash.Blocks[i].Leaves)))with
    |false=>grind
    |true=>
     cases hz:((((cn r.length (λj=>(Jd r a d.Base)[j]?.getD false&&bk r (i:Int) j):Nat)):Int)==0)with
     |false=>grind
     |true=>
      rw[BL (by simp;omega)];refine⟨_,rfl,by simp;omega,λb hb=>?_⟩;rw[A7,Cb]at hb
      rcases hb with hb|rfl
      ·exact ho.2 b hb
      refine⟨_,by grind [Ar],e,λy hy g=>?_⟩;have hz':cn r.length (λj=>(Jd r a d.Base)[j]?.getD false&&bk r (i:Int) j)=0:=by grind
      obtain⟨a1,a2⟩:=tO hz' y hy g
      grind)
  (λo ho=>⟨o,by simp[En,FV],by omega,ho.2⟩) (s:=[]) ⟨by simp,λb hb=>by cases hb⟩
 grind
theorem Gw (h:KC d r) (h':KC d' r') (e:Cw (AU r')=Cw (AU r)):Bn d'.Store=Bn d.Store/\d'.Store.Next=d.Store.Next/\d'.Base=d.Base:=by
 have h1:=h'.ab;rw[e,<-h.ab]at h1
 injection h1 with h1 h2
 exact⟨h1,h2,by rw[h'.base,h.base,e]⟩
theorem sP {b:Int} (h:LY d r) (hb:∀y∈r,y.Block=b->(y.Page.Kind=2->y.Page.Tx<d.Base)/\∀c,Dx (Bn d.Store) c->IY r c≠some y) (hg:Bc g) (hp:IP 0 g.Blocks=(IP 0 d.Flash.Blocks).filter λy=>y.Block !=b):
  ∃d',BQ g=some (d',true)/\d'.Flash=g/\LY d' (r.filter λy=>y.Block !=b)/\Bn d'.Store=Bn d.Store/\d'.Store.Next=d.Store.Next/\d'.Base=d.Base/\∀c,Dx (Bn d.Store) c->BX (r.filter λy=>y.Block !=b) c=BX r c:=by
 have a:SR (IP 0 g.Blocks) (r.filter λy=>y.Block !=b):=by rw[hp];exact h.dev.sr.filter _
 obtain⟨d',u1,u2,u3⟩:=Kx hg a
 have hs:=YW r h.core.pages h.core.mu (λy=>y.Block !=b) (λy hy hk ht=>by
  have:y.Block≠b:=λe=>by
   have:=(hb y hy e).1 hk;rw[h.dev.base]at this;omega
  simpa using this)
 obtain⟨e1,e2,e3⟩:=Gw h.dev u2 hs
 have ht:∀c,Dx (Bn d.Store) c->BX (r.filter λy=>y.Block !=b) c=BX r c:=λc hc=>by grind [cV,BX,IY]
 refine⟨d',u1,u3,⟨u2,h.core.filter _,?_⟩,e1,e2,e3,ht⟩;rw[e1];exact h.data.congr ht
end Go.TI
