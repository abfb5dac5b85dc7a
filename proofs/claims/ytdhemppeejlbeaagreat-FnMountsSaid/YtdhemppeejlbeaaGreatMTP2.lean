/- Devices come up for the program as they were. No condition; no program is in sight. -/
import Derived.Test.YtdhemppeejlbeaaGreatMTP1
set_option linter.unusedVariables false
set_option linter.unusedSimpArgs false
namespace Go.TI
open Go
def qZ (l:List Vol) (v:Vol):List Vol:=(l.filter λw=>decide (w.Id<v.Id))++ [v]++l.filter λw=>decide (w.Id>v.Id)
theorem o7 {l:List Vol} {v:Vol} (h:(l.map Vol.Id).Pairwise (·<·)) (hv:∀w∈l,w.Id≠v.Id) (hl:l.length<=3):Oc (M8 Bf) (l++ [v])=some (qZ l v):=by
 have hk:∀x,Bf x=x.Id:=λ_=>rfl
 obtain⟨r,h1,h2,h3⟩:=mM Bf (l++ [v]) (by simp;omega);have hs:Ri Bf (qZ l v):=by
  have:=Wf h v;rw [Jy]at this
  exact this.imp λhh=>by rw [hk,hk];omega
 have:r=qZ l v:=by
  refine Ob _ h2 hs λk=>?_
  rw [h3 k];unfold qZ;rw [AR,AR,AR,Ei,Ei]
  rcases Int.lt_trichotomy k v.Id with e|e|e
  ·have e1:[v].filter (λx=>Bf x==k)=[]:=by simp [hk];omega
   have e2:l.filter (λa=>(Bf a==k)&&decide (a.Id>v.Id))=[]:=by
    rw [B7];intro a _;simp [hk];omega
   have e3:l.filter (λa=>(Bf a==k)&&decide (a.Id<v.Id))=l.filter (λa=>Bf a==k):=by
    apply List.filter_congr;intro a _;rw [hk];by_cases q:a.Id=k
    ·rw [q];simp [e]
    simp [q]
   rw [e1,e2,e3];simp
  ·have e0:l.filter (λa=>Bf a==k)=[]:=by
    rw [B7];intro a ha;have:=hv a ha;simp [hk];omega
   have e2:l.filter (λa=>(Bf a==k)&&decide (a.Id>v.Id))=[]:=by
    rw [B7];intro a ha;have:=hv a ha;simp [hk];omega
   have e3:l.filter (λa=>(Bf a==k)&&decide (a.Id<v.Id))=[]:=by
    rw [B7];intro a ha;have:=hv a ha;simp [hk];omega
   rw [e0,e2,e3];simp
  have e1:[v].filter (λx=>Bf x==k)=[]:=by simp [hk];omega
  have e2:l.filter (λa=>(Bf a==k)&&decide (a.Id<v.Id))=[]:=by
   rw [B7];intro a _;simp [hk];omega
  have e3:l.filter (λa=>(Bf a==k)&&decide (a.Id>v.Id))=l.filter (λa=>Bf a==k):=by
   apply List.filter_congr;intro a _;rw [hk];by_cases q:a.Id=k
   ·rw [q];simp [e]
   simp [q]
  rw [e1,e2,e3];simp
 rw [h1,this]
variable {r r' m:List A4} {f:Flash} {t:Int} {y:A4} {α β:Type} {b:Block} {k n i:Nat} {s:Store} {p:Page} {d:Ba} {texts:List ByteArray} {x:Leaf} {l:List α}
theorem aP {r:Ds} {q:Int} (h:CV s) (hn:Eq s r.Vol=some (-1)) (hv:∀v∈s.Vols,v.Id≠r.Vol) (h3:s.Vols.length≠3) (hq:(bif(decide (r.Arg>0))then((Eq s r.Arg).bind λv1=>bif(decide (v1<0))then((DZ s).bind λv2=>some (.inr (v2,false)))else((gi s.Vols v1).bind λx1=>some (.inl x1.Root)))else(some (.inl (-1))):Option ((Int)⊕((Store×Bool))))=some (.inl q)):F9 s r=some (Store.mk (qZ s.Vols (Vol.mk r.Vol q)) s.Arena s.Next,true):=by
 have hl:=h.len;have c:=KI h.ar (by have:=h.few;omega);have a:=FC s c (by omega);unfold F9;rw [hq,hn];simp only [Aa,B6];rw [Ae (by omega:¬(-1:Int)>=0),Ac,BW,show((s.Vols.length:Int)==3)=false by simp;omega];simp only [Aa,Ac];rw [a];simp only [Aa];have k1:=QG (body:=λq:List Vol×Int=>GF s r q.1 q.2) s.Vols (λv=>decide (v.Id<r.Vol)) [] (by simp;omega)
  (λi v b hv ho=>by
   have hi:=(Ag.1 hv).1;simp only [GF,AG,Ad hi,Af,AB,hv,Aa];rw [ad1 (by omega)]
   cases decide (v.Id<r.Vol)with
   |true=>simp only [Af];rw [Ct (by simp;omega)];rfl
   |false=>rfl)
  (λb=>by simp only [GF,AG,Ap,Av,Ac])
 rw [A5]at k1;rw [k1];simp only [Aa];have d:=Y4 s.Vols r.Vol;rw [Ct (by simp;omega)];simp only [Aa];have k2:=QG (body:=λq:List Vol×Int=>GE s r q.1 q.2) s.Vols (λv=>decide (v.Id>r.Vol)) ((s.Vols.filter λv=>decide (v.Id<r.Vol))++ [Vol.mk r.Vol q]) (by simp;omega)
  (λi v b hv ho=>by
   have hi:=(Ag.1 hv).1;simp only [GE,AG,Ad hi,Af,AB,hv,Aa];rw [ad1 (by omega)]
   cases decide (v.Id>r.Vol)with
   |true=>simp only [Af];rw [Ct (by simp;omega)];rfl
   |false=>rfl)
  (λb=>by simp only [GE,AG,Ap,Av,Ac])
 rw [k2];rfl
theorem fA {r:Ds} (h:CV s) (hb:GR r=true) (hk:r.Kind=2):∃t ok,F9 s r=some (t,ok)/\Ey s r.Vol r.Arg=some (ok,t):=by
 have hl:=h.len;have c:=KI h.ar (by have:=h.few;omega);have a:=FC s c (by omega);have hr:=hb;unfold GR at hr;rw [hk]at hr;simp at hr
 have b:∀id,QH s id=Eq s id:=λ_=>rfl
 have root:(F9 s r=some (s,false)/\Ey s r.Vol r.Arg=some (false,s))\/∃q,(bif(decide (r.Arg>0))then((Eq s r.Arg).bind λv1=>bif(decide (v1<0))then((DZ s).bind λv2=>some (.inr (v2,false)))else((gi s.Vols v1).bind λx1=>some (.inl x1.Root)))else(some (.inl (-1))):Option ((Int)⊕((Store×Bool))))=some (.inl q)/\(bif(r.Arg !=0)then((Eq s r.Arg).bind λv1=>bif(decide (v1<0))then(some (.inr (false,s)))else((gi s.Vols v1).bind λx1=>some (.inl x1.Root)))else(some (.inl (-1))):Option ((Int)⊕((Bool×Store))))=some (.inl q):=by
  unfold F9 Ey;by_cases h0:0<r.Arg
  ·rw [Ad (by omega:r.Arg>0),show(r.Arg !=0)=true by simp;omega,b];simp only [Af]
   rcases FR s (by omega) r.Arg with⟨h1,h2⟩|⟨k,v,h1,h2,h3,_⟩
   ·left;rw [h1,a];exact⟨rfl,rfl⟩
   right;rw [h1];refine⟨v.Root,?_,?_⟩
   ·simp only [Aa];rw [Ae (by omega),Ac,AB,h2];rfl
   simp only [Aa];rw [Ae (by omega),Ac,AB,h2];rfl
  right;rw [Ae (by omega:¬r.Arg>0),show(r.Arg !=0)=false by simp;omega];exact⟨-1,rfl,rfl⟩
 rcases root with⟨g1,g2⟩|⟨q,g1,g2⟩
 ·exact⟨s,false,g1,g2⟩
 rcases FR s (by omega) r.Vol with⟨h1,h2⟩|⟨k,v,h1,h2,h3,_⟩
 ·by_cases h3:s.Vols.length=3
  ·refine⟨s,false,?_,?_⟩
   ·unfold F9;rw [g1,h1];simp only [Aa,B6];rw [Ae (by omega:¬(-1:Int)>=0),Ac,BW,h3];simp only [Aa];rw [a];rfl
   unfold Ey;rw [b,b,g2,h1];simp only [Aa,B6];rw [Ae (by omega:¬(-1:Int)>=0),Ac,BW,h3];rfl
  refine⟨_,true,aP h h1 h2 h3 g1,?_⟩;unfold Ey;rw [b,b,g2,h1];simp only [Aa,B6];rw [Ae (by omega:¬(-1:Int)>=0),Ac,BW,Ae (by omega:¬(s.Vols.length:Int)>=3)];simp only [Aa,Ac];rw [Ct (by simp;omega)];simp only [Aa];rw [o7 h.asc (v:=Vol.mk r.Vol q) h2 hl];rfl
 refine⟨s,false,?_,?_⟩
 ·unfold F9;rw [g1,h1];simp only [Aa,B6];rw [Ad (by omega:(k:Int)>=0),Af];simp only [Aa];rw [a];rfl
 unfold Ey;rw [b,b,g2,h1];simp only [Aa,B6];rw [Ad (by omega:(k:Int)>=0),Af];rfl
theorem jY (h:CV s) (r:Ds):VA s r=Q3 s r:=by
 have hl:=h.len;have f:=KI h.ar (by have:=h.few;omega);have b:=FC s f (by omega);have d:=PY s f (by omega)
 have j:∀id,QH s id=Eq s id:=λ_=>rfl
 have g:QJ r=some (GR r):=by
  obtain⟨v,a1,a2,_⟩:=fR r;rw [LO]at a1;rw [a2,<-a1]
 have a:=Xf h r;unfold VA;rw [d,UB h,g];simp only [Aa,Aj,Ac]
 cases hb:GR r with
 |false=>
  unfold K6 DY at a;rw [hb]at a;rw [a];simp only [AJ,Af,Aa]
 |true=>
  simp only [Aj,Ac];have hr:=hb;unfold GR at hr;unfold Q3 at a⊢;rw [P7 h,LO,hb]at a⊢;simp only [Aa,Aj,Ac]at a⊢;unfold Nm
  cases k1:(r.Kind==1)with
  |true=>
   have e1:r.Kind=1:=by simpa using k1
   rw [e1]at hr;simp at hr;simp only [Af,Aa,Aj,Ac];have hj:(bif(r.Arg==0)then(some 1)else(some r.Arg):Option (Int))=some (if 1>r.Arg then 1 else r.Arg):=by
    by_cases e:r.Arg=0
    ·rw [Aw (by omega),e];rfl
    rw [Ax (by omega),show(r.Arg==0)=false by simpa using e];rfl
   rw [hj];simp only [Aa];have hP:CV (Store.mk [] (Arena.mk []) (if 1>r.Arg then 1 else r.Arg)):=by
    refine⟨⟨by simp,rfl,?_,by simp,by simp,by simp [B9],by simp [B9],by simp⟩,by simp⟩;show 1<=(if 1>r.Arg then 1 else r.Arg)/\(if 1>r.Arg then 1 else r.Arg)<=1000000000;split<;>omega
   rw [Mx hP.toStoreR,VY hP];rfl
  |false=>
   simp only [Ac];rw [k1]at hr a;simp only [Ac]at a
   cases k2:(r.Kind==2)with
   |true=>
    rw [k2]at a;simp only [Af]at a⊢;obtain⟨t,ok,c1,c2⟩:=fA h hb (by simpa using k2);rw [c1]at a⊢;rw [c2];simp only [Aa]at a⊢;unfold K6 at a
    cases ok with
    |false=>
     split at a
     ·injection a with a
      injection a with a _
      simp only [AJ,Af];rw [a]
     obtain⟨t',q,_⟩:=a
     injection q with q
     injection q with _ q
     cases q
    |true=>
     split at a
     ·injection a with a
      injection a with _ q
      cases q
     obtain⟨t',q,hP,_⟩:=a
     injection q with q
     injection q with q _
     subst q;simp only [Aj,Ac];have l:Store.mk t.Vols (Arena.mk t.Arena.Knots) t.Next=t:=rfl;rw [l,Mx hP.toStoreR,VY hP];rfl
   |false=>
    simp only [Ac];rw [k2]at hr;rw [j]
    rcases FR s (by omega) r.Vol with⟨h1,h2⟩|⟨k,v,h1,h2,h3,_⟩
    ·rw [h1];simp only [Aa];rw [Ad (by omega:(-1:Int)<0),Af];simp only [Aa,Af,AJ];rw [b];rfl
    rw [h1];simp only [Aa];rw [Ae (by omega:¬(k:Int)<0),Ac];simp only [Aa];have hm:=A7 h2;have m:=(Ag.1 h2).1
    cases hc:(r.Chunk==1000000000)with
    |true=>
     simp only [Af,Aa,AJ];rw [b];rfl
    |false=>
     simp only [Ac];have n:r.Chunk≠1000000000:=by simpa using hc
     rw [b];simp only [Aa]
     cases k3:(r.Kind==3)with
     |true=>
      simp only [Af];rw [BW,ad1 (by omega)];have d1:dr s.Vols 0 (k:Int)=some (s.Vols.take k):=by
       unfold dr;rw [Aw ⟨by omega,by omega,by omega⟩];simp
      have d2:dr s.Vols ((k+1:Nat):Int) (s.Vols.length:Int)=some (s.Vols.drop (k+1)):=by
       unfold dr;rw [Aw ⟨by omega,by omega,by omega⟩,Bc,Bc,AO (by simp)]
      rw [d1,d2];simp only [Aa];rw [Ky (by simp;omega)];simp only [Aa];rw [Ct (by simp;omega),Rt h.asc h2,h3];simp only [Aa,Aj,Ac];have hR:=rM h r.Vol;rw [I6 hR,Mx hR]
     |false=>
      simp only [Ac];rw [k3]at hr;have ha:0<=r.Arg/\r.Arg<16/\0<=r.Chunk/\r.Chunk<=1000000000:=by
       cases k4:(r.Kind==4)with
       |true=>rw [k4]at hr;simp at hr;omega
       |false=>rw [k4]at hr;simp at hr;omega
      obtain⟨t,ht⟩:∃t:Nat,r.Arg=(t:Int):=⟨_,(Bp ha.1).symm⟩;have c:=h.root _ (AH.2 ⟨v,hm,rfl⟩);rw [AB,h2];simp only [Aa];rw [ht,Ws _ (by have:=h.few;omega) h.ar c (by omega) ha.2.2.1,iR _ (by have:=h.few;omega) h.ar c (by omega) ha.2.2.1];simp only [Aa,Aj,Ac];rw [E6,C6 (by omega) (by omega)];have hR:=vU h h2 (show t<16 by omega) ha.2.2.1 (show r.Chunk+1<=1000000000 by omega);by_cases i:r.Chunk>=s.Next
      ·rw [Ad i,Aw (by omega:r.Chunk+1>s.Next)];rw [show max s.Next (r.Chunk+1)=r.Chunk+1 by omega]at hR;simp only [Af];rw [I6 hR,Mx hR]
      rw [Ae i,Ax (by omega:¬r.Chunk+1>s.Next)];rw [show max s.Next (r.Chunk+1)=s.Next by omega]at hR;simp only [Ac];rw [I6 hR,Mx hR]
noncomputable def YJ (t:ByteArray):Option Page:=match EP t with
 |some (p,true)=>some p
 |_=>none
noncomputable def pg (i k:Int) (x:Leaf):List A4:=if x.Is=1 then(match YJ x.Text with
 |some p=>[A4.mk i k p]
 |none=>[])else []
noncomputable def U5 (i:Int):Int->List Leaf->List A4
 |_,[]=>[]
 |k,x::l=>pg i k x++U5 i (k+1) l
noncomputable def JH:Int->List Block->List A4
 |_,[]=>[]
 |i,b::l=>U5 i 0 b.Leaves++JH (i+1) l
theorem V0 (i:Int):∀(k:Int) (l m:List Leaf),U5 i k (l++m)=U5 i k l++U5 i (k+l.length) m
 |k,[],m=>by simp [U5]
 |k,x::l,m=>by
  rw [BF,U5,V0 i (k+1) l m,U5,Ao,A0];congr 3;omega
theorem QA:∀(i:Int) (l m:List Block),JH i (l++m)=JH i l++JH (i+l.length) m
 |i,[],m=>by simp [JH]
 |i,x::l,m=>by
  rw [BF,JH,QA (i+1) l m,JH,Ao,A0];congr 3;omega
theorem wZ {i k:Int} (h:y∈pg i k x):y.Block=i/\y.Leaf=k/\x.Is=1/\YJ x.Text=some y.Page:=by
 unfold pg at h;split at h
 ·split at h
  ·rename_i h1 _ p h2;rw [Ay]at h;subst h;exact⟨rfl,rfl,h1,h2⟩
  cases h
 cases h
theorem aF {i:Int}:∀{k:Int} {l:List Leaf} {y:A4},y∈U5 i k l->y.Block=i/\k<=y.Leaf/\y.Leaf<k+l.length
 |k,[],y,h=>by cases h
 |k,x::l,y,h=>by
  rw [U5,Ai]at h;rw [A0]
  rcases h with h|h
  ·obtain⟨h1,h2,_⟩:=wZ h;exact⟨h1,by omega,by omega⟩
  obtain⟨h1,h2,h3⟩:=aF h;exact⟨h1,by omega,by omega⟩
theorem aG:∀{i:Int} {l:List Block} {y:A4},y∈JH i l->i<=y.Block/\y.Block<i+l.length
 |i,[],y,h=>by cases h
 |i,x::l,y,h=>by
  rw [JH,Ai]at h;rw [A0]
  rcases h with h|h
  ·obtain⟨h1,_⟩:=aF h;exact⟨by omega,by omega⟩
  obtain⟨h1,h2⟩:=aG h;exact⟨by omega,by omega⟩
theorem IU {x:α} (h:l[k]?=some x):l=l.take k++x::l.drop (k+1)/\(l.take k).length=k:=by
 have hk:=(Ag.1 h).1;have h2:=Bi hk;rw [(Ag.1 h).2]at h2;exact⟨by rw [<-h2,Bw],by rw [AE];omega⟩
theorem WM {x y:α} (h:l[k]?=some x):l.set k y=l.take k++y::l.drop (k+1):=by
 have hk:=(Ag.1 h).1;exact List.set_eq_take_append_cons_drop.trans (Aw hk)
theorem hZ {l:List Block} (hb:l[i]?=some b) (hx:b.Leaves[k]?=some x):∃A B,JH 0 l=A++pg i k x++B/\∀bd w y,JH 0 (l.set i (Block.mk bd w (b.Leaves.set k y)))=A++pg i k y++B:=by
 obtain⟨h1,h2⟩:=IU hb;obtain⟨h3,h4⟩:=IU hx;refine⟨JH 0 (l.take i)++U5 i 0 (b.Leaves.take k),U5 i ((k:Int)+1) (b.Leaves.drop (k+1))++JH ((i:Int)+1) (l.drop (i+1)),?_,λbd w y=>?_⟩
 ·conv=>lhs;rw [h1]
  rw [QA,h2,JH,Vl]
  conv=>lhs;rw [h3]
  rw [V0,h4,U5,Vl];simp only [Ao]
 rw [WM hb,QA,h2,JH,Vl,WM hx,V0,h4,U5,Vl];simp only [Ao]
theorem dU {l:List Block} {b':Block} (hb:l[i]?=some b) (h0:U5 i 0 b'.Leaves=[]):JH 0 (l.set i b')=(JH 0 l).filter λy=>y.Block !=(i:Int):=by
 obtain⟨h1,h2⟩:=IU hb;rw [WM hb]
 conv=>rhs;rw [h1]
 rw [QA,QA,h2,JH,JH,Vl,h0,AR,AR];have e1:(JH 0 (l.take i)).filter (λy=>y.Block !=(i:Int))=JH 0 (l.take i):=by
  rw [Ga];intro y hy;have:=(aG hy).2;rw [h2]at this;simp;omega
 have e2:(U5 i 0 b.Leaves).filter (λy=>y.Block !=(i:Int))=[]:=by
  rw [B7];intro y hy;have:=(aF hy).1;simp [this]
 have e3:(JH ((i:Int)+1) (l.drop (i+1))).filter (λy=>y.Block !=(i:Int))=JH ((i:Int)+1) (l.drop (i+1)):=by
  rw [Ga];intro y hy;have:=(aG hy).1;simp;omega
 rw [e1,e2,e3]
def wA (x:Leaf):Prop:=(x.Is=0/\L x.Text=[])\/(x.Is=1/\1<=(L x.Text).length/\(L x.Text).length<=120)\/(x.Is=2/\(L x.Text).length<=120)
def oQ (l:List Leaf):Prop:=∀(k:Nat) x y,l[k]?=some x->l[k+1]?=some y->x.Is=0->y.Is=0
structure K0 (b:Block):Prop where
 four:b.Leaves.length=4
 wear:0<=b.Wear/\b.Wear<=1000000000
 leaf:∀x∈b.Leaves,wA x
 turn:oQ b.Leaves
structure Cg (f:Flash):Prop where
 n:3<=f.Blocks.length/\f.Blocks.length<=10
 blk:∀b∈f.Blocks,K0 b
theorem qR (x:Leaf):∃v,Qx x=some v/\(v=true↔wA x):=by
 unfold Qx wA;by_cases h0:x.Is=0
 ·rw [show(x.Is==0)=true by simpa using h0];refine⟨_,rfl,?_⟩;rw [Kc,A6];constructor
  ·intro h;exact .inl ⟨h0,by rw [h];rfl⟩
  rintro(h|h|h)
  ·exact I1 (by rw [h.2];rfl)
  ·omega
  omega
 rw [show(x.Is==0)=false by simpa using h0];simp only [Ac];by_cases h1:x.Is=1
 ·rw [show(x.Is==1)=true by simpa using h1,Ex,BM];refine⟨_,rfl,?_⟩;rw [A6];omega
 rw [show(x.Is==1)=false by simpa using h1];simp only [Ac];by_cases h2:x.Is=2
 ·rw [show(x.Is==2)=true by simpa using h2,BM];refine⟨_,rfl,?_⟩;rw [A6];omega
 rw [show(x.Is==2)=false by simpa using h2];exact⟨_,rfl,by simp only [BL,QR];omega⟩
theorem fZ (f:Flash) (h:bM f):∃v,Hh f=some v/\(v=true↔Cg f):=by
 unfold Hh;obtain⟨r,h1,h2⟩:=Bg (body:=λs:Int=>FG f s) (λ(_:Unit) i=>i) f.Blocks.length (λi _=>∀j b,j<i->f.Blocks[j]?=some b->K0 b) (λr=>(r= .inr false/\¬∀b∈f.Blocks,K0 b)\/r= .inl ()/\∀b∈f.Blocks,K0 b)
  (λ_ i hi hs=>by
   have hx:=Ab hi;have hm:f.Blocks[i]∈f.Blocks:=AC hi;have m:=h.2 _ hm;have o:=h.1;simp only [FG,AG,Ad hi,Af,AB,hx,Aa];by_cases h4:f.Blocks[i].Leaves.length=4
   ·rw [show(ln f.Blocks[i].Leaves !=4)=false by simp [ln,h4]];simp only [Ac];rw [Ex];simp only [Aa];by_cases hw:0<=f.Blocks[i].Wear/\f.Blocks[i].Wear<=1000000000
    ·rw [Ad hw];simp only [Aj,Ac];obtain⟨q,q1,q2⟩:=Bg (body:=λs:Int=>FE f.Blocks[i] s) (λ(_:Unit) i=>i) f.Blocks[i].Leaves.length
      (λk _=>(∀j x,j<k->f.Blocks[i].Leaves[j]?=some x->wA x)/\∀(j:Nat) x y,j+1<k->f.Blocks[i].Leaves[j]?=some x->f.Blocks[i].Leaves[j+1]?=some y->x.Is=0->y.Is=0)
      (λr=>(r= .inr (.inr (.inr false))/\¬((∀x∈f.Blocks[i].Leaves,wA x)/\oQ f.Blocks[i].Leaves))\/r= .inl ()/\(∀x∈f.Blocks[i].Leaves,wA x)/\oQ f.Blocks[i].Leaves)
      (λ_ k hk d=>by
       have g:=Ab hk;simp only [FE,AG,Ad hk,Af,AB,g,Aa];obtain⟨v,v1,v2⟩:=qR f.Blocks[i].Leaves[k];rw [v1];simp only [Aa]
       cases hv:v with
       |false=>
        refine .inr ⟨_,rfl,.inl ⟨rfl,λhh=>?_⟩⟩;have:=v2.2 (hh.1 _ (AC hk));rw [hv]at this;cases this
       |true=>
        have l:=v2.1 hv;simp only [Aj,Ac];by_cases p:k=0
        ·rw [Ae (by omega)];simp only [Ac,Aa];rw [ad1 (by omega)];refine .inl ⟨(),rfl,λj x hj a=>?_,λj x y hj=>by omega⟩;obtain rfl:j=k:=by omega
         rw [g]at a
         injection a with a
         rw [<-a];exact l
        rw [Ad (by omega)];simp only [Af];rw [C4 (by omega) (by omega),show(k:Int)-1=((k-1:Nat):Int) by omega,AB,Ab (by omega)];simp only [Aa];have good:(f.Blocks[i].Leaves[k-1].Is=0->f.Blocks[i].Leaves[k].Is=0)->(∀j x,j<k+1->f.Blocks[i].Leaves[j]?=some x->wA x)/\∀(j:Nat) x y,j+1<k+1->f.Blocks[i].Leaves[j]?=some x->f.Blocks[i].Leaves[j+1]?=some y->x.Is=0->y.Is=0:=by
         intro hg;refine⟨λj x hj a=>?_,λj x y hj a c h0=>?_⟩
         ·by_cases e:j=k
          ·subst e;rw [g]at a
           injection a with a
           rw [<-a];exact l
          exact d.1 j x (by omega) a
         by_cases e:j+1=k
         ·obtain rfl:j=k-1:=by omega
          rw [Ab (by omega)]at a
          injection a with a
          rw [show k-1+1=k by omega,g]at c
          injection c with c
          rw [<-c];exact hg (by rw [a];exact h0)
         exact d.2 j x y (by omega) a c h0
        cases e0:(f.Blocks[i].Leaves[k-1].Is==0)with
        |false=>
         simp only [Ac,Aa];rw [ad1 (by omega)];exact .inl ⟨(),rfl,good (λhh=>by rw [hh]at e0;cases e0)⟩
        |true=>
         simp only [Af,Aa]
         cases e1:(f.Blocks[i].Leaves[k].Is !=0)with
         |false=>
          simp only [Ac];rw [ad1 (by omega)];exact .inl ⟨(),rfl,good (λ_=>by simpa using e1)⟩
         |true=>
          refine .inr ⟨_,rfl,.inl ⟨rfl,λhh=>?_⟩⟩;have:=hh.2 (k-1) _ _ (Ab (by omega)) (by rw [show k-1+1=k by omega];exact g) (by simpa using e0)
          simp [this]at e1)
      (λ_ d=>⟨_,by simp only [FE,AG,Ap,Av,Ac],.inr ⟨rfl,λx a=>by
       obtain⟨j,hj,rfl⟩:=AF a
       exact d.1 j _ hj (Ab hj),λj x y a c=>d.2 j x y (Ag.1 c).1 a c⟩⟩) (s:=()) ⟨λj x hj=>by omega,λj x y hj=>by omega⟩
     have q1':Au (λs:Int=>FE f.Blocks[i] s) 0=some q:=q1;rw [q1']
     rcases q2 with⟨rfl,q2⟩|⟨rfl,q2,q3⟩
     ·exact .inr ⟨_,rfl,.inl ⟨rfl,λhh=>q2 ⟨(hh _ hm).leaf,(hh _ hm).turn⟩⟩⟩
     simp only [Aa,B6];rw [ad1 (by omega)];refine .inl ⟨(),rfl,λj b hj hb=>?_⟩;by_cases e:j=i
     ·subst e;rw [hx]at hb
      injection hb with hb
      rw [<-hb];exact⟨h4,hw,q2,q3⟩
     exact hs j b (by omega) hb
    rw [Ae hw];exact .inr ⟨_,rfl,.inl ⟨rfl,λhh=>hw (hh _ hm).wear⟩⟩
   rw [show(ln f.Blocks[i].Leaves !=4)=true by simp [ln];omega]
   exact .inr ⟨_,rfl,.inl ⟨rfl,λhh=>h4 (hh _ hm).four⟩⟩)
  (λ_ hs=>⟨_,by simp only [FG,AG,Ap,Av,Ac],.inr ⟨rfl,λb hb=>by
   obtain⟨j,hj,rfl⟩:=AF hb
   exact hs j _ hj (Ab hj)⟩⟩) (s:=()) (λj b hj=>by omega)
 have h1':Au (λs:Int=>FG f s) 0=some r:=h1;rw [h1']
 rcases h2 with⟨rfl,h2⟩|⟨rfl,h2⟩
 ·exact⟨_,rfl,by simp only [BL,QR];exact λhh=>h2 hh.blk⟩
 simp only [Aa,B6];rw [Ex,BW];refine⟨_,rfl,?_⟩;rw [A6];constructor
 ·intro hh;exact⟨by omega,h2⟩
 intro hh;have:=hh.n;omega
theorem Cg.cap (h:Cg f):bM f:=⟨by have:=h.n;omega,λb hb=>by rw [(h.blk b hb).four];omega⟩
theorem Cg.text (h:Cg f):∀b∈f.Blocks,∀x∈b.Leaves,(L x.Text).length<=120:=λb hb x hx=>by
 rcases(h.blk b hb).leaf x hx with h|h|h
 ·rw [h.2];simp
 ·exact h.2.2
 exact h.2
theorem NR (h:Cg f):Hh f=some true:=by
 obtain⟨v,h1,h2⟩:=fZ f h.cap;rw [h1,h2.2 h]
theorem Cg.few (h:Cg f):nl f.Blocks<=40:=by
 have:∀l:List Block,(∀b∈l,K0 b)->nl l=4*l.length:=by
  intro l
  induction l with
  |nil=>intro _;rfl
  |cons b l ih=>
   intro hh;have h1:=ih (λx hx=>hh x (by simp [hx]));have h2:=(hh b (by simp)).four;unfold Go.TI.nl at h1⊢;rw [BZ,NT,A0,h1,h2];omega
 rw [this _ h.blk];have:=h.n;omega
def Vb (y:A4):Int:=y.Page.Seq
def SR (l r:List A4):Prop:=Ri Vb r/\Cj Vb l r
theorem SR.uniq {l:List A4} (h:SR l r) (h':SR l r'):r=r':=Ob Vb h.1 h'.1 (λk=>by rw [h.2 k,<-h'.2 k])
theorem SR.mem {l:List A4} (h:SR l r):y∈r↔y∈l:=h.2.mem
theorem SR.filter {l:List A4} (h:SR l r) (p:A4->Bool):SR (l.filter p) (r.filter p):=by
 refine⟨h.1.filter _,λk=>?_⟩;have:=h.2 k;rw [Ei,Ei]
 have e:∀m:List A4,m.filter (λx=>(Vb x==k)&&p x)=(m.filter λx=>Vb x==k).filter p:=λm=>by
  rw [Ei];congr 1;funext x;exact Bool.and_comm _ _
 rw [e,e,this]
theorem SR.add {A B r:List A4} (h:SR (A++B) r) (hy:∀x∈r,Vb x<Vb y):SR (A++ [y]++B) (r++ [y]):=by
 refine⟨?_,λk=>?_⟩
 ·unfold Ri;rw [Bx];refine⟨h.1,LT _ _,λx hx z hz=>?_⟩;rw [Ay]at hz;subst hz;have:=hy x hx;omega
 have h2:=h.2 k;rw [AR]at h2;rw [AR,AR,AR];by_cases e:Vb y=k
 ·have e1:∀x∈A++B,¬(Vb x==k)=true:=λx hx=>by
   have:=hy x (h.mem.2 hx);simp;omega
  have a0:A.filter (λx=>Vb x==k)=[]:=B7.2 λx hx=>e1 x (by simp [hx])
  have b0:B.filter (λx=>Vb x==k)=[]:=B7.2 λx hx=>e1 x (by simp [hx])
  rw [a0,b0]at h2⊢;rw [h2];simp
 have:[y].filter (λx=>Vb x==k)=[]:=Cl (by simpa using e);rw [this,Az,Az];exact h2
theorem dS {t:ByteArray} (h:EP t=some (p,true)):YJ t=some p:=by unfold YJ;rw [h]
theorem n8 (h:Cg f):Au (λs:List A4×Int=>Es f s.1 s.2) ([],0)=some (JH 0 f.Blocks):=by
 have hn:=h.n;obtain⟨X,h1,h2⟩:=Bg (body:=λs:List A4×Int=>Es f s.1 s.2) (λs i=>(s,i)) f.Blocks.length (λi o=>o=JH 0 (f.Blocks.take i)/\o.length<=4*i) (λb=>b=JH 0 f.Blocks)
  (λa i hi hs=>by
   obtain⟨ho,m⟩:=hs;have hb:f.Blocks[i]?=some f.Blocks[i]:=Ab hi;have hm:f.Blocks[i]∈f.Blocks:=AC _;have h4:=(h.blk _ hm).four;refine .inl ?_;simp only [Es,AG,Ad hi,Af];obtain⟨u,q1,q2,q3⟩:=Bg (body:=λs:List A4×Int=>EG f (i:Int) s.1 s.2) (λs i=>(s,i)) f.Blocks[i].Leaves.length (λk u=>u=a++U5 i 0 (f.Blocks[i].Leaves.take k)/\u.length<=a.length+k) (λu=>u=a++U5 i 0 f.Blocks[i].Leaves/\u.length<=a.length+4)
    (λu k hk hu=>by
     obtain⟨g,q⟩:=hu;have hx:f.Blocks[i].Leaves[k]?=some f.Blocks[i].Leaves[k]:=Ab hk;have j:f.Blocks[i].Leaves[k]∈f.Blocks[i].Leaves:=AC _
     have l:∀y:A4,ap 72 u [y]=some (u++ [y]):=λy=>Ct (by simp only [An];omega)
     have c:∀z,U5 i 0 (f.Blocks[i].Leaves.take (k+1))=U5 i 0 (f.Blocks[i].Leaves.take k)++z↔pg i k f.Blocks[i].Leaves[k]=z:=by
      intro z;rw [DR,hx,V0];simp only [Option.toList,U5,Az,AE];rw [show(0:Int)+((min k f.Blocks[i].Leaves.length:Nat):Int)=(k:Int) by omega];exact⟨λe=>List.append_cancel_left e,λe=>by rw [e]⟩
     refine .inl ?_;obtain⟨p,ok,r1,r2,r3,r4⟩:=Jv f.Blocks[i].Leaves[k].Text (by have:=h.text _ hm _ j;omega);simp only [EG,AG,Ad hk,Af,AB,hb,Aa,UR f h.cap hb hx,l]
     cases d:f.Blocks[i].Leaves[k].Is==1 with
     |false=>
      obtain⟨p',ok',t1,_⟩:=Jv (bs []) (by rw [El];simp);simp only [Ac,Aa,t1];refine⟨u,by rw [ad1 (by omega)],?_,by omega⟩;rw [g,(c []).2 (by unfold pg;rw [Ax (by simpa using d)]),Az]
     |true=>
      simp only [Af,Aa,r1]
      cases ok with
      |false=>
       refine⟨u,by simp only [Ac];rw [ad1 (by omega)],?_,by omega⟩;rw [g,(c []).2 (by unfold pg YJ;rw [Aw (by simpa using d),r1]),Az]
      |true=>
       refine⟨u++ [A4.mk i k p],by simp only [Af];rw [ad1 (by omega)],?_,by simp only [Ah,An];omega⟩
       rw [g,(c [A4.mk i k p]).2 (by unfold pg;rw [Aw (by simpa using d),dS r1]),Ao])
    (λu hu=>⟨u,by simp only [EG,AB,hb,Aa,AG,Ap,Av,Ac],by rw [hu.1,AO (A3 _)],by omega⟩) (s:=a) ⟨by simp [U5],by omega⟩
   have q1':Au (λs:List A4×Int=>EG f (i:Int) s.1 s.2) (a,0)=some u:=q1;rw [q1'];simp only [Aa];rw [ad1 (by omega)];refine⟨u,rfl,?_,by omega⟩;rw [q2,ho,DR,hb,QA];simp only [Option.toList,JH,Az,AE]
   rw [show(0:Int)+((min i f.Blocks.length:Nat):Int)=(i:Int) by omega])
  (λa hs=>⟨a,by simp only [Es,AG,Ap,Av,Ac],by rw [hs.1,AO (A3 _)]⟩) (s:=[]) ⟨by simp [JH],by simp⟩
 rw [h2]at h1;exact h1
theorem sG (h:Cg f):∃r,vG f r/\SR (JH 0 f.Blocks) r:=by
 have hT:∀b∈f.Blocks,∀x∈b.Leaves,(L x.Text).length<=1048576:=λb hb x hx=>by have:=h.text b hb x hx;omega
 have hn:=h.few;obtain⟨r,h1,h2,h3,h4,h5⟩:=jP f h.cap hT (by omega);refine⟨r,⟨h1,h2,by omega,h4,λy hy=>pW hT (h4 y hy),h5⟩,h5,?_⟩;obtain⟨X,c1,_,c3,_⟩:=RO f h.cap hT (by omega);have hX:X=JH 0 f.Blocks:=by
  rw [n8 h]at c1
  injection c1 with c1
  exact c1.symm
 obtain⟨r',s1,s2,s3⟩:=Y2 BQ X (by omega);have:Jq f=some r':=by
  unfold Jq;obtain⟨X',c1',c2',_⟩:=RO f h.cap hT (by omega);rw [c1]at c1'
  injection c1' with c1'
  rw [c2',<-c1',Aa,s1];rfl
 rw [h2]at this
 injection this with this
 rw [this,<-hX];exact s3
def Lp (l:List Leaf):Nat:=(l.takeWhile λx=>x.Is !=0).length
theorem iG (l:List Leaf):Lp l<=l.length:=by
 unfold Lp;have:=(List.takeWhile_sublist (λx:Leaf=>x.Is !=0) (l:=l)).length_le;exact this
theorem N9:∀(l:List Leaf),(∀(k:Nat) x,k<Lp l->l[k]?=some x->x.Is≠0)/\(∀x,l[Lp l]?=some x->x.Is=0)
 |[]=>⟨λk x h=>by simp [Lp]at h,λx h=>by simp [Lp]at h⟩
 |y::l=>by
  obtain⟨h1,h2⟩:=N9 l;by_cases e:y.Is=0
  ·have:Lp (y::l)=0:=by unfold Lp;rw [List.takeWhile_cons_of_neg (by simp [e])];rfl
   rw [this];refine⟨λk x hk=>by omega,λx hx=>?_⟩;simp only [CE,Al]at hx;rw [<-hx];exact e
  have:Lp (y::l)=Lp l+1:=by unfold Lp;rw [List.takeWhile_cons_of_pos (by simpa using e)];rfl
  rw [this];refine⟨λk x hk hx=>?_,λx hx=>?_⟩
  ·cases k with
   |zero=>
    simp only [CE,Al]at hx;rw [<-hx];exact e
   |succ k=>exact h1 k x (by omega) (by simpa using hx)
  exact h2 x (by simpa using hx)
theorem Mk (b:Block) (h:b.Leaves.length=4):Ji b=some (Lp b.Leaves:Int):=by
 unfold Ji;obtain⟨h1,h2⟩:=N9 b.Leaves;have a:=iG b.Leaves;obtain⟨r,q1,q2⟩:=Bg (body:=λs:Int=>Gq b s) (λ(_:Unit) i=>i) b.Leaves.length (λi _=>i<=Lp b.Leaves) (λr=>(r= .inr (Lp b.Leaves:Int))\/r= .inl ()/\Lp b.Leaves=4)
  (λ_ i hi hs=>by
   have hx:=Ab hi;simp only [Gq,AG,Ad hi,Af,AB,hx,Aa];by_cases e:i=Lp b.Leaves
   ·have:=h2 b.Leaves[i] (by rw [<-e];exact hx);rw [show(b.Leaves[i].Is==0)=true by simpa using this];exact .inr ⟨_,rfl,.inl (by rw [e])⟩
   have:=h1 i b.Leaves[i] (by omega) hx;rw [show(b.Leaves[i].Is==0)=false by simpa using this,Ac,ad1 (by omega)]
   exact .inl ⟨(),rfl,by omega⟩)
  (λ_ hs=>⟨_,by simp only [Gq,AG,Ap,Av,Ac],.inr ⟨rfl,by omega⟩⟩) (s:=()) (by omega)
 have q1':Au (λs:Int=>Gq b s) 0=some r:=q1;rw [q1']
 rcases q2 with rfl|⟨rfl,q2⟩
 ·rfl
 rw [q2];rfl
theorem K0.blank (h:K0 b) (hk:Lp b.Leaves<=k) (hx:b.Leaves[k]?=some x):x.Is=0:=by
 induction k generalizing x with
 |zero=>
  have:Lp b.Leaves=0:=by omega
  exact(N9 b.Leaves).2 x (by rw [this];exact hx)
 |succ k ih=>
  by_cases e:Lp b.Leaves=k+1
  ·exact(N9 b.Leaves).2 x (by rw [e];exact hx)
  have a:=(Ag.1 hx).1;have hy:b.Leaves[k]?=some b.Leaves[k]:=Ab (by omega);exact h.turn k _ x hy hx (ih (by omega) hy)
theorem WN {y:Leaf} (h:K0 b) (hk:k=Lp b.Leaves) (h4:k<4) (hy:wA y) (a:y.Is≠0):K0 (Block.mk b.Bad b.Wear (b.Leaves.set k y)):=by
 refine⟨by simpa using h.four,h.wear,λx hx=>?_,?_⟩
 ·rcases CK hx with hx|rfl
  ·exact h.leaf x hx
  exact hy
 intro j x z hx hz h0;have hx':(b.Leaves.set k y)[j]?=some x:=hx;have hz':(b.Leaves.set k y)[j+1]?=some z:=hz;rw [Ci]at hx' hz';by_cases e:k=j
 ·subst e;rw [Aw rfl,Aw (by rw [h.four];exact h4)]at hx'
  injection hx' with hx'
  rw [<-hx']at h0;exact absurd h0 a
 rw [Ax e]at hx';by_cases e2:k=j+1
 ·have:=(N9 b.Leaves).1 j x (by omega) hx';exact absurd h0 this
 rw [Ax e2]at hz';exact h.turn j x z hx' hz' h0
theorem Qg (h:Cg f) (hb:K0 b):Cg (Flash.mk (f.Blocks.set i b)):=by
 refine⟨by have:=h.n;simpa using this,λx hx=>?_⟩
 rcases CK hx with hx|rfl
 ·exact h.blk x hx
 exact hb
def eB (f:Flash) (b l:Int) (t:ByteArray):Prop:=∃x,gi f.Blocks b=some x/\x.Bad=false/\l=(Lp x.Leaves:Int)/\Lp x.Leaves<4/\1<=(L t).length/\(L t).length<=120
def prog (f:Flash) (b l:Int) (y:Leaf):Flash:=Flash.mk (match gi f.Blocks b with
 |some x=>si f.Blocks b (Block.mk x.Bad x.Wear (si x.Leaves l y))
 |none=>f.Blocks)
theorem dF (h:Cg f) (b l:Int) (t:ByteArray):(eB f b l t/\N0 f b l t=some (prog f b l (Leaf.mk 1 t),true))\/(¬eB f b l t/\N0 f b l t=some (f,false)):=by
 have hn:=h.n;unfold N0 Wl;rw [FL f h.cap,NR h];simp only [Aa,Aj,Ac];rw [BW,C4 (by omega) (by omega),Ex];simp only [Aa];by_cases hb:0<=b/\b<=(f.Blocks.length:Int)-1
 ·rw [Ad hb];simp only [Af];have hg:=Qd (l:=f.Blocks) hb.1 (by omega);have hm:f.Blocks[b.toNat]'(by omega)∈f.Blocks:=AC _;generalize d:f.Blocks[b.toNat]'(by omega)=x at hg hm;have hP:=h.blk x hm;rw [hg];simp only [Aa]
  cases a:x.Bad with
  |true=>
   refine .inr ⟨?_,rfl⟩;rintro⟨z,hz,h2,_⟩;rw [hg]at hz
   injection hz with hz
   rw [<-hz,a]at h2;cases h2
  |false=>
   simp only [AJ,Af];by_cases c:l<4
   ·rw [Ad c];simp only [Af];rw [Mk x hP.four];simp only [Aa];by_cases hl:l=(Lp x.Leaves:Int)
    ·rw [show(l==(Lp x.Leaves:Int))=true by simpa using hl];simp only [Af];rw [BM,Ex];simp only [Aa];by_cases ht:1<=(L t).length/\(L t).length<=120
     ·rw [Ad (by omega:1<=((L t).length:Int)/\((L t).length:Int)<=120)];simp only [Aj,Ac,Aa];refine .inl ⟨⟨x,hg,a,hl,by omega,ht⟩,?_⟩;rw [Qd (l:=x.Leaves) (i:=l) (by omega) (by rw [hP.four];omega)];simp only [Aa];unfold prog;rw [hg];simp only [a]
     rw [Ae (by omega:¬(1<=((L t).length:Int)/\((L t).length:Int)<=120))];refine .inr ⟨?_,rfl⟩;rintro⟨z,hz,_,_,_,h5⟩;exact ht h5
    rw [show(l==(Lp x.Leaves:Int))=false by simpa using hl];refine .inr ⟨?_,rfl⟩;rintro⟨z,hz,_,h3,_⟩;rw [hg]at hz
    injection hz with hz
    rw [<-hz]at h3;exact hl h3
   rw [Ae c];refine .inr ⟨?_,rfl⟩;rintro⟨z,hz,_,h3,h4,_⟩;omega
 rw [Ae hb];refine .inr ⟨?_,rfl⟩;rintro⟨z,hz,_⟩;obtain⟨k1,k2⟩:=DK hz;have:=(Ag.1 k2).1;omega
theorem R9 {b l:Int} {t:ByteArray} (h:Cg f) (hm:eB f b l t):Cg (prog f b l (Leaf.mk 1 t))/\Cg (prog f b l (Leaf.mk 2 t))/\∃A B,JH 0 f.Blocks=A++B/\(∀p,YJ t=some p->JH 0 (prog f b l (Leaf.mk 1 t)).Blocks=A++ [A4.mk b l p]++B)/\(∀u,JH 0 (prog f b l (Leaf.mk 2 u)).Blocks=A++B):=by
 obtain⟨x,h1,h2,rfl,h4,h5⟩:=hm;obtain⟨k1,k2⟩:=DK h1;obtain⟨c,rfl⟩:∃c:Nat,b=(c:Int):=⟨_,(Bp k1).symm⟩;rw [Bc]at k2;have hP:=h.blk x (A7 k2);have hx:x.Leaves[Lp x.Leaves]?=some (x.Leaves[Lp x.Leaves]'(by rw [hP.four];exact h4)):=Ab _;have d:=hP.blank (A3 _) hx
 have a:∀y,prog f (c:Int) (Lp x.Leaves:Int) y=Flash.mk (f.Blocks.set c (Block.mk x.Bad x.Wear (x.Leaves.set (Lp x.Leaves) y))):=λy=>by
  unfold prog;rw [h1];simp only [E6]
 rw [a,a];refine⟨Qg h (WN hP rfl h4 (.inr (.inl ⟨rfl,h5.1,h5.2⟩)) (by simp)),Qg h (WN hP rfl h4 (.inr (.inr ⟨rfl,h5.2⟩)) (by simp)),?_⟩;obtain⟨A,B,e1,e2⟩:=hZ k2 hx;have z:pg (c:Int) (Lp x.Leaves:Int) (x.Leaves[Lp x.Leaves]'(by rw [hP.four];exact h4))=[]:=by unfold pg;rw [Ax (by rw [d];omega)]
 rw [z,Az]at e1;refine⟨A,B,e1,λp hp=>?_,λu=>?_⟩
 ·rw [e2];congr 2;unfold pg;rw [Aw rfl,hp]
 rw [a,e2];have:pg (c:Int) (Lp x.Leaves:Int) (Leaf.mk 2 u)=[]:=by unfold pg;rw [Ax (by simp)]
 rw [this,Az]
theorem qK {l:List Leaf} (h:∀x∈l,x.Is=0):nb l=l.length:=by
 induction l with
 |nil=>rfl
 |cons x l ih=>
  have h1:=ih (λy hy=>h y (by simp [hy]));unfold nb at h1⊢;rw [BZ,NT,h1,V6,Aw (by simpa using h x (by simp)),A0];omega
theorem uH {l:List Leaf} (h:∀x∈l,x.Is≠0):nb l=0:=by
 induction l with
 |nil=>rfl
 |cons x l ih=>
  have h1:=ih (λy hy=>h y (by simp [hy]));unfold nb at h1⊢;rw [BZ,NT,h1,V6,Ax (by simpa using h x (by simp))]
theorem xK (l m:List Leaf):nb (l++m)=nb l+nb m:=by unfold nb;rw [Cq,List.sum_append]
theorem K0.nb (h:K0 b):nb b.Leaves=4-Lp b.Leaves:=by
 have a:=iG b.Leaves;have h4:=h.four;have e:Go.TI.nb b.Leaves=Go.TI.nb (b.Leaves.take (Lp b.Leaves))+Go.TI.nb (b.Leaves.drop (Lp b.Leaves)):=by rw [<-xK,Bw]
 rw [e,uH (l:=b.Leaves.take (Lp b.Leaves)),qK (l:=b.Leaves.drop (Lp b.Leaves)),B5,h4]
 ·omega
 ·intro x hx;obtain⟨k,hk,rfl⟩:=AF hx;rw [B5]at hk;rw [RZ];exact h.blank (k:=Lp b.Leaves+k) (by omega) (Ab _)
 intro x hx;obtain⟨k,hk,rfl⟩:=AF hx;rw [AE]at hk;rw [Jz];exact(N9 b.Leaves).1 k _ (by omega) (Ab _)
def RB (f:Flash) (b l:Int):Prop:=∃x,gi f.Blocks b=some x/\x.Bad=false/\l=(Lp x.Leaves:Int)/\Lp x.Leaves<4
theorem XM (h:Cg f):∃v:Int,MK f=some v/\((v= -1/\∀b∈f.Blocks,b.Bad=false->Lp b.Leaves=0\/Lp b.Leaves=4)\/∃x,gi f.Blocks v=some x/\x.Bad=false/\Lp x.Leaves<4):=by
 unfold MK;have hn:=h.n;obtain⟨b,h1,h3⟩:=Bg (body:=λs:Int=>Gp f s) (λ(_:Unit) i=>i) f.Blocks.length (λi _=>∀(j:Nat) b,j<i->f.Blocks[j]?=some b->b.Bad=false->Lp b.Leaves=0\/Lp b.Leaves=4) (λb=>(b= .inl ()/\∀b∈f.Blocks,b.Bad=false->Lp b.Leaves=0\/Lp b.Leaves=4)\/∃i:Nat,∃x,b= .inr (i:Int)/\f.Blocks[i]?=some x/\x.Bad=false/\Lp x.Leaves<4)
  (λ_ i hi hs=>by
   have hg:f.Blocks[i]?=some f.Blocks[i]:=Ab hi;have hP:=h.blk _ (AC hi);have c:=hP.nb;have h4:=hP.four;have d:=iG f.Blocks[i].Leaves;simp only [Gp,AG,Ad hi,Af];rw [iB f i hg (by omega)];simp only [Aa,AB,hg];rw [ad1 (by omega)]
   cases a:f.Blocks[i].Bad with
   |true=>
    refine .inl ⟨(),rfl,λj b hj hb h0=>?_⟩;by_cases e:j=i
    ·subst e;rw [hg]at hb
     injection hb with hb
     rw [<-hb,a]at h0;cases h0
    exact hs j b (by omega) hb h0
   |false=>
    simp only [AJ,Af];by_cases e:0<Lp f.Blocks[i].Leaves/\Lp f.Blocks[i].Leaves<4
    ·rw [Ad (by omega),Ad (by omega)];exact .inr ⟨_,rfl,.inr ⟨i,_,rfl,hg,a,e.2⟩⟩
    have:(bif decide (((nb f.Blocks[i].Leaves:Nat):Int)>0)then(some (decide (((f.Blocks[i].Leaves.length-nb f.Blocks[i].Leaves:Nat):Int)>0)))else(some false):Option Bool)=some false:=by
     by_cases e2:nb f.Blocks[i].Leaves=0
     ·rw [Ae (by omega)];rfl
     rw [Ad (by omega),Ae (by omega)];rfl
    rw [this];refine .inl ⟨(),rfl,λj b hj hb h0=>?_⟩;by_cases e:j=i
    ·subst e;rw [hg]at hb
     injection hb with hb
     rw [<-hb];omega
    exact hs j b (by omega) hb h0)
  (λ_ hs=>⟨_,by simp only [Gp,AG,Ap,Av,Ac],.inl ⟨rfl,λb hb=>by
   obtain⟨j,hj,rfl⟩:=AF hb
   exact hs j _ hj (Ab hj)⟩⟩) (s:=()) (λj b hj=>by omega)
 have h1':Au (λs:Int=>Gp f s) 0=some b:=h1;rw [h1']
 rcases h3 with⟨rfl,h3⟩|⟨i,x,rfl,h4,h5,h6⟩
 ·exact⟨-1,rfl,.inl ⟨rfl,h3⟩⟩
 exact⟨(i:Int),rfl,.inr ⟨x,by rw [AB];exact h4,h5,h6⟩⟩
theorem dI (h:Cg f):∃b l:Int,∃ok:Bool,N1 f=some (b,l,ok)/\(ok=true->RB f b l)/\(ok=false->∀b∈f.Blocks,b.Bad=false->Lp b.Leaves=4):=by
 have hn:=h.n;obtain⟨o,o1,o2⟩:=XM h;obtain⟨e1,_⟩:=Ym f h.cap;unfold N1;rw [NR h,o1,e1];simp only [Aa,Aj,Ac]
 rcases o2 with⟨rfl,o2⟩|⟨x,o2,o3,o4⟩
 ·rw [Ae (by omega)];simp only [Ac];have a:∀y∈UE f,RB f y 0:=by
   intro y hy;unfold UE at hy;obtain⟨i,hi,rfl⟩:=AH.1 hy;obtain⟨c,d⟩:=AT.1 hi;rw [Iu]at c;unfold Nk at d;rw [Ab c]at d;simp only [Ak,CP,A6]at d;have hP:=h.blk _ (AC c);have:=hP.nb;have:=hP.four;exact⟨_,by rw [AB];exact Ab c,d.1,by omega,by omega⟩
  cases j:UE f with
  |nil=>
   refine⟨0,0,false,rfl,by simp,λ_ b hb g=>?_⟩
   rcases o2 b hb g with e|e
   ·obtain⟨i,hi,rfl⟩:=AF hb;have hm:(i:Int)∈UE f:=by
     unfold UE;refine AH.2 ⟨i,AT.2 ⟨Iu.2 hi,?_⟩,rfl⟩;unfold Nk;rw [Ab hi];have hP:=h.blk _ (AC hi);have:=hP.nb;have:=hP.four;simp only [g,AJ,CH,A6];omega
    rw [j]at hm;cases hm
   exact e
  |cons x l=>
   rw [j]at a;have t:(x::l).length<=10:=by
    rw [<-j];unfold UE;rw [Be];have:=Dc (Nk f) (List.range f.Blocks.length);rw [Ch]at this;omega
   have m:(ln (x::l)==0)=false:=by simp [ln];omega
   rw [m];simp only [Ac];have p:gi (x::l) 0=some x:=AB (i:=0);rw [p];simp only [Aa]
   have k:∀y,RB f y 0->∃z,gi f.Blocks y=some z:=λy ⟨z,hz,_⟩=>⟨z,hz⟩
   obtain⟨w,w1,w2⟩:=SK (body:=λs:Int×Int=>JC f (x::l) s.1 s.2) (λ(b:Int) i=>(b,i)) (x::l).length (λ_ b=>RB f b 0) (λb=>RB f b 0)
    (λb i hi hb=>by
     have hg:(x::l)[i]?=some (x::l)[i]:=Ab hi;have hp:=a _ (AC hi);obtain⟨z1,q⟩:=k _ hp;obtain⟨z2,r⟩:=k _ hb;simp only [JC,AG,Ad hi,Af,AB,hg,Aa,q,r];rw [ad1 (by omega)]
     cases decide (z1.Wear<z2.Wear)with
     |true=>exact .inl ⟨_,rfl,hp⟩
     |false=>exact .inl ⟨_,rfl,hb⟩)
    (λb hb=>⟨b,by simp only [JC,AG,Ap,Av,Ac],hb⟩) l.length 1 x (by simp;omega) (a x (by simp))
   have e1':((1:Nat):Int)=1:=rfl;rw [e1']at w1;rw [w1];exact⟨w,0,true,rfl,λ_=>w2,by simp⟩
 obtain⟨k1,k2⟩:=DK o2;rw [Ad (by omega),Af,o2];simp only [Aa];rw [Mk x (h.blk x (A7 k2)).four];exact⟨_,_,true,rfl,λ_=>⟨x,o2,o3,rfl,o4⟩,by simp⟩
def rX (f:Flash) (b:Int):Prop:=∃x,gi f.Blocks b=some x/\x.Bad=false/\x.Wear≠1000000000
def Sd (f:Flash) (b:Int):Flash:=Flash.mk (match gi f.Blocks b with
 |some x=>si f.Blocks b (Block.mk false (x.Wear+1) Np)
 |none=>f.Blocks)
theorem pG (h:Cg f) (b:Int):(rX f b/\Wn f b=some (Sd f b,true))\/(¬rX f b/\Wn f b=some (f,false)):=by
 have hn:=h.n;unfold Wn;rw [FL f h.cap,NR h];simp only [Aa,Aj,Ac];rw [BW,C4 (by omega) (by omega),Ex];simp only [Aa];by_cases hb:0<=b/\b<=(f.Blocks.length:Int)-1
 ·rw [Ad hb];simp only [Aj,Ac];have hg:=Qd (l:=f.Blocks) hb.1 (by omega);have hm:f.Blocks[b.toNat]'(by omega)∈f.Blocks:=AC _;generalize c:f.Blocks[b.toNat]'(by omega)=x at hg hm;have hP:=h.blk x hm;rw [hg];simp only [Aa]
  cases a:x.Bad with
  |true=>
   refine .inr ⟨?_,rfl⟩;rintro⟨z,hz,h2,_⟩;rw [hg]at hz
   injection hz with hz
   rw [<-hz,a]at h2;cases h2
  |false=>
   simp only [Ac,Aa];by_cases hw:x.Wear=1000000000
   ·rw [show(x.Wear==1000000000)=true by simpa using hw];refine .inr ⟨?_,rfl⟩;rintro⟨z,hz,_,h3⟩;rw [hg]at hz
    injection hz with hz
    rw [<-hz]at h3;exact h3 hw
   rw [show(x.Wear==1000000000)=false by simpa using hw];simp only [Ac];rw [QD];simp only [Aa];have:=hP.wear;rw [C6 (by omega) (by omega)];refine .inl ⟨⟨x,hg,a,hw⟩,?_⟩;unfold Sd;rw [hg]
 rw [Ae hb];refine .inr ⟨?_,rfl⟩;rintro⟨z,hz,_⟩;obtain⟨k1,k2⟩:=DK hz;have:=(Ag.1 k2).1;omega
theorem fK {bad:Bool} {w:Int} (h:0<=w/\w<=1000000000):K0 (Block.mk bad w Np):=by
 refine⟨rfl,h,λx hx=> .inl ?_,λk x y hx hy _=>?_⟩
 ·have:=Dy hx;rw [this];exact⟨rfl,rfl⟩
 have:=Dy (A7 hy);rw [this]
theorem W9 (i:Int):∀(k:Int) (l:List Leaf),(∀x∈l,x.Is≠1)->U5 i k l=[]
 |k,[],_=>rfl
 |k,x::l,h=>by
  rw [U5,W9 i (k+1) l (λy hy=>h y (by simp [hy]))];unfold pg;rw [Ax (h x (by simp))];rfl
theorem Uj {b:Int} (h:Cg f) (hc:rX f b):Cg (Sd f b)/\JH 0 (Sd f b).Blocks=(JH 0 f.Blocks).filter λy=>y.Block !=b:=by
 obtain⟨x,h1,h2,h3⟩:=hc;obtain⟨k1,k2⟩:=DK h1;obtain⟨c,rfl⟩:∃c:Nat,b=(c:Int):=⟨_,(Bp k1).symm⟩;rw [Bc]at k2;have hP:=h.blk x (A7 k2);have hw:=hP.wear;unfold Sd;rw [h1];simp only [E6];exact⟨Qg h (fK ⟨by omega,by omega⟩),dU k2 (W9 _ _ _ λy hy=>by rw [Dy hy];simp)⟩
def Rz (f:Flash) (s:Cc):Prop:=(s.Kind=1/\eB f s.Block s.Leaf s.Text)\/(s.Kind=2/\rX f s.Block)
def JU (f:Flash) (s:Cc):Flash:=if s.Kind=1 then prog f s.Block s.Leaf (Leaf.mk 1 s.Text)else Sd f s.Block
theorem W0 (h:Cg f) (s:Cc):(Rz f s/\N2 f s=some (JU f s,true))\/(¬Rz f s/\N2 f s=some (f,false)):=by
 unfold N2;by_cases k1:s.Kind=1
 ·rw [show(s.Kind==1)=true by simpa using k1];simp only [Af]
  rcases dF h s.Block s.Leaf s.Text with⟨h1,h2⟩|⟨h1,h2⟩
  ·rw [h2];exact .inl ⟨.inl ⟨k1,h1⟩,by unfold JU;rw [Aw k1];rfl⟩
  rw [h2];exact .inr ⟨by rintro(hh|hh);exact h1 hh.2;omega,rfl⟩
 rw [show(s.Kind==1)=false by simpa using k1];simp only [Ac];by_cases k2:s.Kind=2
 ·rw [show(s.Kind==2)=true by simpa using k2];simp only [Af]
  rcases pG h s.Block with⟨h1,h2⟩|⟨h1,h2⟩
  ·rw [h2];exact .inl ⟨.inr ⟨k2,h1⟩,by unfold JU;rw [Ax k1];rfl⟩
  rw [h2];exact .inr ⟨by rintro(hh|hh);omega;exact h1 hh.2,rfl⟩
 rw [show(s.Kind==2)=false by simpa using k2];simp only [Ac];rw [FL f h.cap];exact .inr ⟨by rintro(hh|hh)<;>omega,rfl⟩
theorem tK {s:Cc} (h:Cg f) (hs:Rz f s):Cg (JU f s):=by
 unfold JU
 rcases hs with⟨h1,h2⟩|⟨h1,h2⟩
 ·rw [Aw h1];exact(R9 h h2).1
 rw [Ax (by omega)];exact(Uj h h2).1
theorem Wj {t:ByteArray} {ok:Bool} (h:Cg f) (steps:List Cc) (hs:steps.length<=1000) (p:Page) (ht:EQ p=some (t,ok)) (hl:ok=true->1<=(L t).length/\(L t).length<=120):
  (ok=true/\∃b l,RB f b l/\N1 f=some (b,l,true)/\I5 f steps p=some (prog f b l (Leaf.mk 1 t),steps++ [Cc.mk 1 b l t],true))\/I5 f steps p=some (f,steps,false):=by
 obtain⟨b,l,room,p1,p2,_⟩:=dI h;unfold I5;rw [ht,p1];simp only [Aa]
 cases ok with
 |false=>exact .inr rfl
 |true=>
  simp only [Aj,Ac,Aa]
  cases room with
  |false=>exact .inr rfl
  |true=>
   simp only [Aj,Ac];have hp:=p2 rfl;have hl':=hl rfl;have hm:eB f b l t:=by
    obtain⟨x,a1,a2,a3,a4⟩:=hp;exact⟨x,a1,a2,a3,a4,hl'⟩
   rcases W0 h (Cc.mk 1 b l t)with⟨h1,h2⟩|⟨h1,h2⟩
   ·rw [h2];simp only [Aa];rw [Ct (by simp;omega)];refine .inl ⟨trivial,b,l,hp,rfl,?_⟩;unfold JU;rfl
   exact absurd (.inl ⟨rfl,hm⟩) h1
theorem fN (u:ByteArray) (hu:(L u).length<=20000) (a:Nat) (ha:a<=(L u).length):∃n c,Do (Ej.mk u (a:Int) false)=some (n,c)/\c.text_=u/\(c.bad_=true\/c.bad_=false/\∃b:Nat,c.at_=b/\a<b/\b<=(L u).length)/\(c.bad_=true->c.at_=a):=by
 obtain⟨r,h1,_,h2⟩:=HT u (a:Int) (by omega) ⟨by omega,by omega⟩;rw [Jm u _ hu h1]
 rcases h2 with⟨e1,e2,e3⟩|⟨e1,a',b,n,k1,k2,k3,k4,k5,_⟩
 ·rw [e1];exact⟨_,_,rfl,rfl,.inl rfl,λ_=>rfl⟩
 rw [e1];refine⟨_,_,rfl,rfl,.inr ⟨rfl,b,k2,by omega,k5⟩,λhh=>by cases hh⟩
theorem kR (t:ByteArray) (ht:(L t).length<=20000):∀(n a:Nat) (b:List Ds),(L t).length-a<=n->a<=(L t).length->b.length<=a->∃r,Au (λs:List Ds×ByteArray×Int×Bool=>DD t s.1 s.2.1 s.2.2.1 s.2.2.2) (b,t,(a:Int),false)=some r/\(r= .inr ([],false)\/∃l:List Ds,r= .inl l/\l.length<=(L t).length)
 |n,a,b,hn,ha,ho=>by
  rw [AA];simp only [DD];rw [BM];by_cases c:a<(L t).length
  ·rw [Ad (by omega:(a:Int)<((L t).length:Int))];simp only [Af,Aa,AJ];rw [EE t c,ad1 (by omega)];simp only [Aa];obtain⟨n1,c1,v1,t1,h1,z1⟩:=fN t ht (a+1) (by omega);rw [v1];simp only [Aa]
   rcases h1 with e1|⟨e1,b1,k1,k2,k3⟩
   ·
    have hz:=z1 e1;obtain⟨c1t,c1a,c1b⟩:=c1;simp only at t1 e1 hz;subst t1 e1 hz;rw [GT _ _ ht ⟨by omega,by omega⟩];exact⟨_,rfl,.inl rfl⟩
   obtain⟨c1t,c1a,c1b⟩:=c1;simp only at t1 e1 k1;subst t1 e1 k1;obtain⟨n2,c2,v2,t2,h2,z2⟩:=fN c1t ht b1 k3;rw [v2];simp only [Aa]
   rcases h2 with e2|⟨e2,b2,m1,m2,m3⟩
   ·rw [e2];exact⟨_,rfl,.inl rfl⟩
   rw [e2];simp only [Ac];rw [LO];simp only [Aa]
   cases GR _ with
   |false=>exact⟨_,rfl,.inl rfl⟩
   |true=>
    simp only [Aj,Ac];rw [Ct (by simp;omega),t2,m1];simp only [Aa]
    match n,hn with
    |n+1,hn=>exact kR c1t ht n b2 _ (by omega) m3 (by simp;omega)
    |0,hn=>omega
  rw [Ae (by omega)];exact⟨_,rfl,.inr ⟨_,rfl,by omega⟩⟩
noncomputable def YI (t:ByteArray):Option (List Ds):=match HF t with
 |some (l,true)=>some l
 |_=>none
theorem X1 (t:ByteArray) (ht:(L t).length<=20000):∃l ok,HF t=some (l,ok)/\YI t=(if ok=true then some l else none)/\l.length<=20000:=by
 obtain⟨r,h1,h2⟩:=kR t ht (L t).length 0 [] (by omega) (by omega) (by simp);unfold YI HF;have h1':Au (λs:List Ds×ByteArray×Int×Bool=>DD t s.1 s.2.1 s.2.2.1 s.2.2.2) ([],t,0,false)=some r:=h1;rw [h1']
 rcases h2 with rfl|⟨l,rfl,h3⟩
 ·exact⟨[],false,rfl,rfl,by simp⟩
 exact⟨l,true,rfl,rfl,by omega⟩
def gB (t a b:Int) (y:A4):Bool:=y.Page.Kind==2&&(y.Page.Tx==t&&(y.Page.Part==a&&(!decide (a>0)||y.Page.Count==b)))
def Pr (r:List A4) (t a b:Int):Option A4:=r.find? (gB t a b)
theorem bJ {x:α} (l:List α) (p:α->Bool) (h:∀j x,j<i->l[j]?=some x->p x=false) (hx:l[i]?=some x) (hp:p x=true):l.find? p=some x:=by
 obtain⟨h1,h2⟩:=IU hx;rw [h1,List.find?_append];have:(l.take i).find? p=none:=by
  rw [EN];intro y hy;obtain⟨j,hj,rfl⟩:=AF hy;rw [AE]at hj;rw [Jz];rw [h j _ (by omega) (Ab _)];simp
 rw [this,Option.none_or,List.find?_cons_of_pos hp]
theorem lW (l:List α) (p:α->Bool) (h:∀(j:Nat) x,l[j]?=some x->p x=false):l.find? p=none:=by
 rw [EN];intro y hy;obtain⟨j,hj,rfl⟩:=AF hy;rw [h j _ (Ab hj)];simp
structure FY (r:List A4):Prop where
 len:r.length<=1048576
 text:∀y∈r,(L y.Page.Text).length<=90
 seq:∀y∈r,1<=y.Page.Seq/\y.Page.Seq<=1000000000
 tx:∀y∈r,1<=y.Page.Tx/\y.Page.Tx<=1000000000
 cnt:∀y∈r,1<=y.Page.Count/\y.Page.Count<=9
 part:∀y∈r,0<=y.Page.Part/\y.Page.Part<y.Page.Count
def Ms (a seq:Int) (y:A4):Int:=if a=0\/y.Page.Seq<seq then y.Page.Seq else seq
theorem qT (r:List A4) (hr:FY r) (t a c:Int) (hp:0<=a) (text:ByteArray) (ht:(L text).length<=10000) (seq:Int):
  ∃text2,Au (λs:Int×ByteArray×Bool×Int×Int=>IR r t a s.1 s.2.1 s.2.2.1 s.2.2.2.1 s.2.2.2.2) (c,text,false,0,seq)=some (match Pr r t a c with
   |none=>(c,text,false,seq)
   |some y=>(y.Page.Count,text2,true,Ms a seq y))/\(∀y,Pr r t a c=some y->L text2=L text++L y.Page.Text):=by
 have k:=hr.len;obtain⟨b,h1,h2⟩:=Bg (body:=λs:Int×ByteArray×Bool×Int×Int=>IR r t a s.1 s.2.1 s.2.2.1 s.2.2.2.1 s.2.2.2.2) (λ(s:Int×ByteArray×Bool×Int) i=>(s.1,s.2.1,s.2.2.1,i,s.2.2.2)) r.length
  (λi s=>(s=(c,text,false,seq)/\∀(j:Nat) x,j<i->r[j]?=some x->gB t a c x=false)\/∃y u,Pr r t a c=some y/\L u=L text++L y.Page.Text/\s=(y.Page.Count,u,true,Ms a seq y))
  (λb=>(b=(c,text,false,seq)/\Pr r t a c=none)\/∃y u,Pr r t a c=some y/\L u=L text++L y.Page.Text/\b=(y.Page.Count,u,true,Ms a seq y))
  (λs i hi hs=>by
   have hx:=Ab hi;have hm:r[i]∈r:=AC hi;simp only [IR,AG,Ad hi,Af,Aa]
   rcases hs with⟨rfl,hs⟩|⟨y,u,f1,f2,rfl⟩
   ·simp only [AJ,Af,AB,hx,Aa];have f:(bif(r[i].Page.Kind !=2)then(some true)else(bif(r[i].Page.Tx !=t)then(some true)else(bif(r[i].Page.Part !=a)then(some true)else(bif(decide (a>0))then(some (r[i].Page.Count !=c))else(some false)))):Option Bool)=some (!gB t a c r[i]):=by
     unfold gB;simp only [bne];cases r[i].Page.Kind==2<;>cases r[i].Page.Tx==t<;>cases r[i].Page.Part==a<;>cases decide (a>0)<;>cases r[i].Page.Count==c<;>rfl
    rw [f];simp only [Aa];rw [ad1 (by omega)]
    cases hM:gB t a c r[i]with
    |false=>
     refine .inl ⟨_,rfl,.inl ⟨rfl,λj x hj d=>?_⟩⟩;by_cases e:j=i
     ·subst e;rw [hx]at d
      injection d with d
      rw [<-d];exact hM
     exact hs j x (by omega) d
    |true=>
     have l:=hr.text _ hm;simp only [Aj,Ac];rw [G5 _ _ (by omega)];simp only [Aa];have hf:Pr r t a c=some r[i]:=bJ r _ (λj x hj d=>hs j x hj d) hx hM;have g:(bif(a==0)then(some true)else(some (decide (r[i].Page.Seq<seq))):Option Bool)=some (decide (a=0\/r[i].Page.Seq<seq)):=by
      by_cases e:a=0
      ·rw [show(a==0)=true by simpa using e,Ad (show a=0\/r[i].Page.Seq<seq from .inl e)];rfl
      rw [show(a==0)=false by simpa using e];simp only [Ac];by_cases e2:r[i].Page.Seq<seq
      ·rw [Ad e2,Ad (show a=0\/r[i].Page.Seq<seq from .inr e2)]
      rw [Ae e2,Ae (by rintro(h|h);exact e h;exact e2 h)]
     rw [g];simp only [Aa];refine .inl ⟨(r[i].Page.Count,text++r[i].Page.Text,true,Ms a seq r[i]),?_,.inr ⟨r[i],_,hf,DG _ _,rfl⟩⟩;unfold Ms;by_cases e:a=0\/r[i].Page.Seq<seq
     ·rw [Ad e,Aw e];rfl
     rw [Ae e,Ax e];rfl
   simp only [Aj,Ac]
   exact .inr ⟨_,rfl,.inr ⟨y,u,f1,f2,rfl⟩⟩)
  (λs hs=>by
   refine⟨s,by simp only [IR,AG,Ap,Av,Ac,Aa],?_⟩
   rcases hs with⟨rfl,hs⟩|hs
   ·exact .inl ⟨rfl,lW r _ λj x hx=>hs j x (Ag.1 hx).1 hx⟩
   exact .inr hs) (s:=(c,text,false,seq)) (.inl ⟨rfl,λj x hj=>by omega⟩)
 have h1':Au (λs:Int×ByteArray×Bool×Int×Int=>IR r t a s.1 s.2.1 s.2.2.1 s.2.2.2.1 s.2.2.2.2) (c,text,false,0,seq)=some b:=h1;rw [h1']
 rcases h2 with⟨rfl,h2⟩|⟨y,u,f1,f2,rfl⟩
 ·rw [h2];exact⟨text,rfl,λy hy=>by cases hy⟩
 rw [f1];refine⟨u,rfl,λz hz=>?_⟩
 injection hz with hz
 rw [<-hz];exact f2
def parts (r:List A4) (t:Int):Nat->Int->Int->List UInt8->Int->Option (List UInt8×Int)
 |0,_,_,_,_=>none
 |n+1,a,c,b,seq=>if a=0\/a<c then(match Pr r t a c with
  |none=>none
  |some y=>parts r t n (a+1) y.Page.Count (b++L y.Page.Text) (Ms a seq y))else some (b,seq)
theorem lJ {t a b:Int} (h:gB t a b y=true) (hp:0<a):y.Page.Count=b:=by
 unfold gB at h;simp only [Ak,Cx,CP,AX,Dm]at h
 rcases h.2.2.2 with h|h
 ·omega
 exact h
theorem Qf {t a b:Int} (h:Pr r t a b=some y):y∈r/\gB t a b y=true:=⟨List.mem_of_find?_eq_some h,List.find?_some h⟩
theorem eG (r:List A4) (hr:FY r) (t:Int):∀(n:Nat) (part cnt:Int) (text:ByteArray) (seq:Int),part+n=11->0<=part->(part=0\/(part<=cnt/\cnt<=9))->(L text).length<=90*part.toNat->
  ∃b,Au (λs:Int×ByteArray×Int×Int=>Oh r t s.1 s.2.1 s.2.2.1 s.2.2.2) (cnt,text,part,seq)=some b/\(match parts r t n part cnt (L text) seq with
   |none=>∃q,b= .inr (Tx.mk t q [],false)
   |some (x,q)=>∃u,b= .inl (u,q)/\L u=x/\(L u).length<=1000)
 |0,part,cnt,text,seq,hn,h0,hc,ht=>by omega
 |n+1,part,cnt,text,seq,hn,h0,hc,ht=>by
  rw [AA];simp only [Oh,parts];have a:(bif(part==0)then(some true)else(some (decide (part<cnt))):Option Bool)=some (decide (part=0\/part<cnt)):=by
   by_cases e:part=0
   ·rw [show(part==0)=true by simpa using e,Ad (show part=0\/part<cnt from .inl e)];rfl
   rw [show(part==0)=false by simpa using e];simp only [Ac];by_cases e2:part<cnt
   ·rw [Ad e2,Ad (show part=0\/part<cnt from .inr e2)]
   rw [Ae e2,Ae (by rintro(h|h);exact e h;exact e2 h)]
  rw [a];simp only [Aa];by_cases e:part=0\/part<cnt
  ·rw [Ad e,Aw e];simp only [Af];obtain⟨text2,h1,h2⟩:=qT r hr t part cnt h0 text (by omega) seq;rw [h1]
   cases hf:Pr r t part cnt with
   |none=>
    simp only [Aa,AJ,Af];exact⟨_,rfl,_,rfl⟩
   |some y=>
    simp only [Aa,Aj,Ac];have hy:=Qf hf;have hL:=h2 y hf;have c:=hr.text y hy.1;have d:=hr.cnt y hy.1;rw [C6 (by omega) (by omega),<-hL];refine eG r hr t n (part+1) y.Page.Count text2 _ (by omega) (by omega) (.inr ?_) ?_
    ·rcases e with e|e
     ·have:=hr.part y hy.1;omega
     by_cases e2:part=0
     ·omega
     have:=lJ hy.2 (by omega);omega
    rw [hL,Ah];omega
  rw [Ae e,Ax e];simp only [Ac];exact⟨_,rfl,text,rfl,rfl,by omega⟩
noncomputable def Hq (r:List A4) (t:Int):Option Tx:=match parts r t 11 0 0 [] 0 with
 |none=>none
 |some (x,q)=>(YI (bs x)).map λl=>Tx.mk t q l
theorem AAg (u:ByteArray):bs (L u)=u:=I1 (by rw [El])
theorem Y6 (r:List A4) (hr:FY r) (t:Int):∃x ok,Vv r t=some (x,ok)/\Hq r t=(if ok=true then some x else none)/\x.Recs.length<=20000:=by
 obtain⟨b,h1,h2⟩:=eG r hr t 11 0 0 (bs []) 0 (by omega) (by omega) (.inl rfl) (by rw [El];simp);rw [El]at h2;unfold Vv Hq;rw [h1];simp only [Aa]
 cases hp:parts r t 11 0 0 [] 0 with
 |none=>
  rw [hp]at h2;obtain⟨z,rfl⟩:=h2;exact⟨_,_,rfl,rfl,by simp⟩
 |some w=>
  obtain⟨x,q⟩:=w;rw [hp]at h2;obtain⟨u,rfl,rfl,h4⟩:=h2;simp only [B6];obtain⟨l,ok,r1,r2,r3⟩:=X1 u (by omega);rw [r1,AAg,r2];simp only [Aa]
  cases ok with
  |true=>exact⟨_,_,rfl,rfl,r3⟩
  |false=>exact⟨_,_,rfl,rfl,r3⟩
theorem S7 {P:List α->Prop} (nil:P []) (app:∀l x,P l->P (l++ [x])) (l:List α):P l:=by
 rw [<-List.reverse_reverse l]
 induction l.reverse with
 |nil=>exact nil
 |cons x l ih=>rw [List.reverse_cons];exact app _ _ ih
def Di (r:List A4):List Int:=r.foldl (λns y=>if y.Page.Kind=2 then q8 ns y.Page.Tx else ns) []
theorem SF (r:List A4) (y:A4):Di (r++ [y])=if y.Page.Kind=2 then q8 (Di r) y.Page.Tx else Di r:=by unfold Di;rw [Hv];rfl
theorem Gv (r:List A4) (h:∀y∈r,1<=y.Page.Tx):asc (Di r)/\(∀x,x∈Di r↔∃y∈r,y.Page.Kind=2/\y.Page.Tx=x)/\(Di r).length<=r.length:=by
 have main:∀n,n<=r.length->asc (Di (r.take n))/\(∀x,x∈Di (r.take n)↔∃y∈r.take n,y.Page.Kind=2/\y.Page.Tx=x)/\(Di (r.take n)).length<=n:=by
  intro n
  induction n with
  |zero=>intro _;simp [Di,asc]
  |succ n ih=>
   intro hn;obtain⟨h1,h2,h3⟩:=ih (by omega);have et:r.take (n+1)=r.take n++ [r[n]'(by omega)]:=Aq (by omega);have hy:=h _ (AC (show n<r.length by omega));generalize r[n]'(by omega)=y at et hy;rw [et,SF]
   have a:∀z∈Di (r.take n),0<z:=λz hz=>by
    obtain⟨w,hw,_,h5⟩:=(h2 z).1 hz;have:=h w (List.mem_of_mem_take hw);omega
   by_cases e:y.Page.Kind=2
   ·rw [Aw e];refine⟨lP h1,λx=>?_,by have:=WP (Di (r.take n)) y.Page.Tx h1;omega⟩;rw [lO a,h2 x];simp only [Ai,Ay];constructor
    ·rintro(⟨w,hw,hk,ht⟩|⟨rfl,h0⟩)
     ·exact⟨w,.inl hw,hk,ht⟩
     exact⟨y,.inr rfl,e,rfl⟩
    rintro⟨w,hw|rfl,hk,ht⟩
    ·exact .inl ⟨w,hw,hk,ht⟩
    exact .inr ⟨ht.symm,by omega⟩
   rw [Ax e];refine⟨h1,λx=>?_,by omega⟩;rw [h2 x];simp only [Ai,Ay];constructor
   ·rintro⟨w,hw,hk,ht⟩;exact⟨w,.inl hw,hk,ht⟩
   rintro⟨w,hw|rfl,hk,ht⟩
   ·exact⟨w,hw,hk,ht⟩
   exact absurd hk e
 have:=main r.length (A3 _);rw [AP]at this;exact this
theorem XP (r:List A4) (hr:FY r):Au (λs:List Int×Int=>Jk r s.1 s.2) ([],0)=some (Di r):=by
 have d:=hr.len;obtain⟨b,h1,h2⟩:=Bg (body:=λs:List Int×Int=>Jk r s.1 s.2) (λ(o:List Int) i=>(o,i)) r.length (λi o=>o=Di (r.take i)) (λb=>b=Di r)
  (λo i hi ho=>by
   have hx:=Ab hi;have hm:r[i]∈r:=AC hi;have f:=(hr.tx _ hm).1;have a:=Gv (r.take i) (λy hy=>(hr.tx y (List.mem_of_mem_take hy)).1);have g:o.length<=1048576:=by rw [ho];have:=a.2.2;rw [AE]at this;omega
   have et:r.take (i+1)=r.take i++ [r[i]]:=Aq hi;simp only [Jk,AG,Ad hi,Af,AB,hx,Aa];rw [ad1 (by omega)];refine .inl ?_;by_cases e:r[i].Page.Kind=2
   ·rw [show(r[i].Page.Kind !=2)=false by simp [e]];simp only [Ac]
    rw [QQ (body:=λs:List Int×Int=>KX o r[i] s.1 s.2) o (λy=>decide (y<r[i].Page.Tx)) [] (by simp;omega)
     (λu k x hk hu=>by
      have c:=(Ag.1 hk).1
      simp only [KX,AG,Ad c,Af,AB,hk,Aa])
     (λu=>by simp only [KX,AG,Ap,Av,Ac])]
    simp only [Aa,A5];have h:=Dc (λy=>decide (y<r[i].Page.Tx)) o;rw [Ct (by simp only [An];omega)];simp only [Aa]
    rw [QQ (body:=λs:List Int×Int=>KV o r[i] s.1 s.2) o (λy=>decide (y>r[i].Page.Tx)) _ (by simp only [Ah,An];omega)
     (λu k x hk hu=>by
      have c:=(Ag.1 hk).1
      simp only [KV,AG,Ad c,Af,AB,hk,Aa])
     (λu=>by simp only [KV,AG,Ap,Av,Ac])]
    simp only [Aa];refine⟨_,rfl,?_⟩;rw [et,SF,Aw e,<-ho];unfold q8;rw [Aw (by omega)]
   rw [show(r[i].Page.Kind !=2)=true by simpa using e]
   exact⟨o,rfl,by rw [et,SF,Ax e,ho]⟩)
  (λo ho=>⟨o,by simp only [Jk,AG,Ap,Av,Ac],by rw [ho,AP]⟩) (s:=[]) rfl
 rw [h2]at h1;exact h1
noncomputable def Bt (r:List A4):List Tx:=(Di r).filterMap (Hq r)
theorem Qp {x:Tx} (hr:FY r) (h:Hq r t=some x):x.Num=t/\x.Recs.length<=20000:=by
 obtain⟨z,ok,h1,h2,h3⟩:=Y6 r hr t;rw [h]at h2
 cases ok with
 |false=>cases h2
 |true=>
  rw [Aw rfl]at h2
  injection h2 with h2
  subst h2;refine⟨?_,h3⟩;unfold Hq at h;split at h
  ·cases h
  obtain⟨l,_,rfl⟩:=AY.1 h;rfl
theorem P9 (r:List A4) (hr:FY r):PA r=some (Bt r):=by
 have c:=hr.len;have a:=Gv r (λy hy=>(hr.tx y hy).1);have d:=a.2.2;unfold PA;rw [XP r hr];simp only [Aa];obtain⟨b,h1,h2⟩:=Bg (body:=λs:List Tx×Int=>Jj r (Di r) s.1 s.2) (λ(o:List Tx) i=>(o,i)) (Di r).length (λi o=>o=((Di r).take i).filterMap (Hq r)) (λb=>b=Bt r)
  (λo i hi ho=>by
   have hx:=Ab hi;have et:(Di r).take (i+1)=(Di r).take i++ [(Di r)[i]]:=Aq hi;have e:o.length<=i:=by
    rw [ho];have:=List.length_filterMap_le (Hq r) ((Di r).take i);rw [AE]at this;omega
   simp only [Jj,AG,Ad hi,Af,AB,hx,Aa];rw [ad1 (by omega)];obtain⟨z,ok,k1,k2,k3⟩:=Y6 r hr (Di r)[i];rw [k1];simp only [Aa];refine .inl ?_
   cases ok with
   |true=>
    simp only [Af];rw [Ct (by simp only [An];omega)];refine⟨_,rfl,?_⟩;rw [et,Jw,ho];simp only [Pu,List.filterMap_nil,k2,BU]
   |false=>
    refine⟨o,rfl,?_⟩;rw [et,Jw,ho]
    simp [k2])
  (λo ho=>⟨o,by simp only [Jj,AG,Ap,Av,Ac],by rw [ho,AP];rfl⟩) (s:=[]) rfl
 have h1':Au (λs:List Tx×Int=>Jj r (Di r) s.1 s.2) ([],0)=some b:=h1;rw [h1',h2];rfl
def Za (x:Tx):Bool:=match x.Recs with
 |[]=>false
 |r::_=>r.Kind==1
def jH (l:List Tx):Nat:=l.zipIdx.foldl (λa z=>if Za z.1=true then z.2 else a) 0
def CY (l:List Tx):List Tx:=l.drop (jH l)
theorem OV (l:List Tx) (x:Tx):jH (l++ [x])=if Za x=true then l.length else jH l:=by
 unfold jH;rw [List.zipIdx_append,Hv];simp
theorem jG (l:List Tx):jH l<=l.length:=by
 induction l using S7 with
 |nil=>simp [jH]
 |app l x ih=>
  rw [OV,Ah];split<;>simp<;>omega
theorem Qs (l:List Tx) (x:Tx):CY (l++ [x])=if Za x=true then [x]else CY l++ [x]:=by
 unfold CY;rw [OV];by_cases e:Za x=true
 ·rw [Aw e,Aw e,E9 rfl]
 rw [Ax e,Ax e,List.drop_append_of_le_length (jG l)]
theorem cN (l:List Tx):∃A,l=A++CY l/\(A≠ []->∃x B,CY l=x::B/\Za x=true)/\∀x B,CY l=x::B->∀y∈B,Za y=false:=by
 induction l using S7 with
 |nil=>exact⟨[],rfl,λh=>absurd rfl h,λx B h=>by cases h⟩
 |app l x ih=>
  obtain⟨A,h1,h2,h3⟩:=ih;rw [Qs];by_cases e:Za x=true
  ·rw [Aw e];exact⟨l,rfl,λ_=>⟨x,[],rfl,e⟩,λy B h=>by injection h with _ h;subst h;intro z hz;cases hz⟩
  rw [Ax e];refine⟨A,by rw [<-Ao,<-h1],λhA=>?_,λy B h=>?_⟩
  ·obtain⟨y,B,h4,h5⟩:=h2 hA;exact⟨y,B++ [x],by rw [h4];rfl,h5⟩
  cases hs:CY l with
  |nil=>
   rw [hs]at h
   injection h with _ h
   subst h;intro z hz;cases hz
  |cons w B'=>
   rw [hs]at h
   injection h with h4 h5
   subst h4 h5;intro z hz;have hz:z∈B'++ [x]:=hz;rw [Ai,Ay]at hz
   rcases hz with hz|rfl
   ·exact h3 w B' hs z hz
   simpa using e
theorem o9 (A:List Tx):∀(B:List Tx),(A≠ []->∃x B',B=x::B'/\Za x=true)->(∀x B',B=x::B'->∀y∈B',Za y=false)->CY (A++B)=B:=by
 intro B
 induction B using S7 with
 |nil=>
  intro h1 _
  cases A with
  |nil=>rfl
  |cons a A=>obtain⟨x,B',h,_⟩:=h1 (by simp);cases h
 |app B y ih=>
  intro h1 h2;rw [<-Ao,Qs]
  cases B with
  |nil=>
   by_cases e:Za y=true
   ·rw [Aw e];rfl
   rw [Ax e]
   cases A with
   |nil=>rfl
   |cons a A=>
    obtain⟨x,B',h,h3⟩:=h1 (by simp)
    injection h with h4 h5
    rw [h4]at e;exact absurd h3 e
  |cons b B=>
   have hy:Za y=false:=h2 b (B++ [y]) rfl y (by simp);rw [Ax (by rw [hy];simp),ih]
   ·intro hA;obtain⟨x,B',h,h3⟩:=h1 hA
    injection h with h4 h5
    exact⟨b,B,rfl,by rw [h4];exact h3⟩
   intro x B' h z hz
   injection h with h4 h5
   subst h4 h5;exact h2 b (B++ [y]) rfl z (by simp [hz])
theorem P8 (l:List Tx) (hl:l.length<=1048576) (hr:∀x∈l,x.Recs.length<=20000):MI l=some (CY l):=by
 unfold MI;obtain⟨b,h1,h2⟩:=Bg (body:=λs:Int×Int=>Gm l s.1 s.2) (λ(o:Int) i=>(o,i)) l.length (λi o=>o=(jH (l.take i):Int)) (λb=>b=(jH l:Int))
  (λo i hi ho=>by
   have hx:=Ab hi;have et:l.take (i+1)=l.take i++ [l[i]]:=Aq hi;simp only [Gm,AG,Ad hi,Af,AB,hx,Aa];rw [ad1 (by omega)];refine .inl ?_;have d:(l.take i).length=i:=by rw [AE];omega
   cases a:l[i].Recs with
   |nil=>
    refine⟨o,rfl,?_⟩;rw [et,OV,Ax (by unfold Za;rw [a];simp),ho]
   |cons q m=>
    have hg:gi (q::m) 0=some q:=AB (i:=0);rw [Ad (by rw [BW,A0];omega:ln (q::m)>0)];simp only [Af,hg,Aa]
    cases hk:(q.Kind==1)with
    |true=>
     refine⟨(i:Int),rfl,?_⟩;rw [et,OV,Aw (by unfold Za;rw [a];exact hk),d]
    |false=>
     refine⟨o,rfl,?_⟩
     rw [et,OV,Ax (by unfold Za;rw [a];simp only [];rw [hk];simp),ho])
  (λo ho=>⟨o,by simp only [Gm,AG,Ap,Av,Ac],by rw [ho,AP]⟩) (s:=0) rfl
 have h1':Au (λs:Int×Int=>Gm l s.1 s.2) (0,0)=some b:=h1;rw [h1',h2];simp only [Aa];have e:=jG l;obtain⟨c,q1,q2⟩:=SK (body:=λs:List Tx×Int=>HD l s.1 s.2) (λ(o:List Tx) i=>(o,i)) l.length (λi o=>o=(l.take i).drop (jH l)/\jH l<=i) (λb=>b=CY l)
  (λo i hi hs=>by
   obtain⟨ho,f⟩:=hs;have hx:=Ab hi;have hm:l[i]∈l:=AC hi;have g:=hr _ hm;have et:l.take (i+1)=l.take i++ [l[i]]:=Aq hi;have h:o.length<=1048576:=by rw [ho,B5,AE];omega
   simp only [HD,AG,Ad hi,Af,AB,hx,Aa];rw [Ky (by omega)];simp only [Aa];rw [Ct (by simp only [An];omega)];simp only [Aa];rw [ad1 (by omega)];refine .inl ⟨_,rfl,?_,by omega⟩
   rw [et,List.drop_append_of_le_length (by rw [AE];omega),<-ho])
  (λo hs=>⟨o,by simp only [HD,AG,Ap,Av,Ac],by rw [hs.1,AP];rfl⟩) (l.length-jH l) (jH l) [] (by omega) ⟨by rw [CO];rw [AE];omega,A3 _⟩
 rw [q1,q2];rfl
def CX (l:Vs) (nx:Int) (a:List Ds):Option (Vs×Int):=a.foldl (λo r=>o.bind λp=>DY p.1 p.2 r) (some (l,nx))
theorem Qi (a:List Ds):a.foldl (λ(o:Option (Vs×Int)) r=>o.bind λp=>DY p.1 p.2 r) none=none:=by
 induction a with
 |nil=>rfl
 |cons r l ih=>rw [L0];exact ih
theorem EU (l:Vs) (nx:Int) (r:Ds) (a:List Ds):CX l nx (r::a)=(DY l nx r).bind λp=>CX p.1 p.2 a:=by
 unfold CX;rw [L0];simp only [Aa]
 cases DY l nx r with
 |none=>exact Qi a
 |some p=>rfl
theorem KG (l:Vs) (nx:Int) (a b:List Ds):CX l nx (a++b)=(CX l nx a).bind λp=>CX p.1 p.2 b:=by
 unfold CX;rw [Hv]
 cases a.foldl (λ(o:Option (Vs×Int)) r=>o.bind λp=>DY p.1 p.2 r) (some (l,nx))with
 |none=>exact Qi b
 |some p=>rfl
def O6 (s:Store) (a:List Ds) (o:Option (Store×Bool)):Prop:=match CX (BJ s) s.Next a with
 |none=>o=some (s,false)
 |some (l,nx)=>∃t,o=some (t,true)/\CV t/\BJ t=l/\t.Next=nx
theorem UI (h:CV s) (a:List Ds) (hr:a.length<=1048576):O6 s a (Kk s a):=by
 have hl:=h.len;have e:=KI h.ar (by have:=h.few;omega);have c:=FC s e (by omega);unfold Kk;rw [c];simp only [Aa];obtain⟨b,h1,h2⟩:=Bg (body:=λq:Int×List Vol×List BI×Int=>DE s a q.1 q.2.1 q.2.2.1 q.2.2.2) (λ(t:Store) i=>(i,t.Vols,t.Arena.Knots,t.Next)) a.length
  (λi t=>CV t/\CX (BJ s) s.Next (a.take i)=some (BJ t,t.Next))
  (λb=>(b= .inr (s,false)/\CX (BJ s) s.Next a=none)\/∃t,b= .inl (t.Vols,t.Arena.Knots,t.Next)/\CV t/\CX (BJ s) s.Next a=some (BJ t,t.Next))
  (λt i hi hs=>by
   obtain⟨hP,he⟩:=hs;have hx:=Ab hi;obtain⟨e1,e2⟩:=IU hx;have et:a.take (i+1)=a.take i++ [a[i]]:=Aq hi;simp only [DE,AG,Ad hi,Af,AB,hx,Aa];have d:=Xf hP a[i];unfold K6 at d;have f:Store.mk t.Vols (Arena.mk t.Arena.Knots) t.Next=t:=rfl;rw [f]
   cases hv:DY (BJ t) t.Next a[i]with
   |none=>
    rw [hv]at d;rw [d];simp only [Aa,AJ,Af];rw [c];refine .inr ⟨_,rfl,.inl ⟨rfl,?_⟩⟩;rw [e1,KG,he];simp only [Aa];rw [EU,hv];rfl
   |some p=>
    obtain⟨l,nx⟩:=p;rw [hv]at d;obtain⟨u,u1,u2,u3,u4⟩:=d;rw [u1];simp only [Aa,Aj,Ac];rw [ad1 (by omega)];refine .inl ⟨u,rfl,u2,?_⟩;rw [et,KG,he];simp only [Aa];rw [EU,hv];simp only [Aa];rw [u3,u4]
    rfl)
  (λt hs=>⟨_,by simp only [DE,AG,Ap,Av,Ac],.inr ⟨t,rfl,hs.1,by rw [<-hs.2,AP]⟩⟩) (s:=s) ⟨h,rfl⟩
 have h1':Au (λq:Int×List Vol×List BI×Int=>DE s a q.1 q.2.1 q.2.2.1 q.2.2.2) (0,s.Vols,s.Arena.Knots,s.Next)=some b:=h1;rw [h1'];unfold O6
 rcases h2 with⟨rfl,h2⟩|⟨t,rfl,h2,h3⟩
 ·rw [h2];rfl
 rw [h3];exact⟨t,rfl,h2,rfl,rfl⟩
def Da (r:List A4):Int:=r.foldl (λm y=>if y.Page.Seq>=m then y.Page.Seq+1 else m) 1
def Dz (r:List A4):Int:=r.foldl (λm y=>if y.Page.Kind=2/\y.Page.Tx>=m then y.Page.Tx+1 else m) 1
def Kx (l:List Tx):Int:=match l with
 |[]=>0
 |x::_=>x.Num
def Kn (l:List Tx):Vs×Int:=l.foldl (λp x=>(CX p.1 p.2 x.Recs).getD p) ([],1)
theorem Vu (r:List A4) (y:A4):Da (r++ [y])=if y.Page.Seq>=Da r then y.Page.Seq+1 else Da r:=by unfold Da;rw [Hv];rfl
theorem Sh (r:List A4) (y:A4):Dz (r++ [y])=if y.Page.Kind=2/\y.Page.Tx>=Dz r then y.Page.Tx+1 else Dz r:=by unfold Dz;rw [Hv];rfl
theorem Mc (r:List A4):(∀y∈r,y.Page.Seq<Da r)/\1<=Da r/\(∀b,1<=b->(∀y∈r,y.Page.Seq<b)->Da r<=b):=by
 induction r using S7 with
 |nil=>exact⟨λy hy=>(by cases hy),by simp [Da],λb hb _=>by simpa [Da]using hb⟩
 |app r x ih=>
  obtain⟨h1,h2,h3⟩:=ih;rw [Vu];refine⟨λy hy=>?_,?_,λb hb a=>?_⟩
  ·rw [Ai,Ay]at hy
   rcases hy with hy|rfl
   ·have:=h1 y hy;split<;>omega
   split<;>omega
  ·split<;>omega
  have:=h3 b hb (λy hy=>a y (by simp [hy]));have:=a x (by simp);split<;>omega
theorem T3 (r:List A4):(∀y∈r,y.Page.Kind=2->y.Page.Tx<Dz r)/\1<=Dz r/\(∀b,1<=b->(∀y∈r,y.Page.Kind=2->y.Page.Tx<b)->Dz r<=b):=by
 induction r using S7 with
 |nil=>exact⟨λy hy=>(by cases hy),by simp [Dz],λb hb _=>by simpa [Dz]using hb⟩
 |app r x ih=>
  obtain⟨h1,h2,h3⟩:=ih;rw [Sh];refine⟨λy hy hk=>?_,?_,λb hb a=>?_⟩
  ·rw [Ai,Ay]at hy
   rcases hy with hy|rfl
   ·have:=h1 y hy hk;split<;>omega
   split
   ·omega
   rename_i h;have:¬y.Page.Tx>=Dz r:=λhh=>h ⟨hk,hh⟩;omega
  ·split<;>omega
  have:=h3 b hb (λy hy=>a y (by simp [hy]));split
  ·rename_i h;have:=a x (by simp) h.1;omega
  omega
theorem TH (h:vG f r) (hf:Cg f):FY r:=by
 have a:∀y∈r,(1<=y.Page.Seq/\y.Page.Seq<=1000000000)/\(1<=y.Page.Tx/\y.Page.Tx<=1000000000)/\(1<=y.Page.Count/\y.Page.Count<=9)/\(0<=y.Page.Part/\y.Page.Part<y.Page.Count):=by
  intro y hy;obtain⟨b,x,g1,g2,_,g3⟩:=h.page y hy;obtain⟨_,k1⟩:=DK g1;obtain⟨_,k2⟩:=DK g2;have hx:=hf.text b (A7 k1) x (A7 k2);obtain⟨p,ok,m1,_,_,m2⟩:=Jv x.Text (by omega);rw [g3]at m1
  injection m1 with m1
  injection m1 with m1 m3
  have hp:=m2 m3.symm;obtain⟨v,q1,_,q2⟩:=Ug p;rw [hp]at q1
  injection q1 with q1
  obtain⟨_,a1,a2,a3,a4,_⟩:=q2 q1.symm;rw [m1];exact⟨a1,a2,a3,a4⟩
 exact⟨h.len,h.text,λy hy=>(a y hy).1,λy hy=>(a y hy).2.1,λy hy=>(a y hy).2.2.1,λy hy=>(a y hy).2.2.2⟩
theorem S3 (r:List A4) (hr:FY r):Au (λs:Int×Int×Int=>Hg r s.1 s.2.1 s.2.2) (0,1,1)=some (Da r,Dz r):=by
 have c:=hr.len;obtain⟨b,h1,h2⟩:=Bg (body:=λs:Int×Int×Int=>Hg r s.1 s.2.1 s.2.2) (λ(o:Int×Int) i=>(i,o.1,o.2)) r.length (λi o=>o=(Da (r.take i),Dz (r.take i))) (λb=>b=(Da r,Dz r))
  (λo i hi ho=>by
   subst ho;have hx:=Ab hi;have hm:r[i]∈r:=AC hi;have hs:=hr.seq _ hm;have ht:=hr.tx _ hm;have et:r.take (i+1)=r.take i++ [r[i]]:=Aq hi;simp only [Hg,AG,Ad hi,Af,AB,hx,Aa];rw [et,Vu,Sh,ad1 (by omega)];have a:(bif(decide (r[i].Page.Seq>=Da (r.take i)))then(some (ad r[i].Page.Seq 1))else(some (Da (r.take i))):Option Int)=some (if r[i].Page.Seq>=Da (r.take i)then r[i].Page.Seq+1 else Da (r.take i)):=by
    by_cases e:r[i].Page.Seq>=Da (r.take i)
    ·rw [Ad e,Aw e,C6 (by omega) (by omega)];rfl
    rw [Ae e,Ax e];rfl
   rw [a];simp only [Aa];refine .inl ?_;by_cases e:r[i].Page.Kind=2
   ·rw [show(r[i].Page.Kind==2)=true by simpa using e];simp only [Af,Aa];by_cases e2:r[i].Page.Tx>=Dz (r.take i)
    ·rw [Ad e2,Aw (show r[i].Page.Kind=2/\r[i].Page.Tx>=Dz (r.take i)from⟨e,e2⟩),C6 (by omega) (by omega)];exact⟨(_,_),rfl,rfl⟩
    rw [Ae e2,Ax (show¬(r[i].Page.Kind=2/\r[i].Page.Tx>=Dz (r.take i))from λhh=>e2 hh.2)];exact⟨(_,_),rfl,rfl⟩
   rw [show(r[i].Page.Kind==2)=false by simpa using e,Ax (show¬(r[i].Page.Kind=2/\r[i].Page.Tx>=Dz (r.take i))from λhh=>e hh.1)]
   exact⟨(_,_),rfl,rfl⟩)
  (λo ho=>⟨o,by simp only [Hg,AG,Ap,Av,Ac],by rw [ho,AP]⟩) (s:=(1,1)) rfl
 rw [h2]at h1;exact h1
theorem Y0:CV (Store.mk [] (Arena.mk []) 1):=by
 refine⟨⟨by simp,rfl,by simp,by simp,by simp,by simp [B9],by simp [B9],by simp⟩,by simp⟩
theorem WI (l:List Tx) (x:Tx):Kn (l++ [x])=(CX (Kn l).1 (Kn l).2 x.Recs).getD (Kn l):=by unfold Kn;rw [Hv];rfl
theorem Wv (l:List Tx) (hl:l.length<=1048576) (hr:∀x∈l,x.Recs.length<=20000):∃t,Au (λs:Int×List Vol×List BI×Int×Int=>Dr l s.1 s.2.1 s.2.2.1 s.2.2.2.1 s.2.2.2.2) (0,[],[],1,0)=some (t.Vols,t.Arena.Knots,t.Next,Kx l)/\CV t/\(BJ t,t.Next)=Kn l:=by
 obtain⟨b,h1,t,h2,h3,h4⟩:=Bg (body:=λs:Int×List Vol×List BI×Int×Int=>Dr l s.1 s.2.1 s.2.2.1 s.2.2.2.1 s.2.2.2.2) (λ(o:Store×Int) i=>(i,o.1.Vols,o.1.Arena.Knots,o.1.Next,o.2)) l.length
  (λi o=>CV o.1/\(BJ o.1,o.1.Next)=Kn (l.take i)/\o.2=Kx (l.take i)) (λb=>∃t,b=(t.Vols,t.Arena.Knots,t.Next,Kx l)/\CV t/\(BJ t,t.Next)=Kn l)
  (λo i hi hs=>by
   obtain⟨t,bs0⟩:=o;obtain⟨hP,hv,hb⟩:=hs;simp only at hP hv hb;have hx:=Ab hi;have hm:l[i]∈l:=AC hi;have j:=hr _ hm;have et:l.take (i+1)=l.take i++ [l[i]]:=Aq hi;simp only [Dr,AG,Ad hi,Af,AB,hx,Aa];have g:(bif((i:Int)==0)then(some l[i].Num)else(some bs0):Option Int)=some (Kx (l.take (i+1))):=by
    by_cases e:i=0
    ·subst e;rw [et];simp [Kx]
    rw [show((i:Int)==0)=false by simp;omega,hb,et];simp only [Ac]
    cases h5:l.take i with
    |nil=>
     have:=BR List.length h5;rw [AE,Bk]at this;omega
    |cons a m=>rfl
   rw [g];simp only [Aa];have d:=UI hP l[i].Recs (by omega);unfold O6 at d;have h:Store.mk t.Vols (Arena.mk t.Arena.Knots) t.Next=t:=rfl;have e1:BJ t=(Kn (l.take i)).1:=BR Prod.fst hv;have e2:t.Next=(Kn (l.take i)).2:=BR Prod.snd hv;rw [h,ad1 (by omega)];refine .inl ?_;have f:=WI (l.take i) l[i];rw [<-et]at f
   cases c:CX (BJ t) t.Next l[i].Recs with
   |none=>
    rw [c]at d;rw [d];refine⟨(t,Kx (l.take (i+1))),rfl,hP,?_,rfl⟩;rw [f,<-e1,<-e2,c,Option.getD_none];exact hv
   |some p=>
    obtain⟨lv,nx⟩:=p;rw [c]at d;obtain⟨u,u1,u2,u3,u4⟩:=d;rw [u1];refine⟨(u,Kx (l.take (i+1))),rfl,u2,?_,rfl⟩;rw [f,<-e1,<-e2,c,BA];show(BJ u,u.Next)=(lv,nx)
    rw [u3,u4])
  (λo hs=>⟨(o.1.Vols,o.1.Arena.Knots,o.1.Next,o.2),by simp only [Dr,AG,Ap,Av,Ac],o.1,by rw [hs.2.2,AP],hs.1,by rw [hs.2.1,AP]⟩) (s:=(Store.mk [] (Arena.mk []) 1,0)) ⟨Y0,rfl,rfl⟩
 exact⟨t,by rw [<-h2];exact h1,h3,h4⟩
structure Lv (d:Ba) (r:List A4):Prop where
 fl:Cg d.Flash
 scan:vG d.Flash r
 sr:SR (JH 0 d.Flash.Blocks) r
 st:CV d.Store
 ab:(BJ d.Store,d.Store.Next)=Kn (CY (Bt r))
 seq:d.Seq=Da r
 tx:d.Tx=Dz r
 base:d.Base=Kx (CY (Bt r))
theorem Lv.pages (h:Lv d r):FY r:=TH h.scan h.fl
theorem RK (hr:FY r):(Bt r).length<=1048576/\∀x∈Bt r,x.Recs.length<=20000:=by
 have b:=hr.len;have a:=Gv r (λy hy=>(hr.tx y hy).1);have:=List.length_filterMap_le (Hq r) (Di r);refine⟨by unfold Bt;omega,λx hx=>?_⟩;obtain⟨t,_,ht⟩:=List.mem_filterMap.1 hx;exact(Qp hr ht).2
theorem Qr (l:List Tx):(CY l).length<=l.length/\∀x∈CY l,x∈l:=⟨by unfold CY;rw [B5];omega,λx hx=>List.mem_of_mem_drop hx⟩
theorem S4 (hf:Cg f):∃d r,CL f=some (d,true)/\Lv d r/\d.Flash=f:=by
 obtain⟨r,hs,a⟩:=sG hf;have hr:=TH hs hf;obtain⟨g1,g2⟩:=RK hr;obtain⟨b1,b2⟩:=Qr (Bt r);obtain⟨t,t1,t2,t3⟩:=Wv (CY (Bt r)) (by omega) (λx hx=>g2 x (b2 x hx));refine⟨Ba.mk f t (Da r) (Dz r) (Kx (CY (Bt r))),r,?_,⟨hf,hs,a,t2,t3,rfl,rfl,rfl⟩,rfl⟩;unfold CL;rw [NR hf,hs.s,FL f hf.cap];unfold Mh;simp only [Aa,Aj,Ac];rw [S3 r hr,P9 r hr];simp only [Aa];rw [P8 _ g1 g2];simp only [Aa];rw [t1];rfl
theorem cR (a b:List Int) (ha:a.length<=1048576):K4 a b=some (decide (a=b)):=by
 unfold K4;by_cases hl:a.length=b.length
 ·rw [show(ln a !=ln b)=false by simp [ln,hl]];simp only [Ac]
  rw [l9 (body:=λs:Int=>Gj a b s) a b (λx y=>x==y) hl (by omega)
   (λi x y hx hy=>by
    have hi:=(Ag.1 hx).1;simp only [Gj,AG,Ad hi,Af,AB,hx,hy,Aa];rw [ad1 (by omega)]
    cases c:x==y<;>simp [bne,c])
   (by simp only [Gj,AG,Ap,Av,Ac])]
  have:=j9 (p:=λx y:Int=>x==y) (a:=a) (b:=b) (λx _ y _=>by simp) hl
  cases hz:(a.zip b).all (λz=>z.1==z.2)with
  |true=>rw [Ad (this.1 hz)];rfl
  |false=>rw [Ae (λhh=>by rw [this.2 hh]at hz;cases hz)];rfl
 rw [show(ln a !=ln b)=true by simp [ln];omega,Ae (λhh=>hl (by rw [hh]))];rfl
theorem UQ {a b:Store} (ha:CV a) (hb:CV b):KO a b=some (decide (BJ a=BJ b/\a.Next=b.Next)):=by
 have e:=ha.len;have f:=hb.len;have g:=ha.few;have h:=hb.few;unfold KO;by_cases hl:a.Vols.length=b.Vols.length
 ·rw [show(ln a.Vols !=ln b.Vols)=false by simp [ln,hl]];simp only [Ac,Aa];by_cases hn:a.Next=b.Next
  ·rw [show(a.Next !=b.Next)=false by simp [hn]];simp only [Ac]
   rw [l9 (body:=λs:Int=>HE a b s) a.Vols b.Vols (λv w=>v.Id==w.Id&&decide (E4 a.Arena.Knots v.Root=E4 b.Arena.Knots w.Root)) hl (by omega)
    (λi x y hx hy=>by
     have hi:=(Ag.1 hx).1;simp only [HE,AG,Ad hi,Af,AB,hx,hy,Aa];rw [Mm _ (by omega) ha.ar (ha.root _ (AH.2 ⟨x,A7 hx,rfl⟩)),Mm _ (by omega) hb.ar (hb.root _ (AH.2 ⟨y,A7 hy,rfl⟩))];simp only [Aa];rw [cR _ _ (by unfold E4;simp)];simp only [Aa];rw [ad1 (by omega)]
     cases c:x.Id==y.Id with
     |false=>simp [bne,c]
     |true=>
      simp only [bne,c,Aj,Ac,CH]
      cases decide (E4 a.Arena.Knots x.Root=E4 b.Arena.Knots y.Root)<;>rfl)
    (by simp only [HE,AG,Ap,Av,Ac])]
   have d:(a.Vols.zip b.Vols).all (λz=>z.1.Id==z.2.Id&&decide (E4 a.Arena.Knots z.1.Root=E4 b.Arena.Knots z.2.Root))=decide (BJ a=BJ b):=by
    unfold BJ;generalize a.Vols=l at hl;generalize b.Vols=m at hl
    induction l generalizing m with
    |nil=>cases m with
     |nil=>simp
     |cons y m=>simp at hl
    |cons x l ih=>
     cases m with
     |nil=>simp at hl
     |cons y m=>
      rw [List.zip_cons_cons,E0,ih m (by simpa using hl),Ee];simp only [Ak,Dm,A6,BZ,Po,Bo]
   rw [d]
   cases hd:decide (BJ a=BJ b)with
   |true=>rw [Ad ⟨Jx hd,hn⟩];rfl
   |false=>rw [Ae (λhh=>of_decide_eq_false hd hh.1)];rfl
  rw [show(a.Next !=b.Next)=true by simpa using hn,Ae (λhh=>hn hh.2)];rfl
 rw [show(ln a.Vols !=ln b.Vols)=true by simp [ln];omega,Ae (λhh=>hl (by have:=BR List.length hh.1;rwa [JP,JP]at this))];rfl
theorem Up (h:Lv d r):Nv d=some d:=by
 have:=h.st.len;unfold Nv;rw [FL _ h.fl.cap,FC _ (KI h.st.ar (by have:=h.st.few;omega)) (by omega)];rfl
theorem Lv.uniq {d':Ba} (h:Lv d r) (h':Lv d' r') (e:d.Flash=d'.Flash):r=r':=by
 have h1:=h.sr;have h2:=h'.sr;rw [<-e]at h2;exact h1.uniq h2
theorem ZV (h:Lv d r):Or d=some true:=by
 obtain⟨m,r',h1,h2,h3⟩:=S4 h.fl;obtain rfl:=h.uniq h2 h3.symm;unfold Or;rw [h1];simp only [Aa,Af];have e:=h2.ab.trans h.ab.symm
 injection e with e1 e2
 rw [UQ h2.st h.st,Ad ⟨e1,e2⟩];simp only [Aa,Af];rw [h2.seq,h.seq,h2.tx,h.tx,h2.base,h.base];simp only [BEq.rfl,Af];rw [P7 h.st];rfl
theorem Xc {f g:α->Option β} (h:∀x∈l,f x=g x):l.filterMap f=l.filterMap g:=by
 induction l with
 |nil=>rfl
 |cons a l ih=>rw [Pu,Pu,h a (by simp),ih (λx hx=>h x (by simp [hx]))]
theorem i7 {p q:α->Bool} (h:∀x∈l,p x=q x):l.find? p=l.find? q:=by
 induction l with
 |nil=>rfl
 |cons a l ih=>rw [List.find?_cons,List.find?_cons,h a (by simp),ih (λx hx=>h x (by simp [hx]))]
theorem U6 (h:∀a b,Pr r' t a b=Pr r t a b):∀(n:Nat) (a b:Int) (x:List UInt8) (q:Int),parts r' t n a b x q=parts r t n a b x q
 |0,_,_,_,_=>rfl
 |n+1,a,b,x,q=>by
  simp only [parts,h];split
  ·split
   ·rfl
   exact U6 h n _ _ _ _
  rfl
theorem Rw (h:∀a b,Pr r' t a b=Pr r t a b):Hq r' t=Hq r t:=by
 unfold Hq;rw [U6 h]
theorem TO {t a b:Int} (h:gB t a b y=true):y.Page.Kind=2/\y.Page.Tx=t/\y.Page.Part=a:=by
 unfold gB at h;simp only [Ak,Dm]at h;exact⟨h.1,h.2.1,h.2.2.1⟩
theorem bH (r m:List A4) (t a b:Int):Pr (r++m) t a b=(Pr r t a b).or (Pr m t a b):=by unfold Pr;rw [List.find?_append]
theorem Td {t a b:Int} (h:∀y∈r,y.Page.Kind=2->y.Page.Tx≠t):Pr r t a b=none:=by
 unfold Pr;rw [EN];intro y hy hm;obtain⟨h1,h2,_⟩:=TO hm;exact h y hy h1 h2
theorem mI (h:∀y∈r,y.Page.Kind=2->y.Page.Tx≠t):Hq r t=none:=by
 unfold Hq;have:parts r t 11 0 0 [] 0=none:=by
  simp only [parts];rw [Aw (.inl trivial),Td h]
 rw [this]
theorem nA (r:List A4) (hy:y.Page.Kind≠2):Di (r++ [y])=Di r:=by rw [SF,Ax hy]
theorem UD (r:List A4) (hy:y.Page.Kind≠2):Bt (r++ [y])=Bt r:=by
 unfold Bt;rw [nA r hy];congr 1;funext t
 refine Rw λa b=>?_
 rw [bH,Td (r:=[y]) (λz hz hk=>by
  rw [Ay]at hz;rw [hz]at hk
  exact absurd hk hy),Option.or_none]
structure Zx (m:List A4) (t:Int) (n:Nat) (texts:List ByteArray):Prop where
 len:m.length<=n
 pos:1<=n/\n<=9
 tl:texts.length=n
 at_:∀(i:Nat) y,m[i]?=some y->y.Page.Kind=2/\y.Page.Tx=t/\y.Page.Part=i/\y.Page.Count=n/\texts[i]?=some y.Page.Text
theorem Zx.all (h:Zx m t n texts) (hy:y∈m):y.Page.Kind=2/\y.Page.Tx=t:=by
 obtain⟨i,hi,rfl⟩:=AF hy;obtain⟨h1,h2,_⟩:=h.at_ i _ (Ab hi);exact⟨h1,h2⟩
theorem qI (r:List A4) (hr:∀y∈r,1<=y.Page.Tx) (ht:∀y∈r,y.Page.Kind=2->y.Page.Tx<t) (h0:1<=t):∀(m:List A4),m≠ []->(∀y∈m,y.Page.Kind=2/\y.Page.Tx=t)->Di (r++m)=Di r++ [t]:=by
 intro m hm a
 have h1:=Gv (r++m) (λy hy=>by
  rcases Ai.1 hy with hy|hy
  ·exact hr y hy
  rw [(a y hy).2];exact h0)
 have h2:=Gv r hr
 refine VH h1.1 ?_ λx=>?_
 ·unfold asc;rw [Bx];refine⟨h2.1,LT _ _,λx hx z hz=>?_⟩;rw [Ay]at hz;obtain⟨y,hy,hk,rfl⟩:=(h2.2.1 x).1 hx;rw [hz];exact ht y hy hk
 rw [h1.2.1,Ai,Ay,h2.2.1];constructor
 ·rintro⟨y,hy,hk,rfl⟩
  rcases Ai.1 hy with hy|hy
  ·exact .inl ⟨y,hy,hk,rfl⟩
  exact .inr (a y hy).2
 rintro(⟨y,hy,hk,rfl⟩|rfl)
 ·exact⟨y,Ai.2 (.inl hy),hk,rfl⟩
 cases m with
 |nil=>exact absurd rfl hm
 |cons y m=>exact⟨y,by simp,(a y (by simp)).1,(a y (by simp)).2⟩
theorem uZ (h:Zx m t n texts) {a:Nat} {b:Int} (hc:a=0\/b=n):Pr m t a b=m[a]? :=by
 cases hy:m[a]? with
 |none=>
  unfold Pr;rw [EN];intro y c hm;obtain⟨i,hi,rfl⟩:=AF c;obtain⟨_,_,h3,_⟩:=h.at_ i _ (Ab hi);have:=(TO hm).2.2;rw [List.getElem?_eq_none_iff]at hy;omega
 |some y=>
  obtain⟨h1,h2,h3,h4,_⟩:=h.at_ a y hy;refine bJ m _ (λj x hj hx=>?_) hy ?_
  ·obtain⟨_,_,k3,_⟩:=h.at_ j x hx;rw [Bool.eq_false_iff];intro hm;have:=(TO hm).2.2;omega
  unfold gB;rw [h1,h2,h3,h4];simp only [BEq.rfl,CH,Cx,CP,AX,Dm]
  rcases hc with hc|hc
  ·left;omega
  right;omega
def No (l:List ByteArray):List UInt8:=l.flatMap L
theorem YN (hr:∀y∈r,y.Page.Kind=2->y.Page.Tx≠t) (h:Zx m t n texts):∀(k a:Nat) (c:Int) (x:List UInt8) (q:Int) (b:Nat),a+k=n->(a=0\/c=n)->k<b->
  (m.length=n->∃q',parts (r++m) t b a c x q=some (x++No (texts.drop a),q'))/\(m.length<n->a<=m.length->parts (r++m) t b a c x q=none)
 |k,a,c,x,q,0,hk,hc,hf=>by omega
 |0,a,c,x,q,b+1,hk,hc,hf=>by
  have hp:=h.pos;simp only [parts];rw [Ax (by omega)];refine⟨λ_=>⟨q,?_⟩,λh1 h2=>by omega⟩;rw [CO (by have:=h.tl;omega)];simp [No]
 |k+1,a,c,x,q,b+1,hk,hc,hf=>by
  have hp:=h.pos;simp only [parts];rw [Aw (by omega),bH,Td hr,Option.none_or,uZ h hc]
  cases hy:m[a]? with
  |none=>
   rw [List.getElem?_eq_none_iff]at hy;exact⟨λh1=>by omega,λ_ _=>rfl⟩
  |some y=>
   obtain⟨h1,h2,h3,h4,h5⟩:=h.at_ a y hy;have d:=(Ag.1 hy).1;simp only [];obtain⟨k1,k2⟩:=YN hr h k (a+1) y.Page.Count (x++L y.Page.Text) (Ms a q y) b (by omega) (.inr h4) (by omega);rw [show((a+1:Nat):Int)=(a:Int)+1 from rfl]at k1 k2;refine⟨λh6=>?_,λh6 h7=>k2 h6 (by omega)⟩;obtain⟨q',k3⟩:=k1 h6;refine⟨q',?_⟩;rw [k3]
   rw [show texts.drop a=y.Page.Text::texts.drop (a+1) by
    have h8:=(Ag.1 h5)
    rw [Bi h8.1,h8.2]]
   simp only [No,Hw,Ao]
theorem iV (r:List A4) (hr:∀y∈r,1<=y.Page.Tx) (ht:∀y∈r,y.Page.Kind=2->y.Page.Tx<t) (h0:1<=t) (h:Zx m t n texts):
  (m.length<n->Bt (r++m)=Bt r)/\(m.length=n->∀a,YI (bs (No texts))=some a->∃q,Bt (r++m)=Bt r++ [Tx.mk t q a]):=by
 have d:∀y∈r,y.Page.Kind=2->y.Page.Tx≠t:=λy hy hk=>by have:=ht y hy hk;omega
 have old:∀x∈Di r,Hq (r++m) x=Hq r x:=by
  intro x hx;have:=Gv r hr;obtain⟨y,hy,hk,rfl⟩:=(this.2.1 x).1 hx;have:=ht y hy hk
  refine Rw λe f=>?_
  rw [bH,Td (r:=m) (λz hz g=>by rw [(h.all hz).2];omega),Option.or_none]
 have oldG:(Di r).filterMap (Hq (r++m))=Bt r:=by
  unfold Bt;exact Xc old
 by_cases hm:m=[]
 ·subst hm;have:=h.pos;refine⟨λ_=>by rw [Az],λh1=>by simp at h1;omega⟩
 have b:=qI r hr ht h0 m hm (λy hy=>h.all hy);have hg:Bt (r++m)=Bt r++(match Hq (r++m) t with|some x=>[x]|none=>[]):=by
  have:Bt (r++m)=(Di (r++m)).filterMap (Hq (r++m)):=rfl;rw [this,b,Jw,oldG];congr 1
  cases hx:Hq (r++m) t with
  |none=>simp [hx]
  |some x=>simp [hx]
 have hp:=h.pos;obtain⟨p1,p2⟩:=YN d h n 0 0 [] 0 11 (by omega) (.inl rfl) (by omega);refine⟨λh1=>?_,λh1 a c=>?_⟩
 ·have:Hq (r++m) t=none:=by
   unfold Hq;have:=p2 h1 (by omega);rw [show((0:Nat):Int)=0 from rfl]at this;rw [this]
  rw [hg,this,Az]
 obtain⟨q,p3⟩:=p1 h1;rw [show((0:Nat):Int)=0 from rfl]at p3;have:Hq (r++m) t=some (Tx.mk t q a):=by
  unfold Hq;rw [p3];simp only [A5,List.drop_zero];rw [c];rfl
 exact⟨q,by rw [hg,this]⟩
structure fX (r:List A4):Prop where
 uniq:∀y∈r,∀z∈r,y.Page.Kind=2->z.Page.Kind=2->y.Page.Tx=z.Page.Tx->y.Page.Part=z.Page.Part->y=z
theorem iZ (h:fX r) (p:A4->Bool) {t a b:Int} (hf:Pr (r.filter p) t a b=some y):Pr r t a b=some y:=by
 obtain⟨h1,h2⟩:=Qf hf;have h3:=(AT.1 h1).1
 cases hz:Pr r t a b with
 |none=>
  unfold Pr at hz;rw [EN]at hz;exact absurd h2 (hz y h3)
 |some z=>
  obtain⟨k1,k2⟩:=Qf hz;obtain⟨a1,a2,a3⟩:=TO h2;obtain⟨b1,b2,b3⟩:=TO k2;rw [h.uniq z k1 y h3 b1 a1 (by rw [a2,b2]) (by rw [a3,b3])]
theorem SC (h:fX r) (p:A4->Bool):∀(n:Nat) (a b:Int) (x:List UInt8) (q:Int) (w:List UInt8×Int),parts (r.filter p) t n a b x q=some w->parts r t n a b x q=some w
 |0,_,_,_,_,_,hw=>by cases hw
 |n+1,a,b,x,q,w,hw=>by
  simp only [parts]at hw⊢;split
  ·rename_i hc;rw [Aw hc]at hw
   cases hf:Pr (r.filter p) t a b with
   |none=>rw [hf]at hw;cases hw
   |some y=>
    rw [hf]at hw;rw [iZ h p hf];exact SC h p n _ _ _ _ w hw
  rename_i hc;rw [Ax hc]at hw;exact hw
theorem cG {x:Tx} (h:fX r) (p:A4->Bool) (hx:Hq (r.filter p) t=some x):Hq r t=some x:=by
 unfold Hq at hx⊢
 cases hp:parts (r.filter p) t 11 0 0 [] 0 with
 |none=>rw [hp]at hx;cases hx
 |some w=>
  rw [hp]at hx;rw [SC h p _ _ _ _ _ w hp];exact hx
theorem iW (r:List A4) (hr:FY r):(Bt r).Pairwise λx y=>x.Num<y.Num:=by
 have h1:=(Gv r (λy hy=>(hr.tx y hy).1)).1;unfold Bt;rw [List.pairwise_filterMap];refine List.Pairwise.imp ?_ h1;intro a b c x hx y hy;rw [(Qp hr hx).1,(Qp hr hy).1];exact c
theorem Tf (l:List α) (f:α->Option β) (q:β->Bool):(l.filterMap f).filter q=l.filterMap (λa=>(f a).filter q):=by
 induction l with
 |nil=>rfl
 |cons a l ih=>
  cases h:f a with
  |none=>simp [h,ih]
  |some b=>
   cases hq:q b with
   |true=>simp [h,hq,ih,Option.filter]
   |false=>simp [h,hq,ih,Option.filter]
theorem Z9 (r:List A4) (hr:FY r) (h:fX r) (p:A4->Bool) (hp:∀y∈r,y.Page.Kind=2->Kx (CY (Bt r))<=y.Page.Tx->p y=true):CY (Bt (r.filter p))=CY (Bt r):=by
 have hr':FY (r.filter p):=⟨by have:=Dc p r;have:=hr.len;omega,λy hy=>hr.text y (AT.1 hy).1,λy hy=>hr.seq y (AT.1 hy).1,λy hy=>hr.tx y (AT.1 hy).1,λy hy=>hr.cnt y (AT.1 hy).1,λy hy=>hr.part y (AT.1 hy).1⟩;have s1:=Gv r (λy hy=>(hr.tx y hy).1);have s2:=Gv (r.filter p) (λy hy=>(hr'.tx y hy).1);have e1:Bt (r.filter p)=(Di r).filterMap (Hq (r.filter p)):=by
  have hn:Di (r.filter p)=(Di r).filter (λt=>decide (t∈Di (r.filter p))):=by
   refine VH s2.1 (List.Pairwise.filter _ s1.1) λx=>?_
   rw [AT,A6];refine⟨λhx=>⟨?_,hx⟩,λhx=>hx.2⟩;obtain⟨y,hy,hk,rfl⟩:=(s2.2.1 x).1 hx;exact(s1.2.1 _).2 ⟨y,(AT.1 hy).1,hk,rfl⟩
  unfold Bt
  conv=>lhs;rw [hn]
  rw [List.filterMap_filter]
  refine Xc λt ht=>?_
  by_cases e:t∈Di (r.filter p)
  ·rw [Aw (by simpa using e)]
  rw [Ax (by simpa using e)];symm
  refine mI λy hy hk f=>e ((s2.2.1 t).2 ⟨y,hy,hk,f⟩)
 have keep:∀t,Kx (CY (Bt r))<=t->Hq (r.filter p) t=Hq r t:=by
  intro t ht
  refine Rw λpart cnt=>?_
  unfold Pr;rw [List.find?_filter]
  refine i7 λy hy=>?_
  cases hm:gB t part cnt y with
  |false=>simp
  |true=>
   obtain⟨a1,a2,_⟩:=TO hm;rw [hp y hy a1 (by omega)];rfl
 have e2:Bt (r.filter p)=(Bt r).filter λx=>(Hq (r.filter p) x.Num).isSome:=by
  rw [e1];unfold Bt;rw [Tf]
  refine Xc λt ht=>?_
  cases hx:Hq (r.filter p) t with
  |some x=>
   have h1:=cG h p hx;rw [h1];have h2:=(Qp hr h1).1;simp only [Option.filter,h2,hx,Option.isSome_some,BU]
  |none=>
   cases hy:Hq r t with
   |none=>rfl
   |some x=>
    have h2:=(Qp hr hy).1;simp only [Option.filter,h2,hx,IG,BL,FV]
 obtain⟨A,h1,h2,h3⟩:=cN (Bt r);have a:=iW r hr;have hB:(CY (Bt r)).filter (λx=>(Hq (r.filter p) x.Num).isSome)=CY (Bt r):=by
  rw [Ga];intro x hx;have g:=(Qr (Bt r)).2 x hx;obtain⟨t,_,ht⟩:=List.mem_filterMap.1 g;have hn:=(Qp hr ht).1;have i:Kx (CY (Bt r))<=x.Num:=by
   rw [h1,Bx]at a
   cases hb:CY (Bt r)with
   |nil=>rw [hb]at hx;cases hx
   |cons b B=>
    have c:=a.2.1;rw [hb,CW]at c;rw [hb,BB]at hx;simp only [Kx]
    rcases hx with rfl|hx
    ·exact Fd _
    have:=c.1 x hx;omega
  rw [keep _ i,hn,ht];rfl
 rw [e2]
 conv=>lhs;rw [h1]
 rw [AR,hB];refine o9 _ _ (λd=>h2 λhA=>?_) h3;rw [hA]at d;exact d rfl
theorem TW:∀n:Nat,∃ds x,Cv n=ds++ [x]/\(∀d∈ds,128<=d.toNat)/\x.toNat<128/\EI (Cv n)=n
 |n=>by
  by_cases h:n<=127
  ·rw [Kt h];have:(UInt8.ofNat n).toNat=n:=by rw [GB];omega
   exact⟨[],_,rfl,by simp,by omega,by simp only [EI];omega⟩
  obtain⟨ds,x,h1,h2,h3,h4⟩:=TW (n/128);rw [Th h];have e:(UInt8.ofNat (n %128+128)).toNat=n %128+128:=by rw [GB];omega
  refine⟨UInt8.ofNat (n %128+128)::ds,x,by rw [h1];rfl,?_,h3,?_⟩
  ·intro d hd
   rcases BB.1 hd with rfl|hd
   ·omega
   exact h2 d hd
  simp only [EI];rw [h4,e];omega
termination_by n=>n
decreasing_by omega
theorem HR (h:n<=1000000000):1<=(Cv n).length/\(Cv n).length<=5:=by
 have a:∀(k n:Nat),n<128^(k+1)->(Cv n).length<=k+1:=by
  intro k
  induction k with
  |zero=>intro n hn;rw [Kt (by omega)];simp
  |succ k ih=>
   intro n hn;by_cases h:n<=127
   ·rw [Kt h];simp
   rw [Th h,A0];have:=ih (n/128) (by rw [Vj]at hn;omega);omega
 refine⟨?_,a 4 n (by omega)⟩;obtain⟨ds,x,h1,_⟩:=TW n;rw [h1];simp
theorem fS (t:ByteArray) (ht:(L t).length<=20000) (a n:Nat) (hn:n<=1000000000) (rest:List UInt8) (h:(L t).drop a=Cv n++rest):Jh t (a:Int)=some ((n:Int),((a+(Cv n).length:Nat):Int),true):=by
 obtain⟨ds,x,hD,u,hx,hv⟩:=TW n;obtain⟨h1,h2⟩:=HR hn;have h0:(L t).length-a=(Cv n).length+rest.length:=by
  have:=BR List.length h;rw [B5,Ah]at this;exact this
 have h3:(Cv n).length=ds.length+1:=by rw [hD];simp
 have f:∀k,k<=(Cv n).length->((L t).drop a).take k=(Cv n).take k:=λk hk=>by rw [h,Fc hk]
 have v:∀(m k:Nat),k+m=ds.length->Au (λs:Int×Int×Int=>DH t (a:Int) s.1 s.2.1 s.2.2) (((EI ((Cv n).take k):Nat):Int),((128^k:Nat):Int),((a+k:Nat):Int))=some (.inr ((n:Int),((a+(Cv n).length:Nat):Int),true)):=by
  intro m
  induction m with
  |zero=>
   intro k hk;have g:k=ds.length:=by omega
   suffices d:DH t (a:Int) ((EI ((Cv n).take k):Nat):Int) ((128^k:Nat):Int) ((a+k:Nat):Int)=some (.inr (.inr ((n:Int),((a+(Cv n).length:Nat):Int),true))) by
    rw [AA];simp only [d]
   simp only [DH];have e:a+k<(L t).length:=by omega
   rw [C6 (b:=5) (by omega) (by omega),BM,Ad (by omega:((a+k:Nat):Int)<(a:Int)+5),Ad (by omega:((a+k:Nat):Int)<((L t).length:Int))];simp only [Af,Aa,EE t e];have hb:(L t)[a+k]=x:=by
    have:((L t).drop a)[k]?=some x:=by
     rw [h,hD,AM (by simp;omega),g,AS (A3 _),Qo];rfl
    rw [BK,Ab e]at this;injection this
   rw [hb];have c:=MB ds [x];rw [<-hD,hv]at c;have w:(Cv n).take k=ds:=by rw [hD,g,Pn rfl]
   rw [w];simp only [EI,Nat.mul_zero,Gd]at c;have hp:=aE k (by omega);have hw:IntKind.i64.wrap (x.toNat:Int)=x.toNat:=Ns (by omega) (by omega);have l:x.toNat %128*128^k<=127*268435456:=Yl (by omega) hp;have emul:ml ((x.toNat %128:Nat):Int) ((128^k:Nat):Int)=((x.toNat %128*128^k:Nat):Int):=by
    have ec:((x.toNat %128:Nat):Int)*((128^k:Nat):Int)=((x.toNat %128*128^k:Nat):Int):=by norm_cast
    rw [NA (by rw [ec];omega) (by rw [ec];omega),ec]
   have i:=Vp ds;rw [<-g]at i c;have enew:ad ((EI ds:Nat):Int) ((x.toNat %128*128^k:Nat):Int)=(n:Int):=by
    rw [C6 (by omega) (by omega),c,jS (128^k)];omega
   rw [hw,Z5,emul,enew,Ad (by omega:(x.toNat:Int)<128),Ae (by omega:¬(n:Int)>1000000000),ad1 (by omega)];simp only [Af,Ac];obtain⟨s,y,z⟩:=Jn n (by omega);rw [EZ t (by omega) (by omega),y];simp only [Aa];have o:seq s (t.extract a (a+k+1))=true:=by
    rw [P3,z,HU,show a+k+1-a=k+1 by omega,f _ (by omega),AO (by omega)];simp
   rw [o];simp only [Aj,Ac];rw [show a+k+1=a+(Cv n).length by omega]
  |succ m ih=>
   intro k hk;suffices d:DH t (a:Int) ((EI ((Cv n).take k):Nat):Int) ((128^k:Nat):Int) ((a+k:Nat):Int)=some (.inl (((EI ((Cv n).take (k+1)):Nat):Int),((128^(k+1):Nat):Int),((a+(k+1):Nat):Int))) by
    rw [AA];simp only [d];exact ih (k+1) (by omega)
   simp only [DH];have e:a+k<(L t).length:=by omega
   rw [C6 (b:=5) (by omega) (by omega),BM,Ad (by omega:((a+k:Nat):Int)<(a:Int)+5),Ad (by omega:((a+k:Nat):Int)<((L t).length:Int))];simp only [Af,Aa,EE t e];have j:k<ds.length:=by omega
   have p:(Cv n)[k]?=some ds[k]:=by rw [hD,AM j,Ab j]
   have hb:(L t)[a+k]=ds[k]:=by
    have:((L t).drop a)[k]?=some ds[k]:=by
     rw [h,AM (by omega),p]
    rw [BK,Ab e]at this;injection this
   rw [hb];have h128:=u _ (AC j);have hx:=cF ds[k];have q:(Cv n).take (k+1)=(Cv n).take k++ [ds[k]]:=by rw [DR,p];rfl
   have r:((Cv n).take k).length=k:=by rw [AE];omega
   have c:=MB ((Cv n).take k) [ds[k]];rw [<-q,r]at c;have i:=Vp ((Cv n).take k);rw [r]at i;have hp:=aE k (by omega);generalize ds[k]=x at hx q c h128;simp only [EI,Nat.mul_zero,Gd]at c;have hw:IntKind.i64.wrap (x.toNat:Int)=x.toNat:=Ns (by omega) (by omega);have l:x.toNat %128*128^k<=127*268435456:=Yl (by omega) hp;have emul:ml ((x.toNat %128:Nat):Int) ((128^k:Nat):Int)=((x.toNat %128*128^k:Nat):Int):=by
    have ec:((x.toNat %128:Nat):Int)*((128^k:Nat):Int)=((x.toNat %128*128^k:Nat):Int):=by norm_cast
    rw [NA (by rw [ec];omega) (by rw [ec];omega),ec]
   have enew:ad (((EI ((Cv n).take k):Nat)):Int) ((x.toNat %128*128^k:Nat):Int)=((EI ((Cv n).take (k+1)):Nat):Int):=by
    rw [C6 (by omega) (by omega),c,jS (128^k)];omega
   have e1:ml ((128^k:Nat):Int) 128=((128^(k+1):Nat):Int):=by
    rw [NA (by omega) (by omega),Vj];norm_cast
   rw [hw,Z5,emul,enew,Ae (by omega:¬(x.toNat:Int)<128),e1,ad1 (by omega)];rfl
 unfold Jh;rw [BM,Ex,Ad (by omega)];simp only [Aa,Aj,Ac];have k0:=v ds.length 0 (by omega);simp only [It,EI,Nat.pow_zero,Gd]at k0;rw [show((0:Nat):Int)=0 from rfl,show((1:Nat):Int)=1 from rfl]at k0;rw [k0];rfl
theorem Ko (t:ByteArray) (ht:(L t).length<=20000) (a n:Nat) (hn:n<=1000000000) (rest:List UInt8) (h:(L t).drop a=Cv n++rest):Do (Ej.mk t (a:Int) false)=some ((n:Int),Ej.mk t ((a+(Cv n).length:Nat):Int) false):=by
 rw [Jm t _ ht (fS t ht a n hn rest h)];rfl
def g8 (r:Ds):List UInt8:=UInt8.ofNat (16*r.Kind+r.Vol).toNat::(Cv r.Arg.toNat++Cv r.Chunk.toNat)
theorem aC {r:Ds} (h:GR r=true):1<=r.Kind/\r.Kind<=5/\0<=r.Vol/\r.Vol<=9/\0<=r.Arg/\r.Arg<=1000000000/\0<=r.Chunk/\r.Chunk<=1000000000:=by
 unfold GR at h
 cases k1:(r.Kind==1)with
 |true=>
  have e1:r.Kind=1:=by simpa using k1
  rw [k1]at h;simp at h;omega
 |false=>
  rw [k1]at h;cases k2:(r.Kind==2)<;>cases k3:(r.Kind==3)<;>cases k4:(r.Kind==4)<;>rw [k2,k3,k4]at h<;>simp at h k2 k3 k4<;>omega
theorem ZN {r:Ds} (h:GR r=true):∃t,Qz r=some (t,true)/\L t=g8 r:=by
 obtain⟨h1,h2,h3,h4,h5,h6,h7,h8⟩:=aC h;obtain⟨sa,a1,a2⟩:=Jn r.Arg.toNat (by omega);obtain⟨sc,c1,c2⟩:=Jn r.Chunk.toNat (by omega);rw [Bp h5]at a1;rw [Bp h7]at c1;unfold Qz LN;rw [LO,h];simp only [Aa,Aj,Ac];rw [NA (by omega) (by omega),C6 (by omega) (by omega),a1];simp only [Aa];have l1:=(HR (show r.Arg.toNat<=1000000000 by omega)).2;have l2:=(HR (show r.Chunk.toNat<=1000000000 by omega)).2;have hb:∀x,(L (Hz [x])).length=1:=Wc;rw [G5 _ _ (by rw [hb,a2];omega),c1];simp only [Aa];rw [G5 _ _ (by rw [DG,Ah,hb,a2,c2];omega)];simp only [Aa];refine⟨_,rfl,?_⟩;rw [DG,DG,IY,a2,c2];unfold g8;have hw:IntKind.u8.wrap (16*r.Kind+r.Vol)=16*r.Kind+r.Vol:=by
  rw [IntKind.wrap_u8];omega
 simp only [BZ,jT,hw,Co,BF,A5]
def GH (l:List Ds):List UInt8:=l.flatMap g8
theorem pO {r:Ds} (h:GR r=true):3<=(g8 r).length/\(g8 r).length<=11:=by
 obtain⟨h1,h2,h3,h4,h5,h6,h7,h8⟩:=aC h;have l1:=HR (show r.Arg.toNat<=1000000000 by omega);have l2:=HR (show r.Chunk.toNat<=1000000000 by omega);unfold g8;rw [A0,Ah];omega
theorem YH (t:ByteArray) (ht:(L t).length<=20000):∀(l:List Ds) (a:Nat) (b:List Ds),(∀r∈l,GR r=true)->(L t).drop a=GH l->a<=(L t).length->b.length<=a->Au (λs:List Ds×ByteArray×Int×Bool=>DD t s.1 s.2.1 s.2.2.1 s.2.2.2) (b,t,(a:Int),false)=some (.inl (b++l))
 |[],a,b,hl,h,ha,ho=>by
  have:(L t).length=a:=by
   have:=BR List.length h;rw [B5]at this;simp [GH]at this;omega
  rw [AA];simp only [DD];rw [BM,Ae (by omega),Az];rfl
 |r::l,a,b,hl,h,ha,ho=>by
  have hr:=hl r (by simp);obtain⟨h1,h2,h3,h4,h5,h6,h7,h8⟩:=aC hr;have h':(L t).drop a=UInt8.ofNat (16*r.Kind+r.Vol).toNat::(Cv r.Arg.toNat++(Cv r.Chunk.toNat++GH l)):=by
   rw [h];simp only [GH,Hw,g8,BF,Ao]
  have c:a<(L t).length:=by
   have:=BR List.length h';rw [B5,A0]at this;omega
  have d:=Bi c;rw [h']at d
  injection d with hx hd
  rw [AA];simp only [DD];rw [BM,Ad (by omega)];simp only [Af,Aa,AJ];rw [EE t c,ad1 (by omega)];simp only [Aa];rw [Ko t ht (a+1) r.Arg.toNat (by omega) _ hd.symm];simp only [Aa];have e:(L t).drop (a+1+(Cv r.Arg.toNat).length)=Cv r.Chunk.toNat++GH l:=by
   rw [<-CB,<-hd,E9 rfl]
  rw [Ko t ht _ r.Chunk.toNat (by omega) _ e];simp only [Aa,Ac];have hw:IntKind.i64.wrap (((L t)[a]).toNat:Int)=16*r.Kind+r.Vol:=by
   rw [<-hx,GB];rw [Ns (by omega) (by omega)];omega
  have e1:qu (IntKind.i64.wrap (((L t)[a]).toNat:Int)) 16=r.Kind:=by
   rw [hw];unfold qu;rw [Int.tdiv_eq_ediv_of_nonneg (by omega),Ns (by omega) (by omega)];omega
  have e2:Int.tmod (IntKind.i64.wrap (((L t)[a]).toNat:Int)) 16=r.Vol:=by
   rw [hw,JT (by omega)];omega
  rw [e1,e2,Bp h5,Bp h7];have f:Ds.mk r.Kind r.Vol r.Arg r.Chunk=r:=rfl;rw [f,LO,hr];simp only [Aa,Aj,Ac];rw [Ct (by simp only [An];omega)];simp only [Aa];have l1:=HR (show r.Arg.toNat<=1000000000 by omega);have l2:=HR (show r.Chunk.toNat<=1000000000 by omega);have g:(L t).drop (a+1+(Cv r.Arg.toNat).length+(Cv r.Chunk.toNat).length)=GH l:=by
   rw [<-CB,e,E9 rfl]
  have i:a+1+(Cv r.Arg.toNat).length+(Cv r.Chunk.toNat).length<=(L t).length:=by
   have h9:=BR List.length h';rw [B5,A0,Ah,Ah]at h9;omega
  have:=YH t ht l _ (b++ [r]) (λx hx=>hl x (by simp [hx])) g i (by simp;omega);rw [Ao,Co]at this;exact this
theorem g7 {l:List Ds} (hl:∀r∈l,GR r=true) (a:(GH l).length<=20000):YI (bs (GH l))=some l:=by
 have h:=YH (bs (GH l)) (by rw [El];exact a) l 0 [] hl (by rw [El];rfl) (by omega) (by simp);unfold YI HF;have h':Au (λs:List Ds×ByteArray×Int×Bool=>DD (bs (GH l)) s.1 s.2.1 s.2.2.1 s.2.2.2) ([],bs (GH l),0,false)=some (.inl ([]++l)):=h;rw [h',A5];rfl
theorem jL {v:Int} (u:ByteArray) (hu:(L u).length<=20000) (hv:MH u=some v):Kh (u++four v)=some (u,true):=by
 have a:(L (u++four v)).length=(L u).length+4:=by rw [DG,Ah,Tc]
 have e4:sb (Gb (u++four v)) 4=((L u).length:Int):=by rw [BM,a,C4 (by omega) (by omega)];omega
 unfold Kh;rw [e4,Ae (by omega),Ae (by omega)];simp only [Ac];have c:sub (u++four v) 0 ((L u).length:Int)=some u:=by
  rw [show(0:Int)=((0:Nat):Int)from rfl,EZ _ (by omega) (by omega)];congr 1;apply I1;rw [HU,DG];simp
 have b:sub (u++four v) ((L u).length:Int) (Gb (u++four v))=some (four v):=by
  rw [BM,EZ _ (by omega) (by omega)];congr 1;apply I1;rw [HU,a,DG,E9 rfl,AO (by rw [Tc];omega)]
 rw [c,b];simp only [Aa];rw [hv];have h3:Kg v=some (four v):=rfl;simp only [Aa,h3];have:seq (four v) (four v)=true:=by rw [Kc];simp
 rw [this];rfl
def Jl (p:Page):Prop:=(p.Kind=1\/p.Kind=2)/\(1<=p.Seq/\p.Seq<=1000000000)/\(1<=p.Tx/\p.Tx<=1000000000)/\(1<=p.Count/\p.Count<=9)/\(0<=p.Part/\p.Part<p.Count)/\(L p.Text).length<=90/\(p.Kind=2\/p.Count=1)
theorem Wu (p:Page):∃v,JD p=some v/\(v=true↔Jl p):=by
 unfold JD Jl;rw [Ex,Ex,Ex,Ex,BM];simp only [Aa];by_cases h1:1<=p.Kind/\p.Kind<=2
 ·rw [Ad h1];by_cases h2:1<=p.Seq/\p.Seq<=1000000000
  ·rw [Ad h2];by_cases h3:1<=p.Tx/\p.Tx<=1000000000
   ·rw [Ad h3];by_cases h4:1<=p.Count/\p.Count<=9
    ·rw [Ad h4];simp only [Aj,Ac];rw [C4 (by omega) (by omega),Ex];simp only [Aa];by_cases h5:0<=p.Part/\p.Part<=p.Count-1
     ·rw [Ad h5];simp only [Aj,Ac,Aa];by_cases h6:((L p.Text).length:Int)>90
      ·rw [Ad h6];exact⟨_,rfl,by simp only [BL,QR];omega⟩
      rw [Ae h6];simp only [Ac];by_cases h7:p.Kind=2
      ·rw [show(p.Kind==2)=true by simpa using h7];exact⟨_,rfl,by simp only [true_iff];omega⟩
      rw [show(p.Kind==2)=false by simpa using h7];refine⟨_,rfl,?_⟩;rw [Dm];omega
     rw [Ae h5];exact⟨_,rfl,by simp only [BL,QR];omega⟩
    rw [Ae h4];exact⟨_,rfl,by simp only [BL,QR];omega⟩
   rw [Ae h3];exact⟨_,rfl,by simp only [BL,QR];omega⟩
  rw [Ae h2];exact⟨_,rfl,by simp only [BL,QR];omega⟩
 rw [Ae h1];exact⟨_,rfl,by simp only [BL,QR];omega⟩
theorem pY (h:Jl p):JD p=some true:=by
 obtain⟨v,h1,h2⟩:=Wu p;rw [h1,h2.2 h]
theorem mY (h:Jl p):∃t,EQ p=some (t,true)/\1<=(L t).length/\(L t).length<=120/\EP t=some (p,true):=by
 obtain⟨h1,h2,h3,h4,h5,h6,h7⟩:=h
 let k:UInt8:=UInt8.ofNat p.Kind.toNat
 have hk:(k.toNat:Int)=p.Kind:=by
  show((UInt8.ofNat p.Kind.toNat).toNat:Int)=p.Kind;rw [GB];omega
 let u:=bs ([k]++Cv p.Seq.toNat++Cv p.Tx.toNat++Cv p.Part.toNat++Cv p.Count.toNat++L p.Text)
 have hu:L u=[k]++Cv p.Seq.toNat++Cv p.Tx.toNat++Cv p.Part.toNat++Cv p.Count.toNat++L p.Text:=El _;have l1:=HR (show p.Seq.toNat<=1000000000 by omega);have l2:=HR (show p.Tx.toNat<=1000000000 by omega);have l3:=HR (show p.Part.toNat<=1000000000 by omega);have l4:=HR (show p.Count.toNat<=1000000000 by omega);have e:(L u).length=1+(Cv p.Seq.toNat).length+(Cv p.Tx.toNat).length+(Cv p.Part.toNat).length+(Cv p.Count.toNat).length+(L p.Text).length:=by
  rw [hu];simp only [Ah,An]
 have l5:(L u).length<=116:=by omega
 obtain⟨v,hv,hs⟩:=(Ud u).2 (by omega);have c:=pY ⟨h1,h2,h3,h4,h5,h6,h7⟩;have a:=UT p u k p.Seq.toNat p.Tx.toNat p.Part.toNat p.Count.toNat c hk.symm (by omega) (by omega) (by omega) (by omega) (by omega) (by omega) (by omega) (by omega) (by omega) hu;rw [hs]at a;refine⟨u++four v,a,by rw [DG,Ah];omega,by rw [DG,Ah,Tc];omega,?_⟩;unfold EP;rw [jL u (by omega) hv];simp only [Aa,Aj,Ac];rw [BM,Ae (by omega)];have d0:(L u).drop 1=Cv p.Seq.toNat++(Cv p.Tx.toNat++(Cv p.Part.toNat++(Cv p.Count.toNat++L p.Text))):=by
  rw [hu];simp only [Ao,Co,BF,List.drop_succ_cons,List.drop_zero,A5]
 rw [show(1:Int)=((1:Nat):Int)from rfl,Ko u (by omega) 1 p.Seq.toNat (by omega) _ d0];simp only [Aa];have d1:(L u).drop (1+(Cv p.Seq.toNat).length)=Cv p.Tx.toNat++(Cv p.Part.toNat++(Cv p.Count.toNat++L p.Text)):=by rw [<-CB,d0,E9 rfl]
 rw [Ko u (by omega) _ p.Tx.toNat (by omega) _ d1];simp only [Aa];have d2:(L u).drop (1+(Cv p.Seq.toNat).length+(Cv p.Tx.toNat).length)=Cv p.Part.toNat++(Cv p.Count.toNat++L p.Text):=by rw [<-CB,d1,E9 rfl]
 rw [Ko u (by omega) _ p.Part.toNat (by omega) _ d2];simp only [Aa];have d3:(L u).drop (1+(Cv p.Seq.toNat).length+(Cv p.Tx.toNat).length+(Cv p.Part.toNat).length)=Cv p.Count.toNat++L p.Text:=by rw [<-CB,d2,E9 rfl]
 rw [Ko u (by omega) _ p.Count.toNat (by omega) _ d3];simp only [Aa,Ac];have d4:(L u).drop (1+(Cv p.Seq.toNat).length+(Cv p.Tx.toNat).length+(Cv p.Part.toNat).length+(Cv p.Count.toNat).length)=L p.Text:=by rw [<-CB,d3,E9 rfl]
 have d:sx u 0=some ((k.toNat:Nat):Int):=by
  rw [show(0:Int)=((0:Nat):Int)from rfl,EE u (by omega)];have:(L u)[0]?=some k:=by rw [hu];simp
  rw [Ab (by omega)]at this
  injection this with this
  rw [this]
 rw [d];simp only [Aa];have b:sub u ((1+(Cv p.Seq.toNat).length+(Cv p.Tx.toNat).length+(Cv p.Part.toNat).length+(Cv p.Count.toNat).length:Nat):Int) ((L u).length:Int)=some p.Text:=by
  rw [EZ u (by omega) (by omega)];congr 1;apply I1;rw [HU,d4,AO (by omega)]
 rw [b];simp only [Aa];rw [Ns (by omega) (by omega),hk,Bp (by omega),Bp (by omega),Bp (by omega),Bp (by omega)];have hp:Page.mk p.Kind p.Seq p.Tx p.Part p.Count p.Text=p:=rfl;rw [hp,a];simp only [Aa,Aj,Ac];have:seq (u++four v) (u++four v)=true:=by rw [Kc];simp
 rw [this];rfl
theorem pX (h:¬Jl p):EQ p=some (bs [],false):=by
 obtain⟨v,h1,h2⟩:=Wu p;unfold EQ;rw [h1]
 cases v with
 |true=>exact absurd (h2.1 rfl) h
 |false=>rfl
theorem mO (s:ByteArray) (f a:Nat) (hf:f<a) (ha:a<=(L s).length) (hs:(L s).length<=64):∃k:Nat,Mg s (f:Int) (a:Int)=some (k:Int)/\k<=31/\a+k<=(L s).length/\∀j,j<k->(L s)[f+j]?=(L s)[a+j]? :=by
 obtain⟨b,h1,k,rfl,h2,h3,h4⟩:=Bg (body:=λn:Int=>He s (f:Int) (a:Int) n) (λ(_:Unit) i=>i) 31 (λi _=>a+i<=(L s).length/\∀j,j<i->(L s)[f+j]?=(L s)[a+j]?) (λb=>∃k:Nat,b=(k:Int)/\k<=31/\a+k<=(L s).length/\∀j,j<k->(L s)[f+j]?=(L s)[a+j]?)
  (λ_ i hi hs=>by
   simp only [He];rw [Ad (by omega:(i:Int)<31),Af,C6 (by omega) (by omega),C6 (by omega) (by omega),BM];by_cases c:a+i<(L s).length
   ·rw [Ad (by omega:((a:Int)+(i:Int))<((L s).length:Int)),Af];have e1:((f:Int)+(i:Int))=((f+i:Nat):Int):=by omega
    have e2:((a:Int)+(i:Int))=((a+i:Nat):Int):=by omega
    rw [e1,e2,EE s (by omega),EE s c];simp only [Aa]
    cases hq:((((L s)[f+i]).toNat:Int)==(((L s)[a+i]).toNat:Int))with
    |true=>
     simp only [Af];rw [ad1 (by omega)];refine .inl ⟨(),rfl,by omega,λj hj=>?_⟩;by_cases e:j=i
     ·subst e;rw [Ab (by omega),Ab c];congr 1;apply UInt8.toNat_inj.1;have:(((L s)[f+j]).toNat:Int)=(((L s)[a+j]).toNat:Int):=by simpa using hq
      omega
     exact hs.2 j (by omega)
    |false=>exact .inr ⟨_,rfl,i,rfl,by omega,hs.1,hs.2⟩
   rw [Ae (by omega:¬((a:Int)+(i:Int))<((L s).length:Int)),Ac]
   exact .inr ⟨_,rfl,i,rfl,by omega,hs.1,hs.2⟩)
  (λ_ hs=>by
   simp only [He];rw [Ae (by omega:¬((31:Nat):Int)<31),Ac]
   exact⟨_,rfl,31,rfl,by omega,hs.1,hs.2⟩) (s:=()) ⟨by omega,λj hj=>by omega⟩
 refine⟨k,?_,h2,h3,h4⟩;unfold Mg;have h1':Au (λn:Int=>He s (f:Int) (a:Int) n) 0=some (k:Int):=h1;rw [h1'];rfl
def r7 (s:ByteArray) (a z b:Nat):Prop:=z<=31/\a+z<=(L s).length/\(z=0\/(4<=z/\1<=b/\b<=a/\∀j,j<z->(L s)[a-b+j]?=(L s)[a+j]?))
theorem pE (s:ByteArray) (a:Nat) (ha:a<=(L s).length) (hs:(L s).length<=64):∃z b:Nat,Au (λq:Int×Int×Int=>Er s (a:Int) q.1 q.2.1 q.2.2) (0,0,(sb (a:Int) 1))=some ((z:Int),(b:Int))/\r7 s a z b:=by
 rw [C4 (by omega) (by omega)];obtain⟨r,h1,z,b,rfl,h2⟩:=Bg (body:=λq:Int×Int×Int=>Er s (a:Int) q.1 q.2.1 q.2.2) (λ(q:Nat×Nat) i=>((q.1:Int),(q.2:Int),(a:Int)-1-i)) a (λi q=>r7 s a q.1 q.2) (λr=>∃z b:Nat,r=((z:Int),(b:Int))/\r7 s a z b)
  (λq i hi hq=>by
   obtain⟨k,m1,m2,m3,m4⟩:=mO s (a-1-i) a (by omega) ha hs;have e1:((a:Int)-1-(i:Int))=((a-1-i:Nat):Int):=by omega
   simp only [Er,e1];rw [Ad (by omega:(((a-1-i:Nat)):Int)>=0),Af,m1];simp only [Aa];rw [C4 (by omega) (by omega),C4 (by omega) (by omega)];refine .inl ?_;have e2:(((a-1-i:Nat):Int)-1)=(a:Int)-1-((i+1:Nat):Int):=by omega
   have e3:((a:Int)-((a-1-i:Nat):Int))=((1+i:Nat):Int):=by omega
   rw [e2,e3];by_cases h4:4<=k
   ·rw [Ad (by omega:(k:Int)>=4),Af];by_cases h5:q.1<k
    ·rw [Ad (by omega:(k:Int)>(q.1:Int))];exact⟨(k,1+i),rfl,m2,m3,.inr ⟨h4,by omega,by omega,λj hj=>by rw [show a-(1+i)=a-1-i by omega];exact m4 j hj⟩⟩
    rw [Ae (by omega:¬(k:Int)>(q.1:Int))];exact⟨q,rfl,hq⟩
   rw [Ae (by omega:¬(k:Int)>=4),Ac]
   exact⟨q,rfl,hq⟩)
  (λq hq=>by
   simp only [Er];rw [Ae (by omega:¬((a:Int)-1-(a:Int))>=0),Ac]
   exact⟨_,rfl,q.1,q.2,rfl,hq⟩) (s:=(0,0)) ⟨by omega,by omega,.inl rfl⟩
 have e0:(((0:Nat):Int),((0:Nat):Int),(a:Int)-1-0)=((0:Int),(0:Int),(a:Int)-1):=by simp
 simp only [e0]at h1;exact⟨z,b,h1,h2⟩
def Tj:Nat->Nat->List UInt8->List UInt8
 |0,_,out=>out
 |n+1,b,out=>Tj n b (out++ [(out[out.length-b]?).getD 0])
def TS (a:List UInt8) (t:Bj):List UInt8:=if t.Back=0 then a++L t.Text else Tj t.Size.toNat t.Back.toNat a
def ER (l:List Bj):List UInt8:=l.foldl TS []
def xI (a:List UInt8) (t:Bj):Prop:=(t.Back=0/\t.Size=0/\1<=(L t.Text).length/\(L t.Text).length<=31)\/(1<=t.Back/\t.Back<=(a.length:Int)/\1<=t.Size/\t.Size<=31/\L t.Text=[])
def qG (l:List Bj):Prop:=∀(i:Nat) t,l[i]?=some t->xI (ER (l.take i)) t
theorem N5 (l:List Bj) (t:Bj):ER (l++ [t])=TS (ER l) t:=by unfold ER;rw [Hv];rfl
theorem aK {l:List Bj} {t:Bj} (h:qG l) (ht:xI (ER l) t):qG (l++ [t]):=by
 intro i x hx;by_cases e:i<l.length
 ·rw [AM e]at hx;rw [Fc (by omega)];exact h i x hx
 have hi:=(Ag.1 hx).1;rw [Ah,An]at hi;obtain rfl:i=l.length:=by omega
 rw [AS (A3 _),Qo]at hx;simp only [CE,Al]at hx;rw [Pn rfl,<-hx];exact ht
theorem qF {l:List Bj} {t:Bj} (h:qG (l++ [t])):qG l/\xI (ER l) t:=by
 refine⟨λi x hx=>?_,?_⟩
 ·have hi:=(Ag.1 hx).1;have:=h i x (by rw [AM hi];exact hx);rw [Fc (by omega)]at this;exact this
 have:=h l.length t (by rw [AS (A3 _),Qo];rfl);rw [Pn rfl]at this;exact this
theorem Zl (S:List UInt8):∀(n a b:Nat),a+n<=S.length->1<=b->b<=a->(∀j,j<n->S[a-b+j]?=S[a+j]?)->Tj n b (S.take a)=S.take (a+n)
 |0,a,b,_,_,_,_=>rfl
 |n+1,a,b,h1,h2,h3,h4=>by
  rw [Tj];have hl:(S.take a).length=a:=by rw [AE];omega
  have e:((S.take a)[(S.take a).length-b]?).getD 0=S[a]'(by omega):=by
   rw [hl,List.getElem?_take_of_lt (by omega)];have:=h4 0 (by omega);rw [Gd,Gd]at this;rw [this,Ab (by omega)];rfl
  rw [e,<-Aq (by omega),Zl S n (a+1) b (by omega) h2 (by omega) (λj hj=>by
   have:=h4 (j+1) (by omega);rw [show a+1-b+j=a-b+(j+1) by omega,this];congr 1
   omega)]
  congr 1;omega
theorem fB:∀(n b:Nat) (a:List UInt8),(Tj n b a).length=a.length+n
 |0,_,_=>rfl
 |n+1,b,a=>by rw [Tj,fB];simp;omega
theorem Sk (s:ByteArray) (hs:(L s).length<=64):∀(n a:Nat) (c:List Bj),(L s).length-a<=n->a<=(L s).length->c.length<=a->qG c->ER c=(L s).take a->∃l,Au (λq:List Bj×Int=>Cu s q.1 q.2) (c,(a:Int))=some l/\qG l/\ER l=L s/\l.length<=64
 |n,a,c,hn,ha,h,g,d=>by
  by_cases i:a<(L s).length
  ·obtain⟨z,b,h1,h2,h3,h4⟩:=pE s a ha hs
   match n,hn with
   |0,hn=>omega
   |n+1,hn=>
   have j:((L s).take a).length=a:=by rw [AE];omega
   rcases h4 with rfl|⟨h4,h5,h6,h7⟩
   ·
    have f:sub s (a:Int) ((a+1:Nat):Int)=some (s.extract a (a+1)):=EZ s (by omega) (by omega);have hx:L (s.extract a (a+1))=[(L s)[a]]:=by
     rw [HU,show a+1-a=1 by omega,Bi i];rfl
    have fresh:∃l,Au (λq:List Bj×Int=>Cu s q.1 q.2) (c++ [Bj.mk 0 0 (s.extract a (a+1))],((a+1:Nat):Int))=some l/\qG l/\ER l=L s/\l.length<=64:=
     Sk s hs n (a+1) _ (by omega) (by omega) (by simp;omega) (aK g (.inl ⟨rfl,rfl,by rw [hx];simp,by rw [hx];simp⟩)) (by
      rw [N5];unfold TS
      rw [Aw rfl,d,hx,Aq i])
    rcases GL c with e|⟨out0,t0,e⟩
    ·subst e;obtain⟨l,f1,f2⟩:=fresh;refine⟨l,?_,f2⟩;rw [AA];have hb:Cu s [] (a:Int)=some (.inl ([Bj.mk 0 0 (s.extract a (a+1))],((a+1:Nat):Int))):=by
      simp only [Cu];rw [BM,Ad (by omega),Af,h1];simp only [Aa];rw [show decide ((((0:Nat):Int))>0)=false from rfl,Ac,ad1 (by omega),f,show decide ((sb (ln ([]:List Bj)) 1)>=0)=false from rfl];simp only [Ac,Aa];rw [Ct (by simp)];rfl
     simp only [hb];exact f1
    rw [GM]at e;subst e;obtain⟨ok0,okt0⟩:=qF g;have hol':out0.length+1<=a:=by simpa using h
    have p:ln (out0++ [t0])=((out0.length+1:Nat):Int):=by rw [BW];simp
    have k:sb (ln (out0++ [t0])) 1=(out0.length:Int):=by rw [p,C4 (by omega) (by omega)];omega
    have m:gi (out0++ [t0]) (out0.length:Int)=some t0:=GJ _ _;by_cases hm:t0.Back=0/\(L t0.Text).length<31
    ·have o:Ty t0.Text (s.extract a (a+1))=some (t0.Text++s.extract a (a+1)):=G5 _ _ (by rw [hx];simp;omega);have hb:Cu s (out0++ [t0]) (a:Int)=some (.inl (out0++ [Bj.mk t0.Back t0.Size (t0.Text++s.extract a (a+1))],((a+1:Nat):Int))):=by
      simp only [Cu];rw [BM,Ad (by omega),Af,h1];simp only [Aa];rw [show decide ((((0:Nat):Int))>0)=false from rfl,Ac,ad1 (by omega),f,k,Ad (by omega),Af,m];simp only [Aa];rw [show(t0.Back==0)=true by simpa using hm.1,Af,BM,Ad (by omega)];simp only [Aa,Af];rw [o];simp only [Aa];rw [Ja]
     have hX:L (t0.Text++s.extract a (a+1))=L t0.Text++ [(L s)[a]]:=by rw [DG,hx]
     obtain⟨l,f1,f2⟩:=Sk s hs n (a+1) (out0++ [Bj.mk t0.Back t0.Size (t0.Text++s.extract a (a+1))]) (by omega) (by omega) (by simp at h⊢;omega) (aK ok0 (by
      rcases okt0 with⟨k1,k2,k3,k4⟩|⟨k1,_⟩
      ·exact .inl ⟨k1,k2,by rw [hX];simp,by rw [hX];simp;omega⟩
      ·omega)) (by
      rw [N5]at d⊢;unfold TS at d⊢;rw [Aw hm.1]at d⊢
      rw [hX,<-Ao,d,Aq i])
     refine⟨l,?_,f2⟩;rw [AA];simp only [hb];exact f1
    have hb:Cu s (out0++ [t0]) (a:Int)=some (.inl (out0++ [t0]++ [Bj.mk 0 0 (s.extract a (a+1))],((a+1:Nat):Int))):=by
     simp only [Cu];rw [BM,Ad (by omega),Af,h1];simp only [Aa];rw [show decide ((((0:Nat):Int))>0)=false from rfl,Ac,ad1 (by omega),f,k,Ad (by omega),Af,m];simp only [Aa];have hj:(bif t0.Back==0 then some (decide (Gb t0.Text<31))else some false:Option Bool)=some false:=by
      by_cases e0:t0.Back=0
      ·rw [show(t0.Back==0)=true by simpa using e0,Af,BM,Ae (by
       intro hh;exact hm ⟨e0,by omega⟩)]
      rw [show(t0.Back==0)=false by simpa using e0];rfl
     rw [hj];simp only [Aa,Ac];rw [Ct (by simp at h⊢;omega)];rfl
    obtain⟨l,f1,f2⟩:=fresh;refine⟨l,?_,f2⟩;rw [AA];simp only [hb];exact f1
   have hb:Cu s c (a:Int)=some (.inl (c++ [Bj.mk (b:Int) (z:Int) (bs [])],((a+z:Nat):Int))):=by
    simp only [Cu];rw [BM,Ad (by omega),Af,h1];simp only [Aa];rw [Ad (by omega),Af,Ct (by simp;omega),C6 (by omega) (by omega)];simp only [Aa];congr 3
   obtain⟨l,f1,f2⟩:=Sk s hs n (a+z) (c++ [Bj.mk (b:Int) (z:Int) (bs [])]) (by omega) h3 (by simp;omega) (aK g (.inr ⟨by simp;omega,by rw [d,j];simp;omega,by simp;omega,by simp;omega,El _⟩)) (by
    rw [N5];unfold TS;rw [Ax (by simp;omega),d];simp only [Bc]
    exact Zl (L s) z a b h3 h5 h6 h7)
   refine⟨l,?_,f2⟩;rw [AA];simp only [hb];exact f1
  have ea:a=(L s).length:=by omega
  refine⟨c,?_,g,by rw [d,ea,AP],by omega⟩;rw [AA];have hb:Cu s c (a:Int)=some (.inr c):=by
   simp only [Cu];rw [BM,Ae (by omega),Ac]
  simp only [hb]
theorem sF (s:ByteArray) (hs:(L s).length<=64):∃l,Ki s=some l/\qG l/\ER l=L s/\l.length<=64:=by
 obtain⟨l,h1,h2⟩:=Sk s hs (L s).length 0 [] (by omega) (by omega) (by simp) (λi t h=>by simp at h) (by simp [ER]);refine⟨l,?_,h2⟩;unfold Ki;rw [BM,Ae (by omega),Ac];have h1':Au (λq:List Bj×Int=>Cu s q.1 q.2) ([],0)=some l:=h1;rw [h1'];rfl
end Go.TI
