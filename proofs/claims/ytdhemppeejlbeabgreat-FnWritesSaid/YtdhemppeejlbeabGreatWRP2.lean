/- What is planned for a drawn device is written. No condition; no program is in sight. -/
import Derived.Test.YtdhemppeejlbeabGreatWRP1
set_option linter.unusedVariables false
set_option linter.unusedSimpArgs false
namespace Go.TI
open Go
theorem NY (n:Int) (h0:0<=n) (h1:n<=1000000000):∃s,Hm n=some s/\Ek n=some s/\(L s).length<=1000000001:=by
 obtain⟨m,rfl⟩:=C1 h0;obtain⟨s,h2,h3⟩:=IB m (by omega);refine⟨s,h2,?_,by rw [h3];have:=iA m;omega⟩;unfold Ek UX;rw [cX,Aa,Ad (by omega)];simp only [Ai,Ab];unfold Hm at h2
 have e:(λs:Int×List Int=>Pp s.1 s.2)=λs:Int×List Int=>HY s.1 s.2:=rfl
 rw [e]
 cases hl:Au (λs:Int×List Int=>HY s.1 s.2) ((m:Int),[])with
 |none=>
  have h2':((Au (λs:Int×List Int=>HY s.1 s.2) ((m:Int),[])).bind λv1=>(ap 1 v1.2 [(IntKind.u8.wrap v1.1)]).bind λq2=>some (EG q2))=some s:=h2;rw [hl]at h2';cases h2'
 |some v=>
  have h2':((Au (λs:Int×List Int=>HY s.1 s.2) ((m:Int),[])).bind λv1=>(ap 1 v1.2 [(IntKind.u8.wrap v1.1)]).bind λq2=>some (EG q2))=some s:=h2;rw [hl]at h2';simp only [Aa]at h2'⊢
  cases ha:ap 1 v.2 [IntKind.u8.wrap v.1]with
  |none=>rw [ha]at h2';cases h2'
  |some q=>
   rw [ha]at h2';simp only [Aa,An]at h2'⊢;exact h2'
theorem Qg (n:Int):(L (EG [n])).length=1:=by rw [Jw];rfl
theorem Re (a b:ByteArray) (h:(L a).length+(L b).length<=9223372036854775807):∃c,HO a b=some c/\(L c).length=(L a).length+(L b).length:=⟨_,FE a b h,by rw [DC,Ag]⟩
theorem iV (p:Page):∃t ok,Ez p=some (t,ok)/\Py p=some (t,ok):=by
 obtain⟨v,h1,h2,h3⟩:=RR p;unfold Ez Py;rw [h1,h2];simp only [Aa]
 cases v with
 |false=>exact⟨_,_,rfl,rfl⟩
 |true=>
  obtain⟨_,k2,k3,k4,k5,k6⟩:=h3 rfl;rw [BH]at k6;obtain⟨a,a1,a2,a3⟩:=NY p.Seq (by omega) (by omega);obtain⟨b,b1,b2,b3⟩:=NY p.Tx (by omega) (by omega);obtain⟨c,c1,c2,c3⟩:=NY p.Part (by omega) (by omega);obtain⟨d,d1,d2,d3⟩:=NY p.Count (by omega) (by omega);have e0:J4 p.Kind=some (EG [IntKind.u8.wrap p.Kind]):=rfl;have e00:=Qg (IntKind.u8.wrap p.Kind);simp only [Ai,Ab,a1,a2,b1,b2,c1,c2,d1,d2,e0,Aa];obtain⟨x1,y1,z1⟩:=Re (EG [IntKind.u8.wrap p.Kind]) a (by omega);rw [y1];simp only [Aa];obtain⟨x2,y2,z2⟩:=Re x1 b (by omega);rw [y2];simp only [Aa];obtain⟨x3,y3,z3⟩:=Re x2 c (by omega);rw [y3];simp only [Aa];obtain⟨x4,y4,z4⟩:=Re x3 d (by omega);rw [y4];simp only [Aa];obtain⟨x5,y5,z5⟩:=Re x4 p.Text (by omega);rw [y5];simp only [Aa];rw [aR];obtain⟨q1,q2⟩:=RQ x5;by_cases hl:(L x5).length<=20000
  ·obtain⟨w,_,q3⟩:=q2 hl;rw [q3];exact⟨_,_,rfl,rfl⟩
  rw [q1 (by omega)];exact⟨_,_,rfl,rfl⟩
theorem Yw (r:De):∃v,Nw r=some v/\Pu r=some v/\(v=true->(0<=r.Arg/\r.Arg<=1000000000)/\(0<=r.Chunk/\r.Chunk<=1000000000)):=by
 cases r with
 |mk kind vol arg chunk=>
 unfold Nw Pu;simp only [gK,cX,Aa,LB];refine⟨_,rfl,?_,?_⟩
 ·congr 1;rw [DR];by_cases h1:kind=1
  ·subst h1;by_cases ha:0<=arg/\arg<=1000000000<;>by_cases hv:vol=0<;>by_cases hc:chunk=0<;>simp [ha,hv,hc]
  have e1:(kind==1)=false:=by simpa using h1
  simp only [e1,Ab];by_cases ha:0<=arg/\arg<=1000000000
  ·by_cases hk:kind=2\/kind=3\/kind=4\/kind=5
   ·rcases hk with rfl|rfl|rfl|rfl<;>by_cases hv:1<=vol/\vol<=9<;>by_cases hc:chunk=0<;>simp [ha,hv,hc,bne]<;>omega
   have e2:¬(2<=kind/\kind<=5):=by omega
   have k2:(kind==2)=false:=by simp;omega
   have k3:(kind==3)=false:=by simp;omega
   have k4:(kind==4)=false:=by simp;omega
   have k5:(kind==5)=false:=by simp;omega
   by_cases hv:1<=vol/\vol<=9<;>by_cases hc:chunk=0<;>simp [ha,hv,hc,e2,k2,k3,k4,k5,bne]
  have e3:decide (0<=arg/\arg<=1000000000)=false:=Af ha;rw [e3];by_cases hk:kind=2\/kind=3\/kind=4\/kind=5
  ·rcases hk with rfl|rfl|rfl|rfl<;>by_cases hv:1<=vol/\vol<=9<;>by_cases hc:chunk=0<;>simp [hv,hc,bne]<;>omega
  have k2:(kind==2)=false:=by simp;omega
  have k3:(kind==3)=false:=by simp;omega
  have k4:(kind==4)=false:=by simp;omega
  have k5:(kind==5)=false:=by simp;omega
  by_cases hv:1<=vol/\vol<=9<;>by_cases hc:chunk=0<;>simp [hv,hc,k2,k3,k4,k5,bne]
 by_cases ha:0<=arg/\arg<=1000000000
 ·refine λh=>⟨ha,?_⟩
  by_cases hc:chunk=0
  ·omega
  have ec:(chunk==0)=false:=by simpa using hc
  by_cases h1:kind=1
  ·subst h1;by_cases hv:vol=0<;>simp [ha,hv,ec]at h
  have e1:(kind==1)=false:=by simpa using h1
  by_cases h4:kind=4
  ·subst h4;by_cases hv:1<=vol/\vol<=9<;>simp [ha,hv,bne]at h;omega
  have e4:(kind==4)=false:=by simpa using h4
  by_cases hk:2<=kind/\kind<=5<;>by_cases hv:1<=vol/\vol<=9<;>simp [ha,hv,hk,e1,e4,ec,bne]at h
 intro h;rw [Af ha]at h;simp at h
theorem mF (r:De):∃t ok,Mt r=some (t,ok)/\RA r=some (t,ok)/\(L t).length<=3000000000:=by
 obtain⟨v,h1,h2,h3⟩:=Yw r;unfold Mt RA;rw [h1,h2];simp only [Aa]
 cases v with
 |false=>exact⟨_,_,rfl,rfl,by rw [DV];simp⟩
 |true=>
  obtain⟨k1,k2⟩:=h3 rfl;obtain⟨a,a1,a2,a3⟩:=NY r.Arg (by omega) (by omega);obtain⟨b,b1,b2,b3⟩:=NY r.Chunk (by omega) (by omega);have e0:J4 (ad (ml 16 r.Kind) r.Vol)=some (EG [IntKind.u8.wrap (ad (ml 16 r.Kind) r.Vol)]):=rfl;have e00:=Qg (IntKind.u8.wrap (ad (ml 16 r.Kind) r.Vol));simp only [Ai,Ab,a1,a2,b1,b2,e0,Aa];obtain⟨x1,y1,z1⟩:=Re (EG [IntKind.u8.wrap (ad (ml 16 r.Kind) r.Vol)]) a (by omega);rw [y1];simp only [Aa];obtain⟨x2,y2,z2⟩:=Re x1 b (by omega);rw [y2];simp only [Aa];exact⟨_,_,rfl,rfl,by omega⟩
theorem yT (t:ByteArray) (h:(L t).length<=3000000000):HO (bs []) t=some t:=by
 rw [FE _ _ (by rw [DV];simp;omega)];have:bs []++t=t:=by
  apply Iw;rw [DC,DV,A6]
 rw [this]
def ABT (l:List ByteArray):Prop:=∀t∈l,(L t).length<=3000000000
theorem mA (a:List De) (hr:a.length<=16777216*2):∃v:List ByteArray⊕(List Page×Bool),Au (λs:List ByteArray×Int=>Ec a s.1 s.2) ([(bs [])],0)=some v/\Au (λs:List ByteArray×Int=>IF a s.1 s.2) ([(bs [])],0)=some v/\((∃l,v= .inl l/\l.length<=16777216*2+1)\/v= .inr ([],false)):=by
 refine MS (body:=λs:List ByteArray×Int=>Ec a s.1 s.2) (body':=λs:List ByteArray×Int=>IF a s.1 s.2) (λ(l:List ByteArray) i=>(l,i)) a.length (λi l=>1<=l.length/\l.length<=i+1/\ABT l) _
  (λl i hi hl=>?_) (λl hl=>?_) (s:=[(bs [])]) ⟨by simp,by simp,λt ht=>by rw [Aw.1 ht,DV];simp⟩
 ·obtain⟨l1,l2,l3⟩:=hl;have hg:a[i]?=some a[i]:=Ac hi;obtain⟨t,ok,t1,t2,t3⟩:=mF a[i];simp only [Ec,IF,AC,Ad hi,Ae,A9,hg,Aa,t1,t2]
  cases ok with
  |false=>exact⟨rfl,.inr ⟨_,rfl,.inr rfl⟩⟩
  |true=>
   simp only [Ai,Ab]
   have b:l≠ []:=λe=>by rw [e]at l1;simp at l1
   obtain⟨p,m,rfl⟩:∃p m,l=p++ [m]:=⟨l.dropLast,l.getLast b,(List.dropLast_concat_getLast b).symm⟩;rw [Ag,Ak]at l1 l2;have hm:(L m).length<=3000000000:=l3 m (by simp);have ei:sb (ln (p++ [m])) 1=((p.length:Nat):Int):=by
    have:ln (p++ [m])=((p.length+1:Nat):Int):=by simp [ln]
    rw [this,Cw (by omega) (by omega)];omega
   have g1:=dM p m []
   have g2:=λy=>bH p m y []
   rw [ei,g1];simp only [Aa];rw [BH,BH,CA (by omega) (by omega)];by_cases hc:((L m).length:Int)+((L t).length:Int)>90
   ·rw [Ad hc];simp only [Ae];rw [Cn (by simp only [Ag,Ak];omega),Cn (by simp only [Ag,Ak];omega)];simp only [Aa];rw [ad1 (by omega)];have h3:=dM (p++ [m]) (bs []) [];have h4:=bH (p++ [m]) (bs []) t [];rw [Ag,Ak]at h3 h4;rw [h3];simp only [Aa];rw [yT t t3];simp only [Aa];rw [h4,ad1 (by omega)];refine⟨by first|rfl|trivial,.inl ⟨_,rfl,?_⟩⟩;refine⟨by simp,by simp only [Ag,Ak];omega,λx hx=>?_⟩
    rcases Aj.1 hx with hx|hx
    ·exact l3 x hx
    rw [Aw.1 hx];exact t3
   rw [Af hc];simp only [Ab,Aa];rw [g1];simp only [Aa];obtain⟨c,c1,c2⟩:=Re m t (by omega);rw [c1];simp only [Aa];rw [g2,ad1 (by omega)];refine⟨by first|rfl|trivial,.inl ⟨_,rfl,?_⟩⟩;refine⟨by simp,by simp only [Ag,Ak,A0,Bn];omega,λx hx=>?_⟩
   rcases Aj.1 hx with hx|hx
   ·exact l3 x (by simp [hx])
   rw [Aw.1 hx];omega
 obtain⟨l1,l2,l3⟩:=hl;refine⟨by simp only [Ec,IF,AC,Ao,Aq,Ab],.inl l,by simp only [Ec,AC,Ao,Aq,Ab],.inl ⟨l,rfl,by omega⟩⟩
theorem Ys (seq tx:Int) (a:List De) (hr:a.length<=16777216*2):∃pages ok,I3 seq tx a=some (pages,ok)/\Ov seq tx a=some (pages,ok)/\pages.length<=9:=by
 obtain⟨v,h1,h2,h3⟩:=mA a hr;unfold I3 Ov;rw [h1,h2]
 rcases h3 with⟨l,rfl,hl⟩|rfl
 ·simp only [Aa,By,gK,cX,LB]
  cases hb:(bif decide (ln l>9)then true else bif !decide (1<=seq/\seq<=ad (sb 1000000000 (ln l)) 1)then true else !decide (1<=tx/\tx<=1000000000))with
  |true=>exact⟨[],false,by simp only [Ae],by simp only [Ae],by simp⟩
  |false=>
   simp only [Ab];have h9:l.length<=9:=by
    by_cases hc:ln l>9
    ·rw [Ad hc]at hb;cases hb
    rw [BG]at hc;omega
   obtain⟨u,u1,u2,u3⟩:=QG (body:=λs:List Page×Int=>EW seq tx l s.1 s.2) (body':=λs:List Page×Int=>Kj seq tx l s.1 s.2) (λ(o:List Page) i=>(o,i)) (λ(o:List Page) i=>(o,i)) l.length (λi o=>o.length=i) (λo=>o.length<=9)
    (λo i hi ho=>by
     have hg:l[i]?=some l[i]:=Ac hi;simp only [EW,Kj,AC,Ad hi,Ae,A9,hg,Aa];rw [Cn (by simp only [Ak];omega),ad1 (by omega)]
     exact .inl ⟨_,rfl,rfl,by simp only [Ag,Ak];omega⟩)
    (λo ho=>⟨o,by simp only [EW,AC,Ao,Aq,Ab],by simp only [Kj,AC,Ao,Aq,Ab],by omega⟩) (s:=[]) rfl
   rw [u1,u2];exact⟨u,true,rfl,rfl,u3⟩
 exact⟨[],false,rfl,rfl,by simp⟩
def nb (l:List Leaf):Nat:=(l.map Ot).sum
theorem nV (l:List Leaf) (i:Nat) (h:i<l.length):nb (l.take (i+1))=nb (l.take i)+Ot l[i]:=by
 unfold nb;rw [Av h,Cq,List.sum_append];simp
theorem tK (l:List Leaf) (i:Nat) (h:i<=l.length):nb (l.take i)<=i:=by
 have:=u7 (l.take i);rw [AH]at this;unfold nb;omega
theorem Wy (x:Leaf):Ot x=if(x.Is==0)=true then 1 else 0:=by
 unfold Ot;cases x.Is==0<;>rfl
theorem X1 {x:Block} (f:Flash) (i:Nat) (hx:f.Blocks[i]?=some x) (hl:x.Leaves.length<=1048576):Au (λs:Int×Int×Int=>GC f (i:Int) s.1 s.2.1 s.2.2) (0,0,0)=some ((nb x.Leaves:Int),((x.Leaves.length-nb x.Leaves:Nat):Int)):=by
 obtain⟨b,h1,rfl⟩:=Bg (body:=λs:Int×Int×Int=>GC f (i:Int) s.1 s.2.1 s.2.2) (λ(s:Int×Int) k=>(s.1,s.2,k)) x.Leaves.length (λk s=>s=((nb (x.Leaves.take k):Int),((k-nb (x.Leaves.take k):Nat):Int))) (λs=>s=((nb x.Leaves:Int),((x.Leaves.length-nb x.Leaves:Nat):Int)))
  (λs k hk hs=>by
   subst hs;have hg:x.Leaves[k]?=some x.Leaves[k]:=Ac hk;have c:=tK x.Leaves k (by omega);have a:=nV x.Leaves k hk;rw [Wy]at a;refine .inl ?_;simp only [GC,A9,hx,Aa,AC,Ad hk,Ae,hg]
   cases hb:x.Leaves[k].Is==0 with
   |true=>
    rw [hb]at a;simp only [Ae];rw [CA (by omega) (by omega),ad1 (by omega)];refine⟨(((nb (x.Leaves.take k):Nat):Int)+1,((k-nb (x.Leaves.take k):Nat):Int)),rfl,?_⟩;simp only [BW]at a;rw [a];congr 1;congr 1;omega
   |false=>
    rw [hb]at a;simp only [Ab];rw [CA (by omega) (by omega),ad1 (by omega)];refine⟨(((nb (x.Leaves.take k):Nat):Int),((k-nb (x.Leaves.take k):Nat):Int)+1),rfl,?_⟩;simp only [BQ,Gp]at a;rw [a];congr 1
    omega)
  (λs hs=>⟨_,by simp only [GC,A9,hx,Aa,AC,Ao,Aq,Ab];rfl,by rw [hs,AN]⟩) (s:=(0,0)) (by simp [nb])
 exact h1
theorem eB (f:Flash) (h:LN f):∃v:Int,JB f=some v/\N8 f=some v/\v<f.Blocks.length:=by
 unfold JB N8;obtain⟨g,c⟩:=h;obtain⟨b,h1,h2,h3⟩:=MS (body:=λs:Int=>DN f s) (body':=λs:Int=>Iq f s) (λ(_:Unit) i=>i) f.Blocks.length (λ_ _=>True) (λb=>b= .inl ()\/∃i:Nat,b= .inr (i:Int)/\i<f.Blocks.length)
  (λ_ i hi _=>by
   have hg:f.Blocks[i]?=some f.Blocks[i]:=Ac hi;have hl:=c _ (AE hi);have a:=Vk f.Blocks[i] hl;have d:=tK f.Blocks[i].Leaves f.Blocks[i].Leaves.length (A4 _);rw [AN]at d;have e:((f.Blocks[i].Leaves.map Ot).sum:Int)=((nb f.Blocks[i].Leaves:Nat):Int):=rfl;rw [e]at a;simp only [DN,Iq,AC,Ad hi,Ae];rw [X1 f i hg hl];simp only [Aa,A9,hg,a];rw [ad1 (by omega)];have ed:decide (((f.Blocks[i].Leaves.length-nb f.Blocks[i].Leaves:Nat):Int)>0)=decide (((nb f.Blocks[i].Leaves:Nat):Int)<ln f.Blocks[i].Leaves):=by
    rw [BG,DR,A5,A5];omega
   rw [ed];refine⟨rfl,?_⟩;simp only [LB,Aa]
   cases(bif !f.Blocks[i].Bad then bif decide (((nb f.Blocks[i].Leaves:Nat):Int)>0)then decide (((nb f.Blocks[i].Leaves:Nat):Int)<ln f.Blocks[i].Leaves)else false else false)with
   |true=>exact .inr ⟨_,rfl,.inr ⟨i,rfl,hi⟩⟩
   |false=>exact .inl ⟨(),rfl,trivial⟩)
  (λ_ _=>⟨by simp only [DN,Iq,AC,Ao,Aq,Ab],.inl (),by simp only [DN,AC,Ao,Aq,Ab],.inl rfl⟩) (s:=()) trivial
 rw [h1,h2]
 rcases h3 with rfl|⟨i,rfl,hi⟩
 ·exact⟨-1,rfl,rfl,by omega⟩
 exact⟨(i:Int),rfl,rfl,by omega⟩
def MU (f:Flash) (i:Nat):Bool:=match f.Blocks[i]? with
 |some x=>!x.Bad&&decide (nb x.Leaves=x.Leaves.length)
 |none=>false
theorem uK {x:Block} (f:Flash) (i:Nat) (hx:f.Blocks[i]?=some x) (hl:x.Leaves.length<=1048576):Au (λs:Bool×Int=>FM f (i:Int) s.1 s.2) (!x.Bad,0)=some (MU f i):=by
 obtain⟨b,h1,rfl⟩:=Bg (body:=λs:Bool×Int=>FM f (i:Int) s.1 s.2) (λ(s:Bool) k=>(s,k)) x.Leaves.length (λk s=>s=(!x.Bad&&decide (nb (x.Leaves.take k)=k))) (λs=>s=MU f i)
  (λs k hk hs=>by
   have hg:x.Leaves[k]?=some x.Leaves[k]:=Ac hk;have c:=tK x.Leaves k (by omega);have a:=nV x.Leaves k hk;rw [Wy]at a;refine .inl ?_;simp only [FM,A9,hx,Aa,AC,Ad hk,Ae,hg];rw [ad1 (by omega)]
   cases s with
   |true=>
    simp only [Ae];refine⟨_,rfl,?_⟩;have hs':=hs.symm;simp only [Al,A5]at hs';rw [hs'.1,CC,a,hs'.2];cases hb:x.Leaves[k].Is==0<;>simp
   |false=>
    simp only [Ab];refine⟨_,rfl,?_⟩;have hs':=hs.symm;rw [Em]at hs';symm;rw [Em]
    rcases hs' with q|q
    ·exact .inl q
    refine .inr (Af ?_);have:=of_decide_eq_false q
    split at a<;>omega)
  (λs hs=>⟨_,by simp only [FM,A9,hx,Aa,AC,Ao,Aq,Ab];rfl,by rw [hs,AN];simp only [MU,hx]⟩) (s:=!x.Bad) (by simp [nb])
 exact h1
def Ox (f:Flash):List Int:=((List.range f.Blocks.length).filter (MU f)).map (λ(i:Nat)=>(i:Int))
theorem Sr (f:Flash) (h:LN f):Me f=some (Ox f)/\Mk f=some (Ox f):=by
 obtain⟨c,a⟩:=h;constructor
 ·unfold Me
  rw [aD (body:=λs:List Int×Int=>Ho f s.1 s.2) 8 f.Blocks.length (MU f) (λ(i:Nat)=>(i:Int)) (by omega) (by omega)
   (λu i hi=>by
    have hg:f.Blocks[i]?=some f.Blocks[i]:=Ac hi;simp only [Ho,AC,Ad hi,Ae,A9,hg,Aa];rw [uK f i hg (a _ (AE hi))]
    simp only [Aa])
   (λu=>by simp only [Ho,AC,Ao,Aq,Ab])]
  rfl
 unfold Mk
 rw [aD (body:=λs:List Int×Int=>Ht f s.1 s.2) 8 f.Blocks.length (MU f) (λ(i:Nat)=>(i:Int)) (by omega) (by omega)
  (λu i hi=>by
   have hg:f.Blocks[i]?=some f.Blocks[i]:=Ac hi;have b:=Vk f.Blocks[i] (a _ (AE hi));have e:((f.Blocks[i].Leaves.map Ot).sum:Int)=((nb f.Blocks[i].Leaves:Nat):Int):=rfl;rw [e]at b;have ed:(((nb f.Blocks[i].Leaves:Nat):Int)==ln f.Blocks[i].Leaves)=decide (nb f.Blocks[i].Leaves=f.Blocks[i].Leaves.length):=by
    rw [BG,DR,A5,Dt];omega
   simp only [Ht,AC,Ad hi,Ae,A9,hg,Aa,b,ed,MU]
   cases f.Blocks[i].Bad<;>simp)
  (λu=>by simp only [Ht,AC,Ao,Aq,Ab])]
 rfl
variable {f:Flash} {r r' m:List A8} {t:Int} {y:A8} {α β:Type} {b:Block} {k i n:Nat} {s:Store} {d:Bc} {texts:List ByteArray} {x:Leaf} {l:List α}
theorem qF {x:Int} (h:x∈Ox f):0<=x/\x<f.Blocks.length:=by
 unfold Ox at h;obtain⟨i,hi,rfl⟩:=AJ.1 h;have:=GU.1 (AT.1 hi).1;omega
theorem mI (f:Flash) (h:LN f):∃b l:Int,∃ok:Bool,KG f=some (b,l,ok)/\RD f=some (b,l,ok)/\0<=b:=by
 obtain⟨e,a⟩:=h;obtain⟨v,v1,_⟩:=ST f ⟨e,a⟩;obtain⟨o,o1,o2,o3⟩:=eB f ⟨e,a⟩;obtain⟨e1,e2⟩:=Sr f ⟨e,a⟩;unfold KG RD;rw [P5,v1,o1,o2,e1,e2];simp only [Aa]
 cases v with
 |false=>exact⟨0,0,false,rfl,rfl,by omega⟩
 |true=>
  simp only [Ai,Ab];by_cases ho:o>=0
  ·rw [Ad ho];simp only [Ae];rw [K2 ho o3,Ue];simp only [Aa];obtain⟨n,n1,_⟩:=Up (f.Blocks[o.toNat]'(by omega)) (a _ (AE _));rw [n1];exact⟨o,n,true,rfl,rfl,ho⟩
  rw [Af ho];simp only [Ab];have g:(Ox f).length<=1048576:=by
   unfold Ox;rw [Be];have:=CM (MU f) (List.range f.Blocks.length);rw [Ca]at this;omega
  cases j:Ox f with
  |nil=>
   refine⟨0,0,false,rfl,?_,by omega⟩;rw [A7];rfl
  |cons x l=>
   have d:∀y∈x::l,0<=y/\y<f.Blocks.length:=λy hy=>qF (by rw [j];exact hy)
   have m:(ln (x::l)==0)=false:=by simp [ln];omega
   rw [j]at g;rw [m];simp only [Ab];have k:gi (x::l) 0=some x:=A9 (i:=0);rw [k];simp only [Aa];obtain⟨w,w1,w2,w3⟩:=UP (body:=λs:Int×Int=>EY f (x::l) s.1 s.2) (body':=λs:Int×Int=>Gg f (x::l) s.1 s.2) (λ(b:Int) i=>(b,i)) (x::l).length (λ_ b=>0<=b/\b<f.Blocks.length) (λb=>0<=b)
    (λb i hi hb=>by
     have hg:(x::l)[i]?=some (x::l)[i]:=Ac hi;obtain⟨m1,m2⟩:=d _ (AE hi);simp only [EY,Gg,AC,Ad hi,Ae,A9,hg,Aa];rw [K2 m1 m2,K2 hb.1 hb.2,Af (by omega:¬b<0),ad1 (by omega)];simp only [Aa,Ab];refine⟨by first|rfl|trivial,?_⟩
     cases decide ((f.Blocks[((x::l)[i]).toNat]'(by omega)).Wear<(f.Blocks[b.toNat]'(by omega)).Wear)with
     |true=>exact .inl ⟨_,rfl,m1,m2⟩
     |false=>exact .inl ⟨_,rfl,hb⟩)
    (λb hb=>⟨by simp only [EY,Gg,AC,Ao,Aq,Ab],b,by simp only [EY,AC,Ao,Aq,Ab],hb.1⟩) l.length 1 x (by simp;omega) (d x (by simp))
   have e1':((1:Nat):Int)=1:=rfl;rw [e1']at w1 w2;rw [w1];have c:Au (λs:Int×Int=>Gg f (x::l) s.1 s.2) (-1,0)=some w:=by
    rw [A7];have hb:Gg f (x::l) (-1) 0=some (.inl (x,1)):=by
     have p:decide ((0:Int)<ln (x::l))=true:=Ad (by simp [ln]);simp only [Gg,p,Ae,k,Aa];rfl
    simp only [hb];exact w2
   rw [c];simp only [Aa];rw [Af (by omega:¬w<0)];exact⟨w,0,true,rfl,rfl,w3⟩
theorem sP (f:Flash) (h:LN f) (steps:List Bu) (hs:steps.length<=1000) (p:Page):∃(g:Flash) (st:List Bu) (ok:Bool),Hl f steps p=some (g,st,ok)/\Hs (LY.mk f steps) p (-1)=some (ok,LY.mk g st)/\LN g/\st.length<=steps.length+1:=by
 obtain⟨t,ok,t1,t2⟩:=iV p;obtain⟨b,l,room,p1,p2,p3⟩:=mI f h;unfold Hl Hs;rw [t1,t2,p1,p2];simp only [Aa];have eb:(b== -1)=false:=by simp;omega
 rw [eb]
 cases ok with
 |false=>exact⟨f,steps,false,rfl,rfl,h,by omega⟩
 |true=>
  cases room with
  |false=>exact⟨f,steps,false,rfl,rfl,h,by omega⟩
  |true=>
   obtain⟨g,v,g1,g2,g3⟩:=aW f (Bu.mk 1 b l t) h;simp only [Ai,Ab,Aa,g1,g2];rw [Cn (by simp only [Ak];omega)];refine⟨g,_,v,rfl,rfl,?_,by simp⟩
   rcases g3 with⟨_,rfl⟩|⟨_,g3⟩
   ·exact h
   exact g3.cap
theorem AAH (pages:List Page) (r:Bool) (hp:pages.length<=9) (bl:List Block) (st:List Bu):∀(n i:Nat),i+n=pages.length->Au (λs:Bool×Int×List Block×List Bu=>CD (pages,r) s.1 s.2.1 s.2.2.1 s.2.2.2) (false,(i:Int),bl,st)=some (false,bl,st)
 |0,i,h=>by
  have:i=pages.length:=by omega
  subst this;rw [A7];simp only [CD,AC,Ao,Aq,Ab]
 |n+1,i,h=>by
  have hi:i<pages.length:=by omega
  have hg:pages[i]?=some pages[i]:=Ac hi;have hb:CD (pages,r) false (i:Int) bl st=some (.inl (false,((i+1:Nat):Int),bl,st)):=by
   simp only [CD,AC,Ad hi,Ae,A9,hg,Aa,Ab];rw [ad1 (by omega)]
  rw [A7];simp only [hb];exact AAH pages r hp bl st n (i+1) (by omega)
theorem W9 (pages:List Page) (r:Bool) (hp:pages.length<=9):∀(n i:Nat) (bl:List Block) (st:List Bu) (ok:Bool),i+n=pages.length->LN (Flash.mk bl)->st.length<=i+1->∃(st':List Bu) (bl':List Block) (ok':Bool),
  Au (λs:List Bu×Bool×Int×List Block=>Ci (pages,r) s.1 s.2.1 s.2.2.1 s.2.2.2) (st,ok,(i:Int),bl)=some (st',ok')/\
  Au (λs:Bool×Int×List Block×List Bu=>CD (pages,r) s.1 s.2.1 s.2.2.1 s.2.2.2) (ok,(i:Int),bl,st)=some (ok',bl',st')/\st'.length<=pages.length+1
 |n,i,bl,st,false,h,hc,hs=>by
  refine⟨st,bl,false,?_,AAH pages r hp bl st n i h,by omega⟩;rw [A7];simp only [Ci,LB,Aa];have:(bif decide ((i:Int)<ln (pages,r).1)then false else false)=false:=by cases decide ((i:Int)<ln (pages,r).1)<;>rfl
  rw [this];rfl
 |0,i,bl,st,true,h,hc,hs=>by
  have:i=pages.length:=by omega
  subst this;refine⟨st,bl,true,?_,?_,by omega⟩
  ·rw [A7];simp only [Ci,AC,Ao,Aq,Ab,Aa]
  rw [A7];simp only [CD,AC,Ao,Aq,Ab]
 |n+1,i,bl,st,true,h,hc,hs=>by
  have hi:i<pages.length:=by omega
  have hg:pages[i]?=some pages[i]:=Ac hi;obtain⟨g,st1,ok1,w1,w2,w3,w4⟩:=sP (Flash.mk bl) hc st (by omega) pages[i];have a:Ci (pages,r) st true (i:Int) bl=some (.inl (st1,ok1,((i+1:Nat):Int),g.Blocks)):=by
   simp only [Ci,AC,Ad hi,Ae,A9,hg,Aa,w1];rw [ad1 (by omega)]
  have b:CD (pages,r) true (i:Int) bl st=some (.inl (ok1,((i+1:Nat):Int),g.Blocks,st1)):=by
   simp only [CD,AC,Ad hi,Ae,A9,hg,Aa,w2];rw [ad1 (by omega)]
  obtain⟨st',bl',ok',q1,q2,q3⟩:=W9 pages r hp n (i+1) g.Blocks st1 ok1 (by omega) w3 (by omega);refine⟨st',bl',ok',?_,?_,q3⟩
  ·rw [A7];simp only [a];exact q1
  rw [A7];simp only [b];exact q2
theorem Zh (d:Bc) (hc:LN d.Flash) (a:List De) (hr:a.length<=16777216*2) (b:ByteArray):∃(st:List Bu) (ok:Bool),D4 d a b=some (st,ok)/\Mi d a b=some (st,ok)/\st.length<=100:=by
 unfold D4 Mi
 cases hz:ln a==0 with
 |true=>exact⟨[],true,rfl,rfl,by simp⟩
 |false=>
  simp only [Ab];have hl:1<=a.length:=by
   have:¬ln a=0:=by simpa using hz
   rw [BG]at this;omega
  have e:∀(seq:Int) (bl:List Block) (st:List Bu),LN (Flash.mk bl)->st.length<=1->∃(st':List Bu) (ok':Bool),((I3 seq d.Tx a).bind λv2=>
    (Au (λs:List Bu×Bool×Int×List Block=>Ci v2 s.1 s.2.1 s.2.2.1 s.2.2.2) (st,true,0,bl)).bind λv4=>
    (bif(!v4.2)then(some true)else(some (!v2.2)):Option (Bool)).bind λj5=>bif j5 then(some ([],false))else(some (v4.1,true)))=some (st',ok')/\
    ((Ov seq d.Tx a).bind λv2=>
    (Au (λs:Bool×Int×List Block×List Bu=>CD v2 s.1 s.2.1 s.2.2.1 s.2.2.2) (v2.2,0,bl,st)).bind λv4=>
    bif(!v4.1)then(some ([],false))else(some (v4.2.2,true)))=some (st',ok')/\st'.length<=100:=by
   intro seq bl st f h;obtain⟨pages,right,p1,p2,p3⟩:=Ys seq d.Tx a hr;rw [p1,p2];simp only [Aa];obtain⟨st',bl',ok',q1,q2,q3⟩:=W9 pages right p3 pages.length 0 bl st true (by omega) f (by omega);have q1':Au (λs:List Bu×Bool×Int×List Block=>Ci (pages,right) s.1 s.2.1 s.2.2.1 s.2.2.2) (st,true,0,bl)=some (st',ok'):=q1;rw [q1']
   cases right with
   |false=>
    have:=AAH pages false p3 bl st pages.length 0 (by omega);have q4:Au (λs:Bool×Int×List Block×List Bu=>CD (pages,false) s.1 s.2.1 s.2.2.1 s.2.2.2) (false,0,bl,st)=some (false,bl,st):=this;rw [q4];refine⟨[],false,?_,rfl,by simp⟩;cases ok'<;>rfl
   |true=>
    have q2':Au (λs:Bool×Int×List Block×List Bu=>CD (pages,true) s.1 s.2.1 s.2.2.1 s.2.2.2) (true,0,bl,st)=some (ok',bl',st'):=q2;rw [q2']
    cases ok' with
    |false=>exact⟨[],false,rfl,rfl,by simp⟩
    |true=>exact⟨st',true,rfl,rfl,by omega⟩
  have c:∀(seq:Int) (bl:List Block) (st:List Bu),st.length<=1->((I3 seq d.Tx a).bind λv2=>
    (Au (λs:List Bu×Bool×Int×List Block=>Ci v2 s.1 s.2.1 s.2.2.1 s.2.2.2) (st,false,0,bl)).bind λv4=>
    (bif(!v4.2)then(some true)else(some (!v2.2)):Option (Bool)).bind λj5=>bif j5 then(some ([],false))else(some (v4.1,true)))=some ([],false):=by
   intro seq bl st h;obtain⟨pages,right,p1,p2,p3⟩:=Ys seq d.Tx a hr;rw [p1];simp only [Aa];have:Au (λs:List Bu×Bool×Int×List Block=>Ci (pages,right) s.1 s.2.1 s.2.2.1 s.2.2.2) (st,false,0,bl)=some (st,false):=by
    rw [A7];simp only [Ci,LB,Aa];have:(bif decide ((0:Int)<ln pages)then false else false)=false:=by cases decide ((0:Int)<ln pages)<;>rfl
    rw [this];rfl
   rw [this];rfl
  cases ht:!(seq b (bs []))with
  |false=>
   simp only [Ab,Aa,By];obtain⟨st',ok',q1,q2,q3⟩:=e d.Seq d.Flash.Blocks [] hc (by simp);exact⟨st',ok',q1,q2,q3⟩
  |true=>
   simp only [Ae];have hx:gi a (sb (ln a) 1)=some (a[a.length-1]'(by omega)):=by
    have:sb (ln a) 1=((a.length-1:Nat):Int):=by
     rw [BG,Cw (by omega) (by omega)];omega
    rw [this,A9];exact Ac _
   rw [hx];simp only [Aa];obtain⟨g,st1,ok1,w1,w2,w3,w4⟩:=sP d.Flash hc [] (by simp) (Page.mk 1 d.Seq (a[a.length-1]'(by omega)).Chunk 0 1 b);rw [w1,w2];simp only [Aa]
   cases ok1 with
   |false=>
    simp only [AG,Ae,Aa,Sum.elim_inr];exact⟨[],false,c _ _ _ (by simpa using w4),rfl,by simp⟩
   |true=>
    simp only [Ai,Ab,Aa,By];obtain⟨st',ok',q1,q2,q3⟩:=e (ad d.Seq 1) g.Blocks st1 w3 (by simpa using w4);exact⟨st',ok',q1,q2,q3⟩
def uB (l:List Vol) (v:Vol):List Vol:=(l.filter λw=>decide (w.Id<v.Id))++ [v]++l.filter λw=>decide (w.Id>v.Id)
theorem rQ {l:List Vol} {v:Vol} (h:(l.map Vol.Id).Pairwise (·<·)) (hv:∀w∈l,w.Id≠v.Id) (hl:l.length<=3):OI (Nj Bf) (l++ [v])=some (uB l v):=by
 have hk:∀x,Bf x=x.Id:=λ_=>rfl
 obtain⟨r,h1,h2,h3⟩:=oY Bf (l++ [v]) (by simp;omega);have hs:Sf Bf (uB l v):=by
  have:=WW h v;rw [JP]at this
  exact this.imp λhh=>by rw [hk,hk];omega
 have:r=uB l v:=by
  refine OH _ h2 hs λk=>?_
  rw [h3 k];unfold uB;rw [AS,AS,AS,Ew,Ew]
  rcases Int.lt_trichotomy k v.Id with e|e|e
  ·have e1:[v].filter (λx=>Bf x==k)=[]:=by simp [hk];omega
   have e2:l.filter (λa=>(Bf a==k)&&decide (a.Id>v.Id))=[]:=by
    rw [B8];intro a _;simp [hk];omega
   have e3:l.filter (λa=>(Bf a==k)&&decide (a.Id<v.Id))=l.filter (λa=>Bf a==k):=by
    apply List.filter_congr;intro a _;rw [hk];by_cases q:a.Id=k
    ·rw [q];simp [e]
    simp [q]
   rw [e1,e2,e3];simp
  ·have e0:l.filter (λa=>Bf a==k)=[]:=by
    rw [B8];intro a ha;have:=hv a ha;simp [hk];omega
   have e2:l.filter (λa=>(Bf a==k)&&decide (a.Id>v.Id))=[]:=by
    rw [B8];intro a ha;have:=hv a ha;simp [hk];omega
   have e3:l.filter (λa=>(Bf a==k)&&decide (a.Id<v.Id))=[]:=by
    rw [B8];intro a ha;have:=hv a ha;simp [hk];omega
   rw [e0,e2,e3];simp
  have e1:[v].filter (λx=>Bf x==k)=[]:=by simp [hk];omega
  have e2:l.filter (λa=>(Bf a==k)&&decide (a.Id<v.Id))=[]:=by
   rw [B8];intro a _;simp [hk];omega
  have e3:l.filter (λa=>(Bf a==k)&&decide (a.Id>v.Id))=l.filter (λa=>Bf a==k):=by
   apply List.filter_congr;intro a _;rw [hk];by_cases q:a.Id=k
   ·rw [q];simp [e]
   simp [q]
  rw [e1,e2,e3];simp
 rw [h1,this]
theorem cU {r:De} {q:Int} (h:Dn s) (hn:Eb s r.Vol=some (-1)) (hv:∀v∈s.Vols,v.Id≠r.Vol) (h3:s.Vols.length≠3) (hq:(bif(decide (r.Arg>0))then((Eb s r.Arg).bind λv1=>bif(decide (v1<0))then((El s).bind λv2=>some (.inr (v2,false)))else((gi s.Vols v1).bind λx1=>some (.inl x1.Root)))else(some (.inl (-1))):Option ((Int)⊕((Store×Bool))))=some (.inl q)):FX s r=some (Store.mk (uB s.Vols (Vol.mk r.Vol q)) s.Arena s.Next,true):=by
 have hl:=h.len;have c:=Ll h.ar (by have:=h.few;omega);have a:=FZ s c (by omega);unfold FX;rw [hq,hn];simp only [Aa,By];rw [Af (by omega:¬(-1:Int)>=0),Ab,BG,show((s.Vols.length:Int)==3)=false by simp;omega];simp only [Aa,Ab];rw [a];simp only [Aa];have k1:=R6 (body:=λq:List Vol×Int=>GW s r q.1 q.2) s.Vols (λv=>decide (v.Id<r.Vol)) [] (by simp;omega)
  (λi v b hv ho=>by
   have hi:=(Ah.1 hv).1;simp only [GW,AC,Ad hi,Ae,A9,hv,Aa];rw [ad1 (by omega)]
   cases decide (v.Id<r.Vol)with
   |true=>simp only [Ae];rw [Cn (by simp;omega)];rfl
   |false=>rfl)
  (λb=>by simp only [GW,AC,Ao,Aq,Ab])
 rw [A6]at k1;rw [k1];simp only [Aa];have d:=Z6 s.Vols r.Vol;rw [Cn (by simp;omega)];simp only [Aa];have k2:=R6 (body:=λq:List Vol×Int=>GV s r q.1 q.2) s.Vols (λv=>decide (v.Id>r.Vol)) ((s.Vols.filter λv=>decide (v.Id<r.Vol))++ [Vol.mk r.Vol q]) (by simp;omega)
  (λi v b hv ho=>by
   have hi:=(Ah.1 hv).1;simp only [GV,AC,Ad hi,Ae,A9,hv,Aa];rw [ad1 (by omega)]
   cases decide (v.Id>r.Vol)with
   |true=>simp only [Ae];rw [Cn (by simp;omega)];rfl
   |false=>rfl)
  (λb=>by simp only [GV,AC,Ao,Aq,Ab])
 rw [k2];rfl
theorem iC {r:De} (h:Dn s) (hb:Gx r=true) (hk:r.Kind=2):∃t ok,FX s r=some (t,ok)/\EH s r.Vol r.Arg=some (ok,t):=by
 have hl:=h.len;have c:=Ll h.ar (by have:=h.few;omega);have a:=FZ s c (by omega);have hr:=hb;unfold Gx at hr;rw [hk]at hr;simp at hr
 have b:∀id,R7 s id=Eb s id:=λ_=>rfl
 have root:(FX s r=some (s,false)/\EH s r.Vol r.Arg=some (false,s))\/∃q,(bif(decide (r.Arg>0))then((Eb s r.Arg).bind λv1=>bif(decide (v1<0))then((El s).bind λv2=>some (.inr (v2,false)))else((gi s.Vols v1).bind λx1=>some (.inl x1.Root)))else(some (.inl (-1))):Option ((Int)⊕((Store×Bool))))=some (.inl q)/\(bif(r.Arg !=0)then((Eb s r.Arg).bind λv1=>bif(decide (v1<0))then(some (.inr (false,s)))else((gi s.Vols v1).bind λx1=>some (.inl x1.Root)))else(some (.inl (-1))):Option ((Int)⊕((Bool×Store))))=some (.inl q):=by
  unfold FX EH;by_cases h0:0<r.Arg
  ·rw [Ad (by omega:r.Arg>0),show(r.Arg !=0)=true by simp;omega,b];simp only [Ae]
   rcases Fp s (by omega) r.Arg with⟨h1,h2⟩|⟨k,v,h1,h2,h3,_⟩
   ·left;rw [h1,a];exact⟨rfl,rfl⟩
   right;rw [h1];refine⟨v.Root,?_,?_⟩
   ·simp only [Aa];rw [Af (by omega),Ab,A9,h2];rfl
   simp only [Aa];rw [Af (by omega),Ab,A9,h2];rfl
  right;rw [Af (by omega:¬r.Arg>0),show(r.Arg !=0)=false by simp;omega];exact⟨-1,rfl,rfl⟩
 rcases root with⟨g1,g2⟩|⟨q,g1,g2⟩
 ·exact⟨s,false,g1,g2⟩
 rcases Fp s (by omega) r.Vol with⟨h1,h2⟩|⟨k,v,h1,h2,h3,_⟩
 ·by_cases h3:s.Vols.length=3
  ·refine⟨s,false,?_,?_⟩
   ·unfold FX;rw [g1,h1];simp only [Aa,By];rw [Af (by omega:¬(-1:Int)>=0),Ab,BG,h3];simp only [Aa];rw [a];rfl
   unfold EH;rw [b,b,g2,h1];simp only [Aa,By];rw [Af (by omega:¬(-1:Int)>=0),Ab,BG,h3];rfl
  refine⟨_,true,cU h h1 h2 h3 g1,?_⟩;unfold EH;rw [b,b,g2,h1];simp only [Aa,By];rw [Af (by omega:¬(-1:Int)>=0),Ab,BG,Af (by omega:¬(s.Vols.length:Int)>=3)];simp only [Aa,Ab];rw [Cn (by simp;omega)];simp only [Aa];rw [rQ h.asc (v:=Vol.mk r.Vol q) h2 hl];rfl
 refine⟨s,false,?_,?_⟩
 ·unfold FX;rw [g1,h1];simp only [Aa,By];rw [Ad (by omega:(k:Int)>=0),Ae];simp only [Aa];rw [a];rfl
 unfold EH;rw [b,b,g2,h1];simp only [Aa,By];rw [Ad (by omega:(k:Int)>=0),Ae];rfl
theorem mO (h:Dn s) (r:De):W1 s r=Ru s r:=by
 have hl:=h.len;have f:=Ll h.ar (by have:=h.few;omega);have b:=FZ s f (by omega);have d:=QO s f (by omega)
 have j:∀id,R7 s id=Eb s id:=λ_=>rfl
 have g:Pu r=some (Gx r):=by
  obtain⟨v,a1,a2,_⟩:=Yw r;rw [Mu]at a1;rw [a2,<-a1]
 have a:=Ya h r;unfold W1;rw [d,gQ h,g];simp only [Aa,Ai,Ab]
 cases hb:Gx r with
 |false=>
  unfold Lb D7 at a;rw [hb]at a;rw [a];simp only [AG,Ae,Aa]
 |true=>
  simp only [Ai,Ab];have hr:=hb;unfold Gx at hr;unfold Ru at a⊢;rw [Qr h,Mu,hb]at a⊢;simp only [Aa,Ai,Ab]at a⊢;unfold NU
  cases k1:(r.Kind==1)with
  |true=>
   have e1:r.Kind=1:=by simpa using k1
   rw [e1]at hr;simp at hr;simp only [Ae,Aa,Ai,Ab];have hj:(bif(r.Arg==0)then(some 1)else(some r.Arg):Option (Int))=some (if 1>r.Arg then 1 else r.Arg):=by
    by_cases e:r.Arg=0
    ·rw [Ax (by omega),e];rfl
    rw [Ay (by omega),show(r.Arg==0)=false by simpa using e];rfl
   rw [hj];simp only [Aa];have hP:Dn (Store.mk [] (Arena.mk []) (if 1>r.Arg then 1 else r.Arg)):=by
    refine⟨⟨by simp,rfl,?_,by simp,by simp,by simp [BB],by simp [BB],by simp⟩,by simp⟩;show 1<=(if 1>r.Arg then 1 else r.Arg)/\(if 1>r.Arg then 1 else r.Arg)<=1000000000;split<;>omega
   rw [MW hP.toStoreR,WQ hP];rfl
  |false=>
   simp only [Ab];rw [k1]at hr a;simp only [Ab]at a
   cases k2:(r.Kind==2)with
   |true=>
    rw [k2]at a;simp only [Ae]at a⊢;obtain⟨t,ok,c1,c2⟩:=iC h hb (by simpa using k2);rw [c1]at a⊢;rw [c2];simp only [Aa]at a⊢;unfold Lb at a
    cases ok with
    |false=>
     split at a
     ·injection a with a
      injection a with a _
      simp only [AG,Ae];rw [a]
     obtain⟨t',q,_⟩:=a
     injection q with q
     injection q with _ q
     cases q
    |true=>
     split at a
     ·injection a with a
      injection a with _ q
      cases q
     obtain⟨t',q,hP,_⟩:=a
     injection q with q
     injection q with q _
     subst q;simp only [Ai,Ab];have l:Store.mk t.Vols (Arena.mk t.Arena.Knots) t.Next=t:=rfl;rw [l,MW hP.toStoreR,WQ hP];rfl
   |false=>
    simp only [Ab];rw [k2]at hr;rw [j]
    rcases Fp s (by omega) r.Vol with⟨h1,h2⟩|⟨k,v,h1,h2,h3,_⟩
    ·rw [h1];simp only [Aa];rw [Ad (by omega:(-1:Int)<0),Ae];simp only [Aa,Ae,AG];rw [b];rfl
    rw [h1];simp only [Aa];rw [Af (by omega:¬(k:Int)<0),Ab];simp only [Aa];have hm:=A3 h2;have m:=(Ah.1 h2).1
    cases hc:(r.Chunk==1000000000)with
    |true=>
     simp only [Ae,Aa,AG];rw [b];rfl
    |false=>
     simp only [Ab];have n:r.Chunk≠1000000000:=by simpa using hc
     rw [b];simp only [Aa]
     cases k3:(r.Kind==3)with
     |true=>
      simp only [Ae];rw [BG,ad1 (by omega)];have d1:dr s.Vols 0 (k:Int)=some (s.Vols.take k):=by
       unfold dr;rw [Ax ⟨by omega,by omega,by omega⟩];simp
      have d2:dr s.Vols ((k+1:Nat):Int) (s.Vols.length:Int)=some (s.Vols.drop (k+1)):=by
       unfold dr;rw [Ax ⟨by omega,by omega,by omega⟩,Ba,Ba,AO (by simp)]
      rw [d1,d2];simp only [Aa];rw [KS (by simp;omega)];simp only [Aa];rw [Cn (by simp;omega),So h.asc h2,h3];simp only [Aa,Ai,Ab];have hR:=uP h r.Vol;rw [IW hR,MW hR]
     |false=>
      simp only [Ab];rw [k3]at hr;have ha:0<=r.Arg/\r.Arg<16/\0<=r.Chunk/\r.Chunk<=1000000000:=by
       cases k4:(r.Kind==4)with
       |true=>rw [k4]at hr;simp at hr;omega
       |false=>rw [k4]at hr;simp at hr;omega
      obtain⟨t,ht⟩:∃t:Nat,r.Arg=(t:Int):=⟨_,(Bm ha.1).symm⟩;have c:=h.root _ (AJ.2 ⟨v,hm,rfl⟩);rw [A9,h2];simp only [Aa];rw [ht,Xh _ (by have:=h.few;omega) h.ar c (by omega) ha.2.2.1,kZ _ (by have:=h.few;omega) h.ar c (by omega) ha.2.2.1];simp only [Aa,Ai,Ab];rw [Ep,CA (by omega) (by omega)];have hR:=zO h h2 (show t<16 by omega) ha.2.2.1 (show r.Chunk+1<=1000000000 by omega);by_cases i:r.Chunk>=s.Next
      ·rw [Ad i,Ax (by omega:r.Chunk+1>s.Next)];rw [show max s.Next (r.Chunk+1)=r.Chunk+1 by omega]at hR;simp only [Ae];rw [IW hR,MW hR]
      rw [Af i,Ay (by omega:¬r.Chunk+1>s.Next)];rw [show max s.Next (r.Chunk+1)=s.Next by omega]at hR;simp only [Ab];rw [IW hR,MW hR]
noncomputable def ZL (t:ByteArray):Option Page:=match Fq t with
 |some (p,true)=>some p
 |_=>none
noncomputable def pg (i k:Int) (x:Leaf):List A8:=if x.Is=1 then(match ZL x.Text with
 |some p=>[A8.mk i k p]
 |none=>[])else []
noncomputable def V7 (i:Int):Int->List Leaf->List A8
 |_,[]=>[]
 |k,x::l=>pg i k x++V7 i (k+1) l
noncomputable def Kg:Int->List Block->List A8
 |_,[]=>[]
 |i,b::l=>V7 i 0 b.Leaves++Kg (i+1) l
theorem Wt (i:Int):∀(k:Int) (l m:List Leaf),V7 i k (l++m)=V7 i k l++V7 i (k+l.length) m
 |k,[],m=>by simp [V7]
 |k,x::l,m=>by
  rw [BF,V7,Wt i (k+1) l m,V7,Ap,A0];congr 3;omega
theorem R1:∀(i:Int) (l m:List Block),Kg i (l++m)=Kg i l++Kg (i+l.length) m
 |i,[],m=>by simp [Kg]
 |i,x::l,m=>by
  rw [BF,Kg,R1 (i+1) l m,Kg,Ap,A0];congr 3;omega
theorem AAu {i k:Int} (h:y∈pg i k x):y.Block=i/\y.Leaf=k/\x.Is=1/\ZL x.Text=some y.Page:=by
 unfold pg at h;split at h
 ·split at h
  ·rename_i h1 _ p h2;rw [Aw]at h;subst h;exact⟨rfl,rfl,h1,h2⟩
  cases h
 cases h
theorem cL {i:Int}:∀{k:Int} {l:List Leaf} {y:A8},y∈V7 i k l->y.Block=i/\k<=y.Leaf/\y.Leaf<k+l.length
 |k,[],y,h=>by cases h
 |k,x::l,y,h=>by
  rw [V7,Aj]at h;rw [A0]
  rcases h with h|h
  ·obtain⟨h1,h2,_⟩:=AAu h;exact⟨h1,by omega,by omega⟩
  obtain⟨h1,h2,h3⟩:=cL h;exact⟨h1,by omega,by omega⟩
theorem cM:∀{i:Int} {l:List Block} {y:A8},y∈Kg i l->i<=y.Block/\y.Block<i+l.length
 |i,[],y,h=>by cases h
 |i,x::l,y,h=>by
  rw [Kg,Aj]at h;rw [A0]
  rcases h with h|h
  ·obtain⟨h1,_⟩:=cL h;exact⟨by omega,by omega⟩
  obtain⟨h1,h2⟩:=cM h;exact⟨by omega,by omega⟩
theorem Jr {x:α} (h:l[k]?=some x):l=l.take k++x::l.drop (k+1)/\(l.take k).length=k:=by
 have hk:=(Ah.1 h).1;have h2:=Bj hk;rw [(Ah.1 h).2]at h2;exact⟨by rw [<-h2,Bt],by rw [AH];omega⟩
theorem XB {x y:α} (h:l[k]?=some x):l.set k y=l.take k++y::l.drop (k+1):=by
 have hk:=(Ah.1 h).1;exact List.set_eq_take_append_cons_drop.trans (Ax hk)
theorem kG {l:List Block} (hb:l[i]?=some b) (hx:b.Leaves[k]?=some x):∃A B,Kg 0 l=A++pg i k x++B/\∀bd w y,Kg 0 (l.set i (Block.mk bd w (b.Leaves.set k y)))=A++pg i k y++B:=by
 obtain⟨h1,h2⟩:=Jr hb;obtain⟨h3,h4⟩:=Jr hx;refine⟨Kg 0 (l.take i)++V7 i 0 (b.Leaves.take k),V7 i ((k:Int)+1) (b.Leaves.drop (k+1))++Kg ((i:Int)+1) (l.drop (i+1)),?_,λbd w y=>?_⟩
 ·conv=>lhs;rw [h1]
  rw [R1,h2,Kg,We]
  conv=>lhs;rw [h3]
  rw [Wt,h4,V7,We];simp only [Ap]
 rw [XB hb,R1,h2,Kg,We,XB hx,Wt,h4,V7,We];simp only [Ap]
theorem V9 {l:List Block} {b':Block} (hb:l[i]?=some b) (h0:V7 i 0 b'.Leaves=[]):Kg 0 (l.set i b')=(Kg 0 l).filter λy=>y.Block !=(i:Int):=by
 obtain⟨h1,h2⟩:=Jr hb;rw [XB hb]
 conv=>rhs;rw [h1]
 rw [R1,R1,h2,Kg,Kg,We,h0,AS,AS];have e1:(Kg 0 (l.take i)).filter (λy=>y.Block !=(i:Int))=Kg 0 (l.take i):=by
  rw [Gu];intro y hy;have:=(cM hy).2;rw [h2]at this;simp;omega
 have e2:(V7 i 0 b.Leaves).filter (λy=>y.Block !=(i:Int))=[]:=by
  rw [B8];intro y hy;have:=(cL hy).1;simp [this]
 have e3:(Kg ((i:Int)+1) (l.drop (i+1))).filter (λy=>y.Block !=(i:Int))=Kg ((i:Int)+1) (l.drop (i+1)):=by
  rw [Gu];intro y hy;have:=(cM hy).1;simp;omega
 rw [e1,e2,e3]
def zS (x:Leaf):Prop:=(x.Is=0/\L x.Text=[])\/(x.Is=1/\1<=(L x.Text).length/\(L x.Text).length<=120)\/(x.Is=2/\(L x.Text).length<=120)
def rB (l:List Leaf):Prop:=∀(k:Nat) x y,l[k]?=some x->l[k+1]?=some y->x.Is=0->y.Is=0
structure KU (b:Block):Prop where
 four:b.Leaves.length=4
 wear:0<=b.Wear/\b.Wear<=1000000000
 leaf:∀x∈b.Leaves,zS x
 turn:rB b.Leaves
structure BN (f:Flash):Prop where
 n:3<=f.Blocks.length/\f.Blocks.length<=10
 blk:∀b∈f.Blocks,KU b
theorem tS (x:Leaf):∃v,Ms x=some v/\(v=true↔zS x):=by
 unfold Ms zS;by_cases h0:x.Is=0
 ·rw [show(x.Is==0)=true by simpa using h0];refine⟨_,rfl,?_⟩;rw [JT,A5];constructor
  ·intro h;exact .inl ⟨h0,by rw [h];rfl⟩
  rintro(h|h|h)
  ·exact Iw (by rw [h.2];rfl)
  ·omega
  omega
 rw [show(x.Is==0)=false by simpa using h0];simp only [Ab];by_cases h1:x.Is=1
 ·rw [show(x.Is==1)=true by simpa using h1,E4,BH];refine⟨_,rfl,?_⟩;rw [A5];omega
 rw [show(x.Is==1)=false by simpa using h1];simp only [Ab];by_cases h2:x.Is=2
 ·rw [show(x.Is==2)=true by simpa using h2,BH];refine⟨_,rfl,?_⟩;rw [A5];omega
 rw [show(x.Is==2)=false by simpa using h2];exact⟨_,rfl,by simp only [BQ,RJ];omega⟩
theorem iZ (f:Flash) (h:LN f):∃v,FN f=some v/\(v=true↔BN f):=by
 unfold FN;obtain⟨r,h1,h2⟩:=Bg (body:=λs:Int=>Eh f s) (λ(_:Unit) i=>i) f.Blocks.length (λi _=>∀j b,j<i->f.Blocks[j]?=some b->KU b) (λr=>(r= .inr false/\¬∀b∈f.Blocks,KU b)\/r= .inl ()/\∀b∈f.Blocks,KU b)
  (λ_ i hi hs=>by
   have hx:=Ac hi;have hm:f.Blocks[i]∈f.Blocks:=AE hi;have m:=h.2 _ hm;have o:=h.1;simp only [Eh,AC,Ad hi,Ae,A9,hx,Aa];by_cases h4:f.Blocks[i].Leaves.length=4
   ·rw [show(ln f.Blocks[i].Leaves !=4)=false by simp [ln,h4]];simp only [Ab];rw [E4];simp only [Aa];by_cases hw:0<=f.Blocks[i].Wear/\f.Blocks[i].Wear<=1000000000
    ·rw [Ad hw];simp only [Ai,Ab];obtain⟨q,q1,q2⟩:=Bg (body:=λs:Int=>Eg f.Blocks[i] s) (λ(_:Unit) i=>i) f.Blocks[i].Leaves.length
      (λk _=>(∀j x,j<k->f.Blocks[i].Leaves[j]?=some x->zS x)/\∀(j:Nat) x y,j+1<k->f.Blocks[i].Leaves[j]?=some x->f.Blocks[i].Leaves[j+1]?=some y->x.Is=0->y.Is=0)
      (λr=>(r= .inr (.inr (.inr false))/\¬((∀x∈f.Blocks[i].Leaves,zS x)/\rB f.Blocks[i].Leaves))\/r= .inl ()/\(∀x∈f.Blocks[i].Leaves,zS x)/\rB f.Blocks[i].Leaves)
      (λ_ k hk d=>by
       have g:=Ac hk;simp only [Eg,AC,Ad hk,Ae,A9,g,Aa];obtain⟨v,v1,v2⟩:=tS f.Blocks[i].Leaves[k];rw [v1];simp only [Aa]
       cases hv:v with
       |false=>
        refine .inr ⟨_,rfl,.inl ⟨rfl,λhh=>?_⟩⟩;have:=v2.2 (hh.1 _ (AE hk));rw [hv]at this;cases this
       |true=>
        have l:=v2.1 hv;simp only [Ai,Ab];by_cases p:k=0
        ·rw [Af (by omega)];simp only [Ab,Aa];rw [ad1 (by omega)];refine .inl ⟨(),rfl,λj x hj a=>?_,λj x y hj=>by omega⟩;obtain rfl:j=k:=by omega
         rw [g]at a
         injection a with a
         rw [<-a];exact l
        rw [Ad (by omega)];simp only [Ae];rw [Cw (by omega) (by omega),show(k:Int)-1=((k-1:Nat):Int) by omega,A9,Ac (by omega)];simp only [Aa];have good:(f.Blocks[i].Leaves[k-1].Is=0->f.Blocks[i].Leaves[k].Is=0)->(∀j x,j<k+1->f.Blocks[i].Leaves[j]?=some x->zS x)/\∀(j:Nat) x y,j+1<k+1->f.Blocks[i].Leaves[j]?=some x->f.Blocks[i].Leaves[j+1]?=some y->x.Is=0->y.Is=0:=by
         intro hg;refine⟨λj x hj a=>?_,λj x y hj a c h0=>?_⟩
         ·by_cases e:j=k
          ·subst e;rw [g]at a
           injection a with a
           rw [<-a];exact l
          exact d.1 j x (by omega) a
         by_cases e:j+1=k
         ·obtain rfl:j=k-1:=by omega
          rw [Ac (by omega)]at a
          injection a with a
          rw [show k-1+1=k by omega,g]at c
          injection c with c
          rw [<-c];exact hg (by rw [a];exact h0)
         exact d.2 j x y (by omega) a c h0
        cases e0:(f.Blocks[i].Leaves[k-1].Is==0)with
        |false=>
         simp only [Ab,Aa];rw [ad1 (by omega)];exact .inl ⟨(),rfl,good (λhh=>by rw [hh]at e0;cases e0)⟩
        |true=>
         simp only [Ae,Aa]
         cases e1:(f.Blocks[i].Leaves[k].Is !=0)with
         |false=>
          simp only [Ab];rw [ad1 (by omega)];exact .inl ⟨(),rfl,good (λ_=>by simpa using e1)⟩
         |true=>
          refine .inr ⟨_,rfl,.inl ⟨rfl,λhh=>?_⟩⟩;have:=hh.2 (k-1) _ _ (Ac (by omega)) (by rw [show k-1+1=k by omega];exact g) (by simpa using e0)
          simp [this]at e1)
      (λ_ d=>⟨_,by simp only [Eg,AC,Ao,Aq,Ab],.inr ⟨rfl,λx a=>by
       obtain⟨j,hj,rfl⟩:=AI a
       exact d.1 j _ hj (Ac hj),λj x y a c=>d.2 j x y (Ah.1 c).1 a c⟩⟩) (s:=()) ⟨λj x hj=>by omega,λj x y hj=>by omega⟩
     have q1':Au (λs:Int=>Eg f.Blocks[i] s) 0=some q:=q1;rw [q1']
     rcases q2 with⟨rfl,q2⟩|⟨rfl,q2,q3⟩
     ·exact .inr ⟨_,rfl,.inl ⟨rfl,λhh=>q2 ⟨(hh _ hm).leaf,(hh _ hm).turn⟩⟩⟩
     simp only [Aa,By];rw [ad1 (by omega)];refine .inl ⟨(),rfl,λj b hj hb=>?_⟩;by_cases e:j=i
     ·subst e;rw [hx]at hb
      injection hb with hb
      rw [<-hb];exact⟨h4,hw,q2,q3⟩
     exact hs j b (by omega) hb
    rw [Af hw];exact .inr ⟨_,rfl,.inl ⟨rfl,λhh=>hw (hh _ hm).wear⟩⟩
   rw [show(ln f.Blocks[i].Leaves !=4)=true by simp [ln];omega]
   exact .inr ⟨_,rfl,.inl ⟨rfl,λhh=>h4 (hh _ hm).four⟩⟩)
  (λ_ hs=>⟨_,by simp only [Eh,AC,Ao,Aq,Ab],.inr ⟨rfl,λb hb=>by
   obtain⟨j,hj,rfl⟩:=AI hb
   exact hs j _ hj (Ac hj)⟩⟩) (s:=()) (λj b hj=>by omega)
 have h1':Au (λs:Int=>Eh f s) 0=some r:=h1;rw [h1']
 rcases h2 with⟨rfl,h2⟩|⟨rfl,h2⟩
 ·exact⟨_,rfl,by simp only [BQ,RJ];exact λhh=>h2 hh.blk⟩
 simp only [Aa,By];rw [E4,BG];refine⟨_,rfl,?_⟩;rw [A5];constructor
 ·intro hh;exact⟨by omega,h2⟩
 intro hh;have:=hh.n;omega
theorem BN.cap (h:BN f):LN f:=⟨by have:=h.n;omega,λb hb=>by rw [(h.blk b hb).four];omega⟩
theorem BN.text (h:BN f):∀b∈f.Blocks,∀x∈b.Leaves,(L x.Text).length<=120:=λb hb x hx=>by
 rcases(h.blk b hb).leaf x hx with h|h|h
 ·rw [h.2];simp
 ·exact h.2.2
 exact h.2
theorem O7 (h:BN f):FN f=some true:=by
 obtain⟨v,h1,h2⟩:=iZ f h.cap;rw [h1,h2.2 h]
theorem BN.few (h:BN f):nl f.Blocks<=40:=by
 have:∀l:List Block,(∀b∈l,KU b)->nl l=4*l.length:=by
  intro l
  induction l with
  |nil=>intro _;rfl
  |cons b l ih=>
   intro hh;have h1:=ih (λx hx=>hh x (by simp [hx]));have h2:=(hh b (by simp)).four;unfold Go.TI.nl at h1⊢;rw [Cb,O9,A0,h1,h2];omega
 rw [this _ h.blk];have:=h.n;omega
def VV (y:A8):Int:=y.Page.Seq
def SR (l r:List A8):Prop:=Sf VV r/\Cg VV l r
theorem SR.uniq {l:List A8} (h:SR l r) (h':SR l r'):r=r':=OH VV h.1 h'.1 (λk=>by rw [h.2 k,<-h'.2 k])
theorem SR.mem {l:List A8} (h:SR l r):y∈r↔y∈l:=h.2.mem
theorem SR.filter {l:List A8} (h:SR l r) (p:A8->Bool):SR (l.filter p) (r.filter p):=by
 refine⟨h.1.filter _,λk=>?_⟩;have:=h.2 k;rw [Ew,Ew]
 have e:∀m:List A8,m.filter (λx=>(VV x==k)&&p x)=(m.filter λx=>VV x==k).filter p:=λm=>by
  rw [Ew];congr 1;funext x;exact Bool.and_comm _ _
 rw [e,e,this]
theorem SR.add {A B r:List A8} (h:SR (A++B) r) (hy:∀x∈r,VV x<VV y):SR (A++ [y]++B) (r++ [y]):=by
 refine⟨?_,λk=>?_⟩
 ·unfold Sf;rw [B4];refine⟨h.1,M0 _ _,λx hx z hz=>?_⟩;rw [Aw]at hz;subst hz;have:=hy x hx;omega
 have h2:=h.2 k;rw [AS]at h2;rw [AS,AS,AS];by_cases e:VV y=k
 ·have e1:∀x∈A++B,¬(VV x==k)=true:=λx hx=>by
   have:=hy x (h.mem.2 hx);simp;omega
  have a0:A.filter (λx=>VV x==k)=[]:=B8.2 λx hx=>e1 x (by simp [hx])
  have b0:B.filter (λx=>VV x==k)=[]:=B8.2 λx hx=>e1 x (by simp [hx])
  rw [a0,b0]at h2⊢;rw [h2];simp
 have:[y].filter (λx=>VV x==k)=[]:=Cj (by simpa using e);rw [this,Az,Az];exact h2
theorem fW {t:ByteArray} {p:Page} (h:Fq t=some (p,true)):ZL t=some p:=by unfold ZL;rw [h]
theorem qM (h:BN f):Au (λs:List A8×Int=>EA f s.1 s.2) ([],0)=some (Kg 0 f.Blocks):=by
 have hn:=h.n;obtain⟨X,h1,h2⟩:=Bg (body:=λs:List A8×Int=>EA f s.1 s.2) (λs i=>(s,i)) f.Blocks.length (λi o=>o=Kg 0 (f.Blocks.take i)/\o.length<=4*i) (λb=>b=Kg 0 f.Blocks)
  (λa i hi hs=>by
   obtain⟨ho,m⟩:=hs;have hb:f.Blocks[i]?=some f.Blocks[i]:=Ac hi;have hm:f.Blocks[i]∈f.Blocks:=AE _;have h4:=(h.blk _ hm).four;refine .inl ?_;simp only [EA,AC,Ad hi,Ae];obtain⟨u,q1,q2,q3⟩:=Bg (body:=λs:List A8×Int=>EX f (i:Int) s.1 s.2) (λs i=>(s,i)) f.Blocks[i].Leaves.length (λk u=>u=a++V7 i 0 (f.Blocks[i].Leaves.take k)/\u.length<=a.length+k) (λu=>u=a++V7 i 0 f.Blocks[i].Leaves/\u.length<=a.length+4)
    (λu k hk hu=>by
     obtain⟨g,q⟩:=hu;have hx:f.Blocks[i].Leaves[k]?=some f.Blocks[i].Leaves[k]:=Ac hk;have j:f.Blocks[i].Leaves[k]∈f.Blocks[i].Leaves:=AE _
     have l:∀y:A8,ap 72 u [y]=some (u++ [y]):=λy=>Cn (by simp only [Ak];omega)
     have c:∀z,V7 i 0 (f.Blocks[i].Leaves.take (k+1))=V7 i 0 (f.Blocks[i].Leaves.take k)++z↔pg i k f.Blocks[i].Leaves[k]=z:=by
      intro z;rw [DY,hx,Wt];simp only [Option.toList,V7,Az,AH];rw [show(0:Int)+((min k f.Blocks[i].Leaves.length:Nat):Int)=(k:Int) by omega];exact⟨λe=>List.append_cancel_left e,λe=>by rw [e]⟩
     refine .inl ?_;obtain⟨p,ok,r1,r2,r3,r4⟩:=JN f.Blocks[i].Leaves[k].Text (by have:=h.text _ hm _ j;omega);simp only [EX,AC,Ad hk,Ae,A9,hb,Aa,VO f h.cap hb hx,l]
     cases d:f.Blocks[i].Leaves[k].Is==1 with
     |false=>
      obtain⟨p',ok',t1,_⟩:=JN (bs []) (by rw [DV];simp);simp only [Ab,Aa,t1];refine⟨u,by rw [ad1 (by omega)],?_,by omega⟩;rw [g,(c []).2 (by unfold pg;rw [Ay (by simpa using d)]),Az]
     |true=>
      simp only [Ae,Aa,r1]
      cases ok with
      |false=>
       refine⟨u,by simp only [Ab];rw [ad1 (by omega)],?_,by omega⟩;rw [g,(c []).2 (by unfold pg ZL;rw [Ax (by simpa using d),r1]),Az]
      |true=>
       refine⟨u++ [A8.mk i k p],by simp only [Ae];rw [ad1 (by omega)],?_,by simp only [Ag,Ak];omega⟩
       rw [g,(c [A8.mk i k p]).2 (by unfold pg;rw [Ax (by simpa using d),fW r1]),Ap])
    (λu hu=>⟨u,by simp only [EX,A9,hb,Aa,AC,Ao,Aq,Ab],by rw [hu.1,AO (A4 _)],by omega⟩) (s:=a) ⟨by simp [V7],by omega⟩
   have q1':Au (λs:List A8×Int=>EX f (i:Int) s.1 s.2) (a,0)=some u:=q1;rw [q1'];simp only [Aa];rw [ad1 (by omega)];refine⟨u,rfl,?_,by omega⟩;rw [q2,ho,DY,hb,R1];simp only [Option.toList,Kg,Az,AH]
   rw [show(0:Int)+((min i f.Blocks.length:Nat):Int)=(i:Int) by omega])
  (λa hs=>⟨a,by simp only [EA,AC,Ao,Aq,Ab],by rw [hs.1,AO (A4 _)]⟩) (s:=[]) ⟨by simp [Kg],by simp⟩
 rw [h2]at h1;exact h1
theorem vG (h:BN f):∃r,zB f r/\SR (Kg 0 f.Blocks) r:=by
 have hT:∀b∈f.Blocks,∀x∈b.Leaves,(L x.Text).length<=1048576:=λb hb x hx=>by have:=h.text b hb x hx;omega
 have hn:=h.few;obtain⟨r,h1,h2,h3,h4,h5⟩:=mE f h.cap hT (by omega);refine⟨r,⟨h1,h2,by omega,h4,λy hy=>sU hT (h4 y hy),h5⟩,h5,?_⟩;obtain⟨X,c1,_,c3,_⟩:=SM f h.cap hT (by omega);have hX:X=Kg 0 f.Blocks:=by
  rw [qM h]at c1
  injection c1 with c1
  exact c1.symm
 obtain⟨r',s1,s2,s3⟩:=Z4 BT X (by omega);have:JI f=some r':=by
  unfold JI;obtain⟨X',c1',c2',_⟩:=SM f h.cap hT (by omega);rw [c1]at c1'
  injection c1' with c1'
  rw [c2',<-c1',Aa,s1];rfl
 rw [h2]at this
 injection this with this
 rw [this,<-hX];exact s3
def LE (l:List Leaf):Nat:=(l.takeWhile λx=>x.Is !=0).length
theorem kN (l:List Leaf):LE l<=l.length:=by
 unfold LE;have:=(List.takeWhile_sublist (λx:Leaf=>x.Is !=0) (l:=l)).length_le;exact this
theorem Om:∀(l:List Leaf),(∀(k:Nat) x,k<LE l->l[k]?=some x->x.Is≠0)/\(∀x,l[LE l]?=some x->x.Is=0)
 |[]=>⟨λk x h=>by simp [LE]at h,λx h=>by simp [LE]at h⟩
 |y::l=>by
  obtain⟨h1,h2⟩:=Om l;by_cases e:y.Is=0
  ·have:LE (y::l)=0:=by unfold LE;rw [List.takeWhile_cons_of_neg (by simp [e])];rfl
   rw [this];refine⟨λk x hk=>by omega,λx hx=>?_⟩;simp only [CO,An]at hx;rw [<-hx];exact e
  have:LE (y::l)=LE l+1:=by unfold LE;rw [List.takeWhile_cons_of_pos (by simpa using e)];rfl
  rw [this];refine⟨λk x hk hx=>?_,λx hx=>?_⟩
  ·cases k with
   |zero=>
    simp only [CO,An]at hx;rw [<-hx];exact e
   |succ k=>exact h1 k x (by omega) (by simpa using hx)
  exact h2 x (by simpa using hx)
theorem MG (b:Block) (h:b.Leaves.length=4):Gb b=some (LE b.Leaves:Int):=by
 unfold Gb;obtain⟨h1,h2⟩:=Om b.Leaves;have a:=kN b.Leaves;obtain⟨r,q1,q2⟩:=Bg (body:=λs:Int=>Ef b s) (λ(_:Unit) i=>i) b.Leaves.length (λi _=>i<=LE b.Leaves) (λr=>(r= .inr (LE b.Leaves:Int))\/r= .inl ()/\LE b.Leaves=4)
  (λ_ i hi hs=>by
   have hx:=Ac hi;simp only [Ef,AC,Ad hi,Ae,A9,hx,Aa];by_cases e:i=LE b.Leaves
   ·have:=h2 b.Leaves[i] (by rw [<-e];exact hx);rw [show(b.Leaves[i].Is==0)=true by simpa using this];exact .inr ⟨_,rfl,.inl (by rw [e])⟩
   have:=h1 i b.Leaves[i] (by omega) hx;rw [show(b.Leaves[i].Is==0)=false by simpa using this,Ab,ad1 (by omega)]
   exact .inl ⟨(),rfl,by omega⟩)
  (λ_ hs=>⟨_,by simp only [Ef,AC,Ao,Aq,Ab],.inr ⟨rfl,by omega⟩⟩) (s:=()) (by omega)
 have q1':Au (λs:Int=>Ef b s) 0=some r:=q1;rw [q1']
 rcases q2 with rfl|⟨rfl,q2⟩
 ·rfl
 rw [q2];rfl
theorem KU.blank (h:KU b) (hk:LE b.Leaves<=k) (hx:b.Leaves[k]?=some x):x.Is=0:=by
 induction k generalizing x with
 |zero=>
  have:LE b.Leaves=0:=by omega
  exact(Om b.Leaves).2 x (by rw [this];exact hx)
 |succ k ih=>
  by_cases e:LE b.Leaves=k+1
  ·exact(Om b.Leaves).2 x (by rw [e];exact hx)
  have a:=(Ah.1 hx).1;have hy:b.Leaves[k]?=some b.Leaves[k]:=Ac (by omega);exact h.turn k _ x hy hx (ih (by omega) hy)
theorem SC {y:Leaf} (h:KU b) (hk:k=LE b.Leaves) (h4:k<4) (hy:zS y) (a:y.Is≠0):KU (Block.mk b.Bad b.Wear (b.Leaves.set k y)):=by
 refine⟨by simpa using h.four,h.wear,λx hx=>?_,?_⟩
 ·rcases Ck hx with hx|rfl
  ·exact h.leaf x hx
  exact hy
 intro j x z hx hz h0;have hx':(b.Leaves.set k y)[j]?=some x:=hx;have hz':(b.Leaves.set k y)[j+1]?=some z:=hz;rw [BI]at hx' hz';by_cases e:k=j
 ·subst e;rw [Ax rfl,Ax (by rw [h.four];exact h4)]at hx'
  injection hx' with hx'
  rw [<-hx']at h0;exact absurd h0 a
 rw [Ay e]at hx';by_cases e2:k=j+1
 ·have:=(Om b.Leaves).1 j x (by omega) hx';exact absurd h0 this
 rw [Ay e2]at hz';exact h.turn j x z hx' hz' h0
theorem L8 (h:BN f) (hb:KU b):BN (Flash.mk (f.Blocks.set i b)):=by
 refine⟨by have:=h.n;simpa using this,λx hx=>?_⟩
 rcases Ck hx with hx|rfl
 ·exact h.blk x hx
 exact hb
def gD (f:Flash) (b l:Int) (t:ByteArray):Prop:=∃x,gi f.Blocks b=some x/\x.Bad=false/\l=(LE x.Leaves:Int)/\LE x.Leaves<4/\1<=(L t).length/\(L t).length<=120
def prog (f:Flash) (b l:Int) (y:Leaf):Flash:=Flash.mk (match gi f.Blocks b with
 |some x=>si f.Blocks b (Block.mk x.Bad x.Wear (si x.Leaves l y))
 |none=>f.Blocks)
theorem fK (h:BN f) (b l:Int) (t:ByteArray):(gD f b l t/\KF f b l t=some (prog f b l (Leaf.mk 1 t),true))\/(¬gD f b l t/\KF f b l t=some (f,false)):=by
 have hn:=h.n;unfold KF Ty;rw [Dp f h.cap,O7 h];simp only [Aa,Ai,Ab];rw [BG,Cw (by omega) (by omega),E4];simp only [Aa];by_cases hb:0<=b/\b<=(f.Blocks.length:Int)-1
 ·rw [Ad hb];simp only [Ae];have hg:=K2 (l:=f.Blocks) hb.1 (by omega);have hm:f.Blocks[b.toNat]'(by omega)∈f.Blocks:=AE _;generalize d:f.Blocks[b.toNat]'(by omega)=x at hg hm;have hP:=h.blk x hm;rw [hg];simp only [Aa]
  cases a:x.Bad with
  |true=>
   refine .inr ⟨?_,rfl⟩;rintro⟨z,hz,h2,_⟩;rw [hg]at hz
   injection hz with hz
   rw [<-hz,a]at h2;cases h2
  |false=>
   simp only [AG,Ae];by_cases c:l<4
   ·rw [Ad c];simp only [Ae];rw [MG x hP.four];simp only [Aa];by_cases hl:l=(LE x.Leaves:Int)
    ·rw [show(l==(LE x.Leaves:Int))=true by simpa using hl];simp only [Ae];rw [BH,E4];simp only [Aa];by_cases ht:1<=(L t).length/\(L t).length<=120
     ·rw [Ad (by omega:1<=((L t).length:Int)/\((L t).length:Int)<=120)];simp only [Ai,Ab,Aa];refine .inl ⟨⟨x,hg,a,hl,by omega,ht⟩,?_⟩;rw [K2 (l:=x.Leaves) (i:=l) (by omega) (by rw [hP.four];omega)];simp only [Aa];unfold prog;rw [hg];simp only [a]
     rw [Af (by omega:¬(1<=((L t).length:Int)/\((L t).length:Int)<=120))];refine .inr ⟨?_,rfl⟩;rintro⟨z,hz,_,_,_,h5⟩;exact ht h5
    rw [show(l==(LE x.Leaves:Int))=false by simpa using hl];refine .inr ⟨?_,rfl⟩;rintro⟨z,hz,_,h3,_⟩;rw [hg]at hz
    injection hz with hz
    rw [<-hz]at h3;exact hl h3
   rw [Af c];refine .inr ⟨?_,rfl⟩;rintro⟨z,hz,_,h3,h4,_⟩;omega
 rw [Af hb];refine .inr ⟨?_,rfl⟩;rintro⟨z,hz,_⟩;obtain⟨k1,k2⟩:=Dd hz;have:=(Ah.1 k2).1;omega
theorem Pg {b l:Int} {t:ByteArray} (h:BN f) (hm:gD f b l t):BN (prog f b l (Leaf.mk 1 t))/\BN (prog f b l (Leaf.mk 2 t))/\∃A B,Kg 0 f.Blocks=A++B/\(∀p,ZL t=some p->Kg 0 (prog f b l (Leaf.mk 1 t)).Blocks=A++ [A8.mk b l p]++B)/\(∀u,Kg 0 (prog f b l (Leaf.mk 2 u)).Blocks=A++B):=by
 obtain⟨x,h1,h2,rfl,h4,h5⟩:=hm;obtain⟨k1,k2⟩:=Dd h1;obtain⟨c,rfl⟩:∃c:Nat,b=(c:Int):=⟨_,(Bm k1).symm⟩;rw [Ba]at k2;have hP:=h.blk x (A3 k2);have hx:x.Leaves[LE x.Leaves]?=some (x.Leaves[LE x.Leaves]'(by rw [hP.four];exact h4)):=Ac _;have d:=hP.blank (A4 _) hx
 have a:∀y,prog f (c:Int) (LE x.Leaves:Int) y=Flash.mk (f.Blocks.set c (Block.mk x.Bad x.Wear (x.Leaves.set (LE x.Leaves) y))):=λy=>by
  unfold prog;rw [h1];simp only [Ep]
 rw [a,a];refine⟨L8 h (SC hP rfl h4 (.inr (.inl ⟨rfl,h5.1,h5.2⟩)) (by simp)),L8 h (SC hP rfl h4 (.inr (.inr ⟨rfl,h5.2⟩)) (by simp)),?_⟩;obtain⟨A,B,e1,e2⟩:=kG k2 hx;have z:pg (c:Int) (LE x.Leaves:Int) (x.Leaves[LE x.Leaves]'(by rw [hP.four];exact h4))=[]:=by unfold pg;rw [Ay (by rw [d];omega)]
 rw [z,Az]at e1;refine⟨A,B,e1,λp hp=>?_,λu=>?_⟩
 ·rw [e2];congr 2;unfold pg;rw [Ax rfl,hp]
 rw [a,e2];have:pg (c:Int) (LE x.Leaves:Int) (Leaf.mk 2 u)=[]:=by unfold pg;rw [Ay (by simp)]
 rw [this,Az]
theorem tL {l:List Leaf} (h:∀x∈l,x.Is=0):nb l=l.length:=by
 induction l with
 |nil=>rfl
 |cons x l ih=>
  have h1:=ih (λy hy=>h y (by simp [hy]));unfold nb at h1⊢;rw [Cb,O9,h1,Wy,Ax (by simpa using h x (by simp)),A0];omega
theorem xU {l:List Leaf} (h:∀x∈l,x.Is≠0):nb l=0:=by
 induction l with
 |nil=>rfl
 |cons x l ih=>
  have h1:=ih (λy hy=>h y (by simp [hy]));unfold nb at h1⊢;rw [Cb,O9,h1,Wy,Ay (by simpa using h x (by simp))]
theorem AAy (l m:List Leaf):nb (l++m)=nb l+nb m:=by unfold nb;rw [Cq,List.sum_append]
theorem KU.nb (h:KU b):nb b.Leaves=4-LE b.Leaves:=by
 have a:=kN b.Leaves;have h4:=h.four;have e:Go.TI.nb b.Leaves=Go.TI.nb (b.Leaves.take (LE b.Leaves))+Go.TI.nb (b.Leaves.drop (LE b.Leaves)):=by rw [<-AAy,Bt]
 rw [e,xU (l:=b.Leaves.take (LE b.Leaves)),tL (l:=b.Leaves.drop (LE b.Leaves)),B7,h4]
 ·omega
 ·intro x hx;obtain⟨k,hk,rfl⟩:=AI hx;rw [B7]at hk;rw [SZ];exact h.blank (k:=LE b.Leaves+k) (by omega) (Ac _)
 intro x hx;obtain⟨k,hk,rfl⟩:=AI hx;rw [AH]at hk;rw [JQ];exact(Om b.Leaves).1 k _ (by omega) (Ac _)
def S7 (f:Flash) (b l:Int):Prop:=∃x,gi f.Blocks b=some x/\x.Bad=false/\l=(LE x.Leaves:Int)/\LE x.Leaves<4
theorem YO (h:BN f):∃v:Int,JB f=some v/\((v= -1/\∀b∈f.Blocks,b.Bad=false->LE b.Leaves=0\/LE b.Leaves=4)\/∃x,gi f.Blocks v=some x/\x.Bad=false/\LE x.Leaves<4):=by
 unfold JB;have hn:=h.n;obtain⟨b,h1,h3⟩:=Bg (body:=λs:Int=>DN f s) (λ(_:Unit) i=>i) f.Blocks.length (λi _=>∀(j:Nat) b,j<i->f.Blocks[j]?=some b->b.Bad=false->LE b.Leaves=0\/LE b.Leaves=4) (λb=>(b= .inl ()/\∀b∈f.Blocks,b.Bad=false->LE b.Leaves=0\/LE b.Leaves=4)\/∃i:Nat,∃x,b= .inr (i:Int)/\f.Blocks[i]?=some x/\x.Bad=false/\LE x.Leaves<4)
  (λ_ i hi hs=>by
   have hg:f.Blocks[i]?=some f.Blocks[i]:=Ac hi;have hP:=h.blk _ (AE hi);have c:=hP.nb;have h4:=hP.four;have d:=kN f.Blocks[i].Leaves;simp only [DN,AC,Ad hi,Ae];rw [X1 f i hg (by omega)];simp only [Aa,A9,hg];rw [ad1 (by omega)]
   cases a:f.Blocks[i].Bad with
   |true=>
    refine .inl ⟨(),rfl,λj b hj hb h0=>?_⟩;by_cases e:j=i
    ·subst e;rw [hg]at hb
     injection hb with hb
     rw [<-hb,a]at h0;cases h0
    exact hs j b (by omega) hb h0
   |false=>
    simp only [AG,Ae];by_cases e:0<LE f.Blocks[i].Leaves/\LE f.Blocks[i].Leaves<4
    ·rw [Ad (by omega),Ad (by omega)];exact .inr ⟨_,rfl,.inr ⟨i,_,rfl,hg,a,e.2⟩⟩
    have:(bif decide (((nb f.Blocks[i].Leaves:Nat):Int)>0)then(some (decide (((f.Blocks[i].Leaves.length-nb f.Blocks[i].Leaves:Nat):Int)>0)))else(some false):Option Bool)=some false:=by
     by_cases e2:nb f.Blocks[i].Leaves=0
     ·rw [Af (by omega)];rfl
     rw [Ad (by omega),Af (by omega)];rfl
    rw [this];refine .inl ⟨(),rfl,λj b hj hb h0=>?_⟩;by_cases e:j=i
    ·subst e;rw [hg]at hb
     injection hb with hb
     rw [<-hb];omega
    exact hs j b (by omega) hb h0)
  (λ_ hs=>⟨_,by simp only [DN,AC,Ao,Aq,Ab],.inl ⟨rfl,λb hb=>by
   obtain⟨j,hj,rfl⟩:=AI hb
   exact hs j _ hj (Ac hj)⟩⟩) (s:=()) (λj b hj=>by omega)
 have h1':Au (λs:Int=>DN f s) 0=some b:=h1;rw [h1']
 rcases h3 with⟨rfl,h3⟩|⟨i,x,rfl,h4,h5,h6⟩
 ·exact⟨-1,rfl,.inl ⟨rfl,h3⟩⟩
 exact⟨(i:Int),rfl,.inr ⟨x,by rw [A9];exact h4,h5,h6⟩⟩
theorem fN (h:BN f):∃b l:Int,∃ok:Bool,KG f=some (b,l,ok)/\(ok=true->S7 f b l)/\(ok=false->∀b∈f.Blocks,b.Bad=false->LE b.Leaves=4):=by
 have hn:=h.n;obtain⟨o,o1,o2⟩:=YO h;obtain⟨e1,_⟩:=Sr f h.cap;unfold KG;rw [O7 h,o1,e1];simp only [Aa,Ai,Ab]
 rcases o2 with⟨rfl,o2⟩|⟨x,o2,o3,o4⟩
 ·rw [Af (by omega)];simp only [Ab];have a:∀y∈Ox f,S7 f y 0:=by
   intro y hy;unfold Ox at hy;obtain⟨i,hi,rfl⟩:=AJ.1 hy;obtain⟨c,d⟩:=AT.1 hi;rw [GU]at c;unfold MU at d;rw [Ac c]at d;simp only [Al,CE,A5]at d;have hP:=h.blk _ (AE c);have:=hP.nb;have:=hP.four;exact⟨_,by rw [A9];exact Ac c,d.1,by omega,by omega⟩
  cases j:Ox f with
  |nil=>
   refine⟨0,0,false,rfl,by simp,λ_ b hb g=>?_⟩
   rcases o2 b hb g with e|e
   ·obtain⟨i,hi,rfl⟩:=AI hb;have hm:(i:Int)∈Ox f:=by
     unfold Ox;refine AJ.2 ⟨i,AT.2 ⟨GU.2 hi,?_⟩,rfl⟩;unfold MU;rw [Ac hi];have hP:=h.blk _ (AE hi);have:=hP.nb;have:=hP.four;simp only [g,AG,CC,A5];omega
    rw [j]at hm;cases hm
   exact e
  |cons x l=>
   rw [j]at a;have t:(x::l).length<=10:=by
    rw [<-j];unfold Ox;rw [Be];have:=CM (MU f) (List.range f.Blocks.length);rw [Ca]at this;omega
   have m:(ln (x::l)==0)=false:=by simp [ln];omega
   rw [m];simp only [Ab];have p:gi (x::l) 0=some x:=A9 (i:=0);rw [p];simp only [Aa]
   have k:∀y,S7 f y 0->∃z,gi f.Blocks y=some z:=λy ⟨z,hz,_⟩=>⟨z,hz⟩
   obtain⟨w,w1,w2⟩:=TO (body:=λs:Int×Int=>EY f (x::l) s.1 s.2) (λ(b:Int) i=>(b,i)) (x::l).length (λ_ b=>S7 f b 0) (λb=>S7 f b 0)
    (λb i hi hb=>by
     have hg:(x::l)[i]?=some (x::l)[i]:=Ac hi;have hp:=a _ (AE hi);obtain⟨z1,q⟩:=k _ hp;obtain⟨z2,r⟩:=k _ hb;simp only [EY,AC,Ad hi,Ae,A9,hg,Aa,q,r];rw [ad1 (by omega)]
     cases decide (z1.Wear<z2.Wear)with
     |true=>exact .inl ⟨_,rfl,hp⟩
     |false=>exact .inl ⟨_,rfl,hb⟩)
    (λb hb=>⟨b,by simp only [EY,AC,Ao,Aq,Ab],hb⟩) l.length 1 x (by simp;omega) (a x (by simp))
   have e1':((1:Nat):Int)=1:=rfl;rw [e1']at w1;rw [w1];exact⟨w,0,true,rfl,λ_=>w2,by simp⟩
 obtain⟨k1,k2⟩:=Dd o2;rw [Ad (by omega),Ae,o2];simp only [Aa];rw [MG x (h.blk x (A3 k2)).four];exact⟨_,_,true,rfl,λ_=>⟨x,o2,o3,rfl,o4⟩,by simp⟩
def uW (f:Flash) (b:Int):Prop:=∃x,gi f.Blocks b=some x/\x.Bad=false/\x.Wear≠1000000000
def Tc (f:Flash) (b:Int):Flash:=Flash.mk (match gi f.Blocks b with
 |some x=>si f.Blocks b (Block.mk false (x.Wear+1) Nf)
 |none=>f.Blocks)
theorem r7 (h:BN f) (b:Int):(uW f b/\Sy f b=some (Tc f b,true))\/(¬uW f b/\Sy f b=some (f,false)):=by
 have hn:=h.n;unfold Sy;rw [Dp f h.cap,O7 h];simp only [Aa,Ai,Ab];rw [BG,Cw (by omega) (by omega),E4];simp only [Aa];by_cases hb:0<=b/\b<=(f.Blocks.length:Int)-1
 ·rw [Ad hb];simp only [Ai,Ab];have hg:=K2 (l:=f.Blocks) hb.1 (by omega);have hm:f.Blocks[b.toNat]'(by omega)∈f.Blocks:=AE _;generalize c:f.Blocks[b.toNat]'(by omega)=x at hg hm;have hP:=h.blk x hm;rw [hg];simp only [Aa]
  cases a:x.Bad with
  |true=>
   refine .inr ⟨?_,rfl⟩;rintro⟨z,hz,h2,_⟩;rw [hg]at hz
   injection hz with hz
   rw [<-hz,a]at h2;cases h2
  |false=>
   simp only [Ab,Aa];by_cases hw:x.Wear=1000000000
   ·rw [show(x.Wear==1000000000)=true by simpa using hw];refine .inr ⟨?_,rfl⟩;rintro⟨z,hz,_,h3⟩;rw [hg]at hz
    injection hz with hz
    rw [<-hz]at h3;exact h3 hw
   rw [show(x.Wear==1000000000)=false by simpa using hw];simp only [Ab];rw [R3];simp only [Aa];have:=hP.wear;rw [CA (by omega) (by omega)];refine .inl ⟨⟨x,hg,a,hw⟩,?_⟩;unfold Tc;rw [hg]
 rw [Af hb];refine .inr ⟨?_,rfl⟩;rintro⟨z,hz,_⟩;obtain⟨k1,k2⟩:=Dd hz;have:=(Ah.1 k2).1;omega
theorem iK {bad:Bool} {w:Int} (h:0<=w/\w<=1000000000):KU (Block.mk bad w Nf):=by
 refine⟨rfl,h,λx hx=> .inl ?_,λk x y hx hy _=>?_⟩
 ·have:=Cr hx;rw [this];exact⟨rfl,rfl⟩
 have:=Cr (A3 hy);rw [this]
theorem TF (i:Int):∀(k:Int) (l:List Leaf),(∀x∈l,x.Is≠1)->V7 i k l=[]
 |k,[],_=>rfl
 |k,x::l,h=>by
  rw [V7,TF i (k+1) l (λy hy=>h y (by simp [hy]))];unfold pg;rw [Ay (h x (by simp))];rfl
theorem Vp {b:Int} (h:BN f) (hc:uW f b):BN (Tc f b)/\Kg 0 (Tc f b).Blocks=(Kg 0 f.Blocks).filter λy=>y.Block !=b:=by
 obtain⟨x,h1,h2,h3⟩:=hc;obtain⟨k1,k2⟩:=Dd h1;obtain⟨c,rfl⟩:∃c:Nat,b=(c:Int):=⟨_,(Bm k1).symm⟩;rw [Ba]at k2;have hP:=h.blk x (A3 k2);have hw:=hP.wear;unfold Tc;rw [h1];simp only [Ep];exact⟨L8 h (iK ⟨by omega,by omega⟩),V9 k2 (TF _ _ _ λy hy=>by rw [Cr hy];simp)⟩
def Qj (f:Flash) (s:Bu):Prop:=(s.Kind=1/\gD f s.Block s.Leaf s.Text)\/(s.Kind=2/\uW f s.Block)
def Jy (f:Flash) (s:Bu):Flash:=if s.Kind=1 then prog f s.Block s.Leaf (Leaf.mk 1 s.Text)else Tc f s.Block
theorem OV (h:BN f) (s:Bu):(Qj f s/\Ja f s=some (Jy f s,true))\/(¬Qj f s/\Ja f s=some (f,false)):=by
 unfold Ja;by_cases k1:s.Kind=1
 ·rw [show(s.Kind==1)=true by simpa using k1];simp only [Ae]
  rcases fK h s.Block s.Leaf s.Text with⟨h1,h2⟩|⟨h1,h2⟩
  ·rw [h2];exact .inl ⟨.inl ⟨k1,h1⟩,by unfold Jy;rw [Ax k1];rfl⟩
  rw [h2];exact .inr ⟨by rintro(hh|hh);exact h1 hh.2;omega,rfl⟩
 rw [show(s.Kind==1)=false by simpa using k1];simp only [Ab];by_cases k2:s.Kind=2
 ·rw [show(s.Kind==2)=true by simpa using k2];simp only [Ae]
  rcases r7 h s.Block with⟨h1,h2⟩|⟨h1,h2⟩
  ·rw [h2];exact .inl ⟨.inr ⟨k2,h1⟩,by unfold Jy;rw [Ay k1];rfl⟩
  rw [h2];exact .inr ⟨by rintro(hh|hh);omega;exact h1 hh.2,rfl⟩
 rw [show(s.Kind==2)=false by simpa using k2];simp only [Ab];rw [Dp f h.cap];exact .inr ⟨by rintro(hh|hh)<;>omega,rfl⟩
theorem m8 {s:Bu} (h:BN f) (hs:Qj f s):BN (Jy f s):=by
 unfold Jy
 rcases hs with⟨h1,h2⟩|⟨h1,h2⟩
 ·rw [Ax h1];exact(Pg h h2).1
 rw [Ay (by omega)];exact(Vp h h2).1
theorem Xa {t:ByteArray} {ok:Bool} (h:BN f) (steps:List Bu) (hs:steps.length<=1000) (p:Page) (ht:Ez p=some (t,ok)) (hl:ok=true->1<=(L t).length/\(L t).length<=120):
  (ok=true/\∃b l,S7 f b l/\KG f=some (b,l,true)/\Hl f steps p=some (prog f b l (Leaf.mk 1 t),steps++ [Bu.mk 1 b l t],true))\/Hl f steps p=some (f,steps,false):=by
 obtain⟨b,l,room,p1,p2,_⟩:=fN h;unfold Hl;rw [ht,p1];simp only [Aa]
 cases ok with
 |false=>exact .inr rfl
 |true=>
  simp only [Ai,Ab,Aa]
  cases room with
  |false=>exact .inr rfl
  |true=>
   simp only [Ai,Ab];have hp:=p2 rfl;have hl':=hl rfl;have hm:gD f b l t:=by
    obtain⟨x,a1,a2,a3,a4⟩:=hp;exact⟨x,a1,a2,a3,a4,hl'⟩
   rcases OV h (Bu.mk 1 b l t)with⟨h1,h2⟩|⟨h1,h2⟩
   ·rw [h2];simp only [Aa];rw [Cn (by simp;omega)];refine .inl ⟨trivial,b,l,hp,rfl,?_⟩;unfold Jy;rfl
   exact absurd (.inl ⟨rfl,hm⟩) h1
theorem iN (u:ByteArray) (hu:(L u).length<=20000) (a:Nat) (ha:a<=(L u).length):∃n c,Du (E0.mk u (a:Int) false)=some (n,c)/\c.text_=u/\(c.bad_=true\/c.bad_=false/\∃b:Nat,c.at_=b/\a<b/\b<=(L u).length)/\(c.bad_=true->c.at_=a):=by
 obtain⟨r,h1,_,h2⟩:=Iv u (a:Int) (by omega) ⟨by omega,by omega⟩;rw [JF u _ hu h1]
 rcases h2 with⟨e1,e2,e3⟩|⟨e1,a',b,n,k1,k2,k3,k4,k5,_⟩
 ·rw [e1];exact⟨_,_,rfl,rfl,.inl rfl,λ_=>rfl⟩
 rw [e1];refine⟨_,_,rfl,rfl,.inr ⟨rfl,b,k2,by omega,k5⟩,λhh=>by cases hh⟩
theorem nI (t:ByteArray) (ht:(L t).length<=20000):∀(n a:Nat) (b:List De),(L t).length-a<=n->a<=(L t).length->b.length<=a->∃r,Au (λs:List De×ByteArray×Int×Bool=>DM t s.1 s.2.1 s.2.2.1 s.2.2.2) (b,t,(a:Int),false)=some r/\(r= .inr ([],false)\/∃l:List De,r= .inl l/\l.length<=(L t).length)
 |n,a,b,hn,ha,ho=>by
  rw [A7];simp only [DM];rw [BH];by_cases c:a<(L t).length
  ·rw [Ad (by omega:(a:Int)<((L t).length:Int))];simp only [Ae,Aa,AG];rw [EU t c,ad1 (by omega)];simp only [Aa];obtain⟨n1,c1,v1,t1,h1,z1⟩:=iN t ht (a+1) (by omega);rw [v1];simp only [Aa]
   rcases h1 with e1|⟨e1,b1,k1,k2,k3⟩
   ·
    have hz:=z1 e1;obtain⟨c1t,c1a,c1b⟩:=c1;simp only at t1 e1 hz;subst t1 e1 hz;rw [Hj _ _ ht ⟨by omega,by omega⟩];exact⟨_,rfl,.inl rfl⟩
   obtain⟨c1t,c1a,c1b⟩:=c1;simp only at t1 e1 k1;subst t1 e1 k1;obtain⟨n2,c2,v2,t2,h2,z2⟩:=iN c1t ht b1 k3;rw [v2];simp only [Aa]
   rcases h2 with e2|⟨e2,b2,m1,m2,m3⟩
   ·rw [e2];exact⟨_,rfl,.inl rfl⟩
   rw [e2];simp only [Ab];rw [Mu];simp only [Aa]
   cases Gx _ with
   |false=>exact⟨_,rfl,.inl rfl⟩
   |true=>
    simp only [Ai,Ab];rw [Cn (by simp;omega),t2,m1];simp only [Aa]
    match n,hn with
    |n+1,hn=>exact nI c1t ht n b2 _ (by omega) m3 (by simp;omega)
    |0,hn=>omega
  rw [Af (by omega)];exact⟨_,rfl,.inr ⟨_,rfl,by omega⟩⟩
noncomputable def ZK (t:ByteArray):Option (List De):=match Ic t with
 |some (l,true)=>some l
 |_=>none
theorem Yx (t:ByteArray) (ht:(L t).length<=20000):∃l ok,Ic t=some (l,ok)/\ZK t=(if ok=true then some l else none)/\l.length<=20000:=by
 obtain⟨r,h1,h2⟩:=nI t ht (L t).length 0 [] (by omega) (by omega) (by simp);unfold ZK Ic;have h1':Au (λs:List De×ByteArray×Int×Bool=>DM t s.1 s.2.1 s.2.2.1 s.2.2.2) ([],t,0,false)=some r:=h1;rw [h1']
 rcases h2 with rfl|⟨l,rfl,h3⟩
 ·exact⟨[],false,rfl,rfl,by simp⟩
 exact⟨l,true,rfl,rfl,by omega⟩
def jE (t a b:Int) (y:A8):Bool:=y.Page.Kind==2&&(y.Page.Tx==t&&(y.Page.Part==a&&(!decide (a>0)||y.Page.Count==b)))
def PY (r:List A8) (t a b:Int):Option A8:=r.find? (jE t a b)
theorem dT {x:α} (l:List α) (p:α->Bool) (h:∀j x,j<i->l[j]?=some x->p x=false) (hx:l[i]?=some x) (hp:p x=true):l.find? p=some x:=by
 obtain⟨h1,h2⟩:=Jr hx;rw [h1,List.find?_append];have:(l.take i).find? p=none:=by
  rw [Fl];intro y hy;obtain⟨j,hj,rfl⟩:=AI hy;rw [AH]at hj;rw [JQ];rw [h j _ (by omega) (Ac _)];simp
 rw [this,Option.none_or,List.find?_cons_of_pos hp]
theorem oH (l:List α) (p:α->Bool) (h:∀(j:Nat) x,l[j]?=some x->p x=false):l.find? p=none:=by
 rw [Fl];intro y hy;obtain⟨j,hj,rfl⟩:=AI hy;rw [h j _ (Ac hj)];simp
structure Gs (r:List A8):Prop where
 len:r.length<=1048576
 text:∀y∈r,(L y.Page.Text).length<=90
 seq:∀y∈r,1<=y.Page.Seq/\y.Page.Seq<=1000000000
 tx:∀y∈r,1<=y.Page.Tx/\y.Page.Tx<=1000000000
 cnt:∀y∈r,1<=y.Page.Count/\y.Page.Count<=9
 part:∀y∈r,0<=y.Page.Part/\y.Page.Part<y.Page.Count
def MP (a seq:Int) (y:A8):Int:=if a=0\/y.Page.Seq<seq then y.Page.Seq else seq
theorem tU (r:List A8) (hr:Gs r) (t a c:Int) (hp:0<=a) (text:ByteArray) (ht:(L text).length<=10000) (seq:Int):
  ∃text2,Au (λs:Int×ByteArray×Bool×Int×Int=>Jo r t a s.1 s.2.1 s.2.2.1 s.2.2.2.1 s.2.2.2.2) (c,text,false,0,seq)=some (match PY r t a c with
   |none=>(c,text,false,seq)
   |some y=>(y.Page.Count,text2,true,MP a seq y))/\(∀y,PY r t a c=some y->L text2=L text++L y.Page.Text):=by
 have k:=hr.len;obtain⟨b,h1,h2⟩:=Bg (body:=λs:Int×ByteArray×Bool×Int×Int=>Jo r t a s.1 s.2.1 s.2.2.1 s.2.2.2.1 s.2.2.2.2) (λ(s:Int×ByteArray×Bool×Int) i=>(s.1,s.2.1,s.2.2.1,i,s.2.2.2)) r.length
  (λi s=>(s=(c,text,false,seq)/\∀(j:Nat) x,j<i->r[j]?=some x->jE t a c x=false)\/∃y u,PY r t a c=some y/\L u=L text++L y.Page.Text/\s=(y.Page.Count,u,true,MP a seq y))
  (λb=>(b=(c,text,false,seq)/\PY r t a c=none)\/∃y u,PY r t a c=some y/\L u=L text++L y.Page.Text/\b=(y.Page.Count,u,true,MP a seq y))
  (λs i hi hs=>by
   have hx:=Ac hi;have hm:r[i]∈r:=AE hi;simp only [Jo,AC,Ad hi,Ae,Aa]
   rcases hs with⟨rfl,hs⟩|⟨y,u,f1,f2,rfl⟩
   ·simp only [AG,Ae,A9,hx,Aa];have f:(bif(r[i].Page.Kind !=2)then(some true)else(bif(r[i].Page.Tx !=t)then(some true)else(bif(r[i].Page.Part !=a)then(some true)else(bif(decide (a>0))then(some (r[i].Page.Count !=c))else(some false)))):Option Bool)=some (!jE t a c r[i]):=by
     unfold jE;simp only [bne];cases r[i].Page.Kind==2<;>cases r[i].Page.Tx==t<;>cases r[i].Page.Part==a<;>cases decide (a>0)<;>cases r[i].Page.Count==c<;>rfl
    rw [f];simp only [Aa];rw [ad1 (by omega)]
    cases hM:jE t a c r[i]with
    |false=>
     refine .inl ⟨_,rfl,.inl ⟨rfl,λj x hj d=>?_⟩⟩;by_cases e:j=i
     ·subst e;rw [hx]at d
      injection d with d
      rw [<-d];exact hM
     exact hs j x (by omega) d
    |true=>
     have l:=hr.text _ hm;simp only [Ai,Ab];rw [FE _ _ (by omega)];simp only [Aa];have hf:PY r t a c=some r[i]:=dT r _ (λj x hj d=>hs j x hj d) hx hM;have g:(bif(a==0)then(some true)else(some (decide (r[i].Page.Seq<seq))):Option Bool)=some (decide (a=0\/r[i].Page.Seq<seq)):=by
      by_cases e:a=0
      ·rw [show(a==0)=true by simpa using e,Ad (show a=0\/r[i].Page.Seq<seq from .inl e)];rfl
      rw [show(a==0)=false by simpa using e];simp only [Ab];by_cases e2:r[i].Page.Seq<seq
      ·rw [Ad e2,Ad (show a=0\/r[i].Page.Seq<seq from .inr e2)]
      rw [Af e2,Af (by rintro(h|h);exact e h;exact e2 h)]
     rw [g];simp only [Aa];refine .inl ⟨(r[i].Page.Count,text++r[i].Page.Text,true,MP a seq r[i]),?_,.inr ⟨r[i],_,hf,DC _ _,rfl⟩⟩;unfold MP;by_cases e:a=0\/r[i].Page.Seq<seq
     ·rw [Ad e,Ax e];rfl
     rw [Af e,Ay e];rfl
   simp only [Ai,Ab]
   exact .inr ⟨_,rfl,.inr ⟨y,u,f1,f2,rfl⟩⟩)
  (λs hs=>by
   refine⟨s,by simp only [Jo,AC,Ao,Aq,Ab,Aa],?_⟩
   rcases hs with⟨rfl,hs⟩|hs
   ·exact .inl ⟨rfl,oH r _ λj x hx=>hs j x (Ah.1 hx).1 hx⟩
   exact .inr hs) (s:=(c,text,false,seq)) (.inl ⟨rfl,λj x hj=>by omega⟩)
 have h1':Au (λs:Int×ByteArray×Bool×Int×Int=>Jo r t a s.1 s.2.1 s.2.2.1 s.2.2.2.1 s.2.2.2.2) (c,text,false,0,seq)=some b:=h1;rw [h1']
 rcases h2 with⟨rfl,h2⟩|⟨y,u,f1,f2,rfl⟩
 ·rw [h2];exact⟨text,rfl,λy hy=>by cases hy⟩
 rw [f1];refine⟨u,rfl,λz hz=>?_⟩
 injection hz with hz
 rw [<-hz];exact f2
def parts (r:List A8) (t:Int):Nat->Int->Int->List UInt8->Int->Option (List UInt8×Int)
 |0,_,_,_,_=>none
 |n+1,a,c,b,seq=>if a=0\/a<c then(match PY r t a c with
  |none=>none
  |some y=>parts r t n (a+1) y.Page.Count (b++L y.Page.Text) (MP a seq y))else some (b,seq)
theorem nZ {t a b:Int} (h:jE t a b y=true) (hp:0<a):y.Page.Count=b:=by
 unfold jE at h;simp only [Al,C3,CE,AY,Dt]at h
 rcases h.2.2.2 with h|h
 ·omega
 exact h
theorem QX {t a b:Int} (h:PY r t a b=some y):y∈r/\jE t a b y=true:=⟨List.mem_of_find?_eq_some h,List.find?_some h⟩
theorem gG (r:List A8) (hr:Gs r) (t:Int):∀(n:Nat) (part cnt:Int) (text:ByteArray) (seq:Int),part+n=11->0<=part->(part=0\/(part<=cnt/\cnt<=9))->(L text).length<=90*part.toNat->
  ∃b,Au (λs:Int×ByteArray×Int×Int=>OM r t s.1 s.2.1 s.2.2.1 s.2.2.2) (cnt,text,part,seq)=some b/\(match parts r t n part cnt (L text) seq with
   |none=>∃q,b= .inr (Tx.mk t q [],false)
   |some (x,q)=>∃u,b= .inl (u,q)/\L u=x/\(L u).length<=1000)
 |0,part,cnt,text,seq,hn,h0,hc,ht=>by omega
 |n+1,part,cnt,text,seq,hn,h0,hc,ht=>by
  rw [A7];simp only [OM,parts];have a:(bif(part==0)then(some true)else(some (decide (part<cnt))):Option Bool)=some (decide (part=0\/part<cnt)):=by
   by_cases e:part=0
   ·rw [show(part==0)=true by simpa using e,Ad (show part=0\/part<cnt from .inl e)];rfl
   rw [show(part==0)=false by simpa using e];simp only [Ab];by_cases e2:part<cnt
   ·rw [Ad e2,Ad (show part=0\/part<cnt from .inr e2)]
   rw [Af e2,Af (by rintro(h|h);exact e h;exact e2 h)]
  rw [a];simp only [Aa];by_cases e:part=0\/part<cnt
  ·rw [Ad e,Ax e];simp only [Ae];obtain⟨text2,h1,h2⟩:=tU r hr t part cnt h0 text (by omega) seq;rw [h1]
   cases hf:PY r t part cnt with
   |none=>
    simp only [Aa,AG,Ae];exact⟨_,rfl,_,rfl⟩
   |some y=>
    simp only [Aa,Ai,Ab];have hy:=QX hf;have hL:=h2 y hf;have c:=hr.text y hy.1;have d:=hr.cnt y hy.1;rw [CA (by omega) (by omega),<-hL];refine gG r hr t n (part+1) y.Page.Count text2 _ (by omega) (by omega) (.inr ?_) ?_
    ·rcases e with e|e
     ·have:=hr.part y hy.1;omega
     by_cases e2:part=0
     ·omega
     have:=nZ hy.2 (by omega);omega
    rw [hL,Ag];omega
  rw [Af e,Ay e];simp only [Ab];exact⟨_,rfl,text,rfl,rfl,by omega⟩
noncomputable def HB (r:List A8) (t:Int):Option Tx:=match parts r t 11 0 0 [] 0 with
 |none=>none
 |some (x,q)=>(ZK (bs x)).map λl=>Tx.mk t q l
theorem ABz (u:ByteArray):bs (L u)=u:=Iw (by rw [DV])
theorem Z8 (r:List A8) (hr:Gs r) (t:Int):∃x ok,Wn r t=some (x,ok)/\HB r t=(if ok=true then some x else none)/\x.Recs.length<=20000:=by
 obtain⟨b,h1,h2⟩:=gG r hr t 11 0 0 (bs []) 0 (by omega) (by omega) (.inl rfl) (by rw [DV];simp);rw [DV]at h2;unfold Wn HB;rw [h1];simp only [Aa]
 cases hp:parts r t 11 0 0 [] 0 with
 |none=>
  rw [hp]at h2;obtain⟨z,rfl⟩:=h2;exact⟨_,_,rfl,rfl,by simp⟩
 |some w=>
  obtain⟨x,q⟩:=w;rw [hp]at h2;obtain⟨u,rfl,rfl,h4⟩:=h2;simp only [By];obtain⟨l,ok,r1,r2,r3⟩:=Yx u (by omega);rw [r1,ABz,r2];simp only [Aa]
  cases ok with
  |true=>exact⟨_,_,rfl,rfl,r3⟩
  |false=>exact⟨_,_,rfl,rfl,r3⟩
theorem TA {P:List α->Prop} (nil:P []) (app:∀l x,P l->P (l++ [x])) (l:List α):P l:=by
 rw [<-List.reverse_reverse l]
 induction l.reverse with
 |nil=>exact nil
 |cons x l ih=>rw [List.reverse_cons];exact app _ _ ih
def Do (r:List A8):List Int:=r.foldl (λns y=>if y.Page.Kind=2 then uC ns y.Page.Tx else ns) []
theorem TJ (r:List A8) (y:A8):Do (r++ [y])=if y.Page.Kind=2 then uC (Do r) y.Page.Tx else Do r:=by unfold Do;rw [HI];rfl
theorem GH (r:List A8) (h:∀y∈r,1<=y.Page.Tx):asc (Do r)/\(∀x,x∈Do r↔∃y∈r,y.Page.Kind=2/\y.Page.Tx=x)/\(Do r).length<=r.length:=by
 have main:∀n,n<=r.length->asc (Do (r.take n))/\(∀x,x∈Do (r.take n)↔∃y∈r.take n,y.Page.Kind=2/\y.Page.Tx=x)/\(Do (r.take n)).length<=n:=by
  intro n
  induction n with
  |zero=>intro _;simp [Do,asc]
  |succ n ih=>
   intro hn;obtain⟨h1,h2,h3⟩:=ih (by omega);have et:r.take (n+1)=r.take n++ [r[n]'(by omega)]:=Av (by omega);have hy:=h _ (AE (show n<r.length by omega));generalize r[n]'(by omega)=y at et hy;rw [et,TJ]
   have a:∀z∈Do (r.take n),0<z:=λz hz=>by
    obtain⟨w,hw,_,h5⟩:=(h2 z).1 hz;have:=h w (List.mem_of_mem_take hw);omega
   by_cases e:y.Page.Kind=2
   ·rw [Ax e];refine⟨oD h1,λx=>?_,by have:=XE (Do (r.take n)) y.Page.Tx h1;omega⟩;rw [oC a,h2 x];simp only [Aj,Aw];constructor
    ·rintro(⟨w,hw,hk,ht⟩|⟨rfl,h0⟩)
     ·exact⟨w,.inl hw,hk,ht⟩
     exact⟨y,.inr rfl,e,rfl⟩
    rintro⟨w,hw|rfl,hk,ht⟩
    ·exact .inl ⟨w,hw,hk,ht⟩
    exact .inr ⟨ht.symm,by omega⟩
   rw [Ay e];refine⟨h1,λx=>?_,by omega⟩;rw [h2 x];simp only [Aj,Aw];constructor
   ·rintro⟨w,hw,hk,ht⟩;exact⟨w,.inl hw,hk,ht⟩
   rintro⟨w,hw|rfl,hk,ht⟩
   ·exact⟨w,hw,hk,ht⟩
   exact absurd hk e
 have:=main r.length (A4 _);rw [AN]at this;exact this
theorem YR (r:List A8) (hr:Gs r):Au (λs:List Int×Int=>JD r s.1 s.2) ([],0)=some (Do r):=by
 have d:=hr.len;obtain⟨b,h1,h2⟩:=Bg (body:=λs:List Int×Int=>JD r s.1 s.2) (λ(o:List Int) i=>(o,i)) r.length (λi o=>o=Do (r.take i)) (λb=>b=Do r)
  (λo i hi ho=>by
   have hx:=Ac hi;have hm:r[i]∈r:=AE hi;have f:=(hr.tx _ hm).1;have a:=GH (r.take i) (λy hy=>(hr.tx y (List.mem_of_mem_take hy)).1);have g:o.length<=1048576:=by rw [ho];have:=a.2.2;rw [AH]at this;omega
   have et:r.take (i+1)=r.take i++ [r[i]]:=Av hi;simp only [JD,AC,Ad hi,Ae,A9,hx,Aa];rw [ad1 (by omega)];refine .inl ?_;by_cases e:r[i].Page.Kind=2
   ·rw [show(r[i].Page.Kind !=2)=false by simp [e]];simp only [Ab]
    rw [RI (body:=λs:List Int×Int=>L3 o r[i] s.1 s.2) o (λy=>decide (y<r[i].Page.Tx)) [] (by simp;omega)
     (λu k x hk hu=>by
      have c:=(Ah.1 hk).1
      simp only [L3,AC,Ad c,Ae,A9,hk,Aa])
     (λu=>by simp only [L3,AC,Ao,Aq,Ab])]
    simp only [Aa,A6];have h:=CM (λy=>decide (y<r[i].Page.Tx)) o;rw [Cn (by simp only [Ak];omega)];simp only [Aa]
    rw [RI (body:=λs:List Int×Int=>L0 o r[i] s.1 s.2) o (λy=>decide (y>r[i].Page.Tx)) _ (by simp only [Ag,Ak];omega)
     (λu k x hk hu=>by
      have c:=(Ah.1 hk).1
      simp only [L0,AC,Ad c,Ae,A9,hk,Aa])
     (λu=>by simp only [L0,AC,Ao,Aq,Ab])]
    simp only [Aa];refine⟨_,rfl,?_⟩;rw [et,TJ,Ax e,<-ho];unfold uC;rw [Ax (by omega)]
   rw [show(r[i].Page.Kind !=2)=true by simpa using e]
   exact⟨o,rfl,by rw [et,TJ,Ay e,ho]⟩)
  (λo ho=>⟨o,by simp only [JD,AC,Ao,Aq,Ab],by rw [ho,AN]⟩) (s:=[]) rfl
 rw [h2]at h1;exact h1
noncomputable def Bz (r:List A8):List Tx:=(Do r).filterMap (HB r)
theorem Rl {x:Tx} (hr:Gs r) (h:HB r t=some x):x.Num=t/\x.Recs.length<=20000:=by
 obtain⟨z,ok,h1,h2,h3⟩:=Z8 r hr t;rw [h]at h2
 cases ok with
 |false=>cases h2
 |true=>
  rw [Ax rfl]at h2
  injection h2 with h2
  subst h2;refine⟨?_,h3⟩;unfold HB at h;split at h
  ·cases h
  obtain⟨l,_,rfl⟩:=AZ.1 h;rfl
theorem Qt (r:List A8) (hr:Gs r):Qu r=some (Bz r):=by
 have c:=hr.len;have a:=GH r (λy hy=>(hr.tx y hy).1);have d:=a.2.2;unfold Qu;rw [YR r hr];simp only [Aa];obtain⟨b,h1,h2⟩:=Bg (body:=λs:List Tx×Int=>JC r (Do r) s.1 s.2) (λ(o:List Tx) i=>(o,i)) (Do r).length (λi o=>o=((Do r).take i).filterMap (HB r)) (λb=>b=Bz r)
  (λo i hi ho=>by
   have hx:=Ac hi;have et:(Do r).take (i+1)=(Do r).take i++ [(Do r)[i]]:=Av hi;have e:o.length<=i:=by
    rw [ho];have:=List.length_filterMap_le (HB r) ((Do r).take i);rw [AH]at this;omega
   simp only [JC,AC,Ad hi,Ae,A9,hx,Aa];rw [ad1 (by omega)];obtain⟨z,ok,k1,k2,k3⟩:=Z8 r hr (Do r)[i];rw [k1];simp only [Aa];refine .inl ?_
   cases ok with
   |true=>
    simp only [Ae];rw [Cn (by simp only [Ak];omega)];refine⟨_,rfl,?_⟩;rw [et,JO,ho];simp only [Qb,List.filterMap_nil,k2,BW]
   |false=>
    refine⟨o,rfl,?_⟩;rw [et,JO,ho]
    simp [k2])
  (λo ho=>⟨o,by simp only [JC,AC,Ao,Aq,Ab],by rw [ho,AN];rfl⟩) (s:=[]) rfl
 have h1':Au (λs:List Tx×Int=>JC r (Do r) s.1 s.2) ([],0)=some b:=h1;rw [h1',h2];rfl
def aB (x:Tx):Bool:=match x.Recs with
 |[]=>false
 |r::_=>r.Kind==1
def lQ (l:List Tx):Nat:=l.zipIdx.foldl (λa z=>if aB z.1=true then z.2 else a) 0
def Dc (l:List Tx):List Tx:=l.drop (lQ l)
theorem PF (l:List Tx) (x:Tx):lQ (l++ [x])=if aB x=true then l.length else lQ l:=by
 unfold lQ;rw [List.zipIdx_append,HI];simp
theorem lP (l:List Tx):lQ l<=l.length:=by
 induction l using TA with
 |nil=>simp [lQ]
 |app l x ih=>
  rw [PF,Ag];split<;>simp<;>omega
theorem Ro (l:List Tx) (x:Tx):Dc (l++ [x])=if aB x=true then [x]else Dc l++ [x]:=by
 unfold Dc;rw [PF];by_cases e:aB x=true
 ·rw [Ax e,Ax e,EO rfl]
 rw [Ay e,Ay e,List.drop_append_of_le_length (lP l)]
theorem eW (l:List Tx):∃A,l=A++Dc l/\(A≠ []->∃x B,Dc l=x::B/\aB x=true)/\∀x B,Dc l=x::B->∀y∈B,aB y=false:=by
 induction l using TA with
 |nil=>exact⟨[],rfl,λh=>absurd rfl h,λx B h=>by cases h⟩
 |app l x ih=>
  obtain⟨A,h1,h2,h3⟩:=ih;rw [Ro];by_cases e:aB x=true
  ·rw [Ax e];exact⟨l,rfl,λ_=>⟨x,[],rfl,e⟩,λy B h=>by injection h with _ h;subst h;intro z hz;cases hz⟩
  rw [Ay e];refine⟨A,by rw [<-Ap,<-h1],λhA=>?_,λy B h=>?_⟩
  ·obtain⟨y,B,h4,h5⟩:=h2 hA;exact⟨y,B++ [x],by rw [h4];rfl,h5⟩
  cases hs:Dc l with
  |nil=>
   rw [hs]at h
   injection h with _ h
   subst h;intro z hz;cases hz
  |cons w B'=>
   rw [hs]at h
   injection h with h4 h5
   subst h4 h5;intro z hz;have hz:z∈B'++ [x]:=hz;rw [Aj,Aw]at hz
   rcases hz with hz|rfl
   ·exact h3 w B' hs z hz
   simpa using e
theorem rV (A:List Tx):∀(B:List Tx),(A≠ []->∃x B',B=x::B'/\aB x=true)->(∀x B',B=x::B'->∀y∈B',aB y=false)->Dc (A++B)=B:=by
 intro B
 induction B using TA with
 |nil=>
  intro h1 _
  cases A with
  |nil=>rfl
  |cons a A=>obtain⟨x,B',h,_⟩:=h1 (by simp);cases h
 |app B y ih=>
  intro h1 h2;rw [<-Ap,Ro]
  cases B with
  |nil=>
   by_cases e:aB y=true
   ·rw [Ax e];rfl
   rw [Ay e]
   cases A with
   |nil=>rfl
   |cons a A=>
    obtain⟨x,B',h,h3⟩:=h1 (by simp)
    injection h with h4 h5
    rw [h4]at e;exact absurd h3 e
  |cons b B=>
   have hy:aB y=false:=h2 b (B++ [y]) rfl y (by simp);rw [Ay (by rw [hy];simp),ih]
   ·intro hA;obtain⟨x,B',h,h3⟩:=h1 hA
    injection h with h4 h5
    exact⟨b,B,rfl,by rw [h4];exact h3⟩
   intro x B' h z hz
   injection h with h4 h5
   subst h4 h5;exact h2 b (B++ [y]) rfl z (by simp [hz])
theorem Qs (l:List Tx) (hl:l.length<=1048576) (hr:∀x∈l,x.Recs.length<=20000):Nv l=some (Dc l):=by
 unfold Nv;obtain⟨b,h1,h2⟩:=Bg (body:=λs:Int×Int=>GA l s.1 s.2) (λ(o:Int) i=>(o,i)) l.length (λi o=>o=(lQ (l.take i):Int)) (λb=>b=(lQ l:Int))
  (λo i hi ho=>by
   have hx:=Ac hi;have et:l.take (i+1)=l.take i++ [l[i]]:=Av hi;simp only [GA,AC,Ad hi,Ae,A9,hx,Aa];rw [ad1 (by omega)];refine .inl ?_;have d:(l.take i).length=i:=by rw [AH];omega
   cases a:l[i].Recs with
   |nil=>
    refine⟨o,rfl,?_⟩;rw [et,PF,Ay (by unfold aB;rw [a];simp),ho]
   |cons q m=>
    have hg:gi (q::m) 0=some q:=A9 (i:=0);rw [Ad (by rw [BG,A0];omega:ln (q::m)>0)];simp only [Ae,hg,Aa]
    cases hk:(q.Kind==1)with
    |true=>
     refine⟨(i:Int),rfl,?_⟩;rw [et,PF,Ax (by unfold aB;rw [a];exact hk),d]
    |false=>
     refine⟨o,rfl,?_⟩
     rw [et,PF,Ay (by unfold aB;rw [a];simp only [];rw [hk];simp),ho])
  (λo ho=>⟨o,by simp only [GA,AC,Ao,Aq,Ab],by rw [ho,AN]⟩) (s:=0) rfl
 have h1':Au (λs:Int×Int=>GA l s.1 s.2) (0,0)=some b:=h1;rw [h1',h2];simp only [Aa];have e:=lP l;obtain⟨c,q1,q2⟩:=TO (body:=λs:List Tx×Int=>HZ l s.1 s.2) (λ(o:List Tx) i=>(o,i)) l.length (λi o=>o=(l.take i).drop (lQ l)/\lQ l<=i) (λb=>b=Dc l)
  (λo i hi hs=>by
   obtain⟨ho,f⟩:=hs;have hx:=Ac hi;have hm:l[i]∈l:=AE hi;have g:=hr _ hm;have et:l.take (i+1)=l.take i++ [l[i]]:=Av hi;have h:o.length<=1048576:=by rw [ho,B7,AH];omega
   simp only [HZ,AC,Ad hi,Ae,A9,hx,Aa];rw [KS (by omega)];simp only [Aa];rw [Cn (by simp only [Ak];omega)];simp only [Aa];rw [ad1 (by omega)];refine .inl ⟨_,rfl,?_,by omega⟩
   rw [et,List.drop_append_of_le_length (by rw [AH];omega),<-ho])
  (λo hs=>⟨o,by simp only [HZ,AC,Ao,Aq,Ab],by rw [hs.1,AN];rfl⟩) (l.length-lQ l) (lQ l) [] (by omega) ⟨by rw [CZ];rw [AH];omega,A4 _⟩
 rw [q1,q2];rfl
def CV (l:Vs) (nx:Int) (a:List De):Option (Vs×Int):=a.foldl (λo r=>o.bind λp=>D7 p.1 p.2 r) (some (l,nx))
theorem Ra (a:List De):a.foldl (λ(o:Option (Vs×Int)) r=>o.bind λp=>D7 p.1 p.2 r) none=none:=by
 induction a with
 |nil=>rfl
 |cons r l ih=>rw [LV];exact ih
theorem EI (l:Vs) (nx:Int) (r:De) (a:List De):CV l nx (r::a)=(D7 l nx r).bind λp=>CV p.1 p.2 a:=by
 unfold CV;rw [LV];simp only [Aa]
 cases D7 l nx r with
 |none=>exact Ra a
 |some p=>rfl
theorem Lj (l:Vs) (nx:Int) (a b:List De):CV l nx (a++b)=(CV l nx a).bind λp=>CV p.1 p.2 b:=by
 unfold CV;rw [HI]
 cases a.foldl (λ(o:Option (Vs×Int)) r=>o.bind λp=>D7 p.1 p.2 r) (some (l,nx))with
 |none=>exact Ra b
 |some p=>rfl
def MV (s:Store) (a:List De) (o:Option (Store×Bool)):Prop:=match CV (BJ s) s.Next a with
 |none=>o=some (s,false)
 |some (l,nx)=>∃t,o=some (t,true)/\Dn t/\BJ t=l/\t.Next=nx
theorem QZ (h:Dn s) (a:List De) (hr:a.length<=1048576):MV s a (Jq s a):=by
 have hl:=h.len;have e:=Ll h.ar (by have:=h.few;omega);have c:=FZ s e (by omega);unfold Jq;rw [c];simp only [Aa];obtain⟨b,h1,h2⟩:=Bg (body:=λq:Int×List Vol×List BL×Int=>DO s a q.1 q.2.1 q.2.2.1 q.2.2.2) (λ(t:Store) i=>(i,t.Vols,t.Arena.Knots,t.Next)) a.length
  (λi t=>Dn t/\CV (BJ s) s.Next (a.take i)=some (BJ t,t.Next))
  (λb=>(b= .inr (s,false)/\CV (BJ s) s.Next a=none)\/∃t,b= .inl (t.Vols,t.Arena.Knots,t.Next)/\Dn t/\CV (BJ s) s.Next a=some (BJ t,t.Next))
  (λt i hi hs=>by
   obtain⟨hP,he⟩:=hs;have hx:=Ac hi;obtain⟨e1,e2⟩:=Jr hx;have et:a.take (i+1)=a.take i++ [a[i]]:=Av hi;simp only [DO,AC,Ad hi,Ae,A9,hx,Aa];have d:=Ya hP a[i];unfold Lb at d;have f:Store.mk t.Vols (Arena.mk t.Arena.Knots) t.Next=t:=rfl;rw [f]
   cases hv:D7 (BJ t) t.Next a[i]with
   |none=>
    rw [hv]at d;rw [d];simp only [Aa,AG,Ae];rw [c];refine .inr ⟨_,rfl,.inl ⟨rfl,?_⟩⟩;rw [e1,Lj,he];simp only [Aa];rw [EI,hv];rfl
   |some p=>
    obtain⟨l,nx⟩:=p;rw [hv]at d;obtain⟨u,u1,u2,u3,u4⟩:=d;rw [u1];simp only [Aa,Ai,Ab];rw [ad1 (by omega)];refine .inl ⟨u,rfl,u2,?_⟩;rw [et,Lj,he];simp only [Aa];rw [EI,hv];simp only [Aa];rw [u3,u4]
    rfl)
  (λt hs=>⟨_,by simp only [DO,AC,Ao,Aq,Ab],.inr ⟨t,rfl,hs.1,by rw [<-hs.2,AN]⟩⟩) (s:=s) ⟨h,rfl⟩
 have h1':Au (λq:Int×List Vol×List BL×Int=>DO s a q.1 q.2.1 q.2.2.1 q.2.2.2) (0,s.Vols,s.Arena.Knots,s.Next)=some b:=h1;rw [h1'];unfold MV
 rcases h2 with⟨rfl,h2⟩|⟨t,rfl,h2,h3⟩
 ·rw [h2];rfl
 rw [h3];exact⟨t,rfl,h2,rfl,rfl⟩
def Dg (r:List A8):Int:=r.foldl (λm y=>if y.Page.Seq>=m then y.Page.Seq+1 else m) 1
def D9 (r:List A8):Int:=r.foldl (λm y=>if y.Page.Kind=2/\y.Page.Tx>=m then y.Page.Tx+1 else m) 1
def KR (l:List Tx):Int:=match l with
 |[]=>0
 |x::_=>x.Num
def KJ (l:List Tx):Vs×Int:=l.foldl (λp x=>(CV p.1 p.2 x.Recs).getD p) ([],1)
theorem Wm (r:List A8) (y:A8):Dg (r++ [y])=if y.Page.Seq>=Dg r then y.Page.Seq+1 else Dg r:=by unfold Dg;rw [HI];rfl
theorem Tg (r:List A8) (y:A8):D9 (r++ [y])=if y.Page.Kind=2/\y.Page.Tx>=D9 r then y.Page.Tx+1 else D9 r:=by unfold D9;rw [HI];rfl
theorem NN (r:List A8):(∀y∈r,y.Page.Seq<Dg r)/\1<=Dg r/\(∀b,1<=b->(∀y∈r,y.Page.Seq<b)->Dg r<=b):=by
 induction r using TA with
 |nil=>exact⟨λy hy=>(by cases hy),by simp [Dg],λb hb _=>by simpa [Dg]using hb⟩
 |app r x ih=>
  obtain⟨h1,h2,h3⟩:=ih;rw [Wm];refine⟨λy hy=>?_,?_,λb hb a=>?_⟩
  ·rw [Aj,Aw]at hy
   rcases hy with hy|rfl
   ·have:=h1 y hy;split<;>omega
   split<;>omega
  ·split<;>omega
  have:=h3 b hb (λy hy=>a y (by simp [hy]));have:=a x (by simp);split<;>omega
theorem WK (r:List A8):(∀y∈r,y.Page.Kind=2->y.Page.Tx<D9 r)/\1<=D9 r/\(∀b,1<=b->(∀y∈r,y.Page.Kind=2->y.Page.Tx<b)->D9 r<=b):=by
 induction r using TA with
 |nil=>exact⟨λy hy=>(by cases hy),by simp [D9],λb hb _=>by simpa [D9]using hb⟩
 |app r x ih=>
  obtain⟨h1,h2,h3⟩:=ih;rw [Tg];refine⟨λy hy hk=>?_,?_,λb hb a=>?_⟩
  ·rw [Aj,Aw]at hy
   rcases hy with hy|rfl
   ·have:=h1 y hy hk;split<;>omega
   split
   ·omega
   rename_i h;have:¬y.Page.Tx>=D9 r:=λhh=>h ⟨hk,hh⟩;omega
  ·split<;>omega
  have:=h3 b hb (λy hy=>a y (by simp [hy]));split
  ·rename_i h;have:=a x (by simp) h.1;omega
  omega
theorem UK (h:zB f r) (hf:BN f):Gs r:=by
 have a:∀y∈r,(1<=y.Page.Seq/\y.Page.Seq<=1000000000)/\(1<=y.Page.Tx/\y.Page.Tx<=1000000000)/\(1<=y.Page.Count/\y.Page.Count<=9)/\(0<=y.Page.Part/\y.Page.Part<y.Page.Count):=by
  intro y hy;obtain⟨b,x,g1,g2,_,g3⟩:=h.page y hy;obtain⟨_,k1⟩:=Dd g1;obtain⟨_,k2⟩:=Dd g2;have hx:=hf.text b (A3 k1) x (A3 k2);obtain⟨p,ok,m1,_,_,m2⟩:=JN x.Text (by omega);rw [g3]at m1
  injection m1 with m1
  injection m1 with m1 m3
  have hp:=m2 m3.symm;obtain⟨v,q1,_,q2⟩:=RR p;rw [hp]at q1
  injection q1 with q1
  obtain⟨_,a1,a2,a3,a4,_⟩:=q2 q1.symm;rw [m1];exact⟨a1,a2,a3,a4⟩
 exact⟨h.len,h.text,λy hy=>(a y hy).1,λy hy=>(a y hy).2.1,λy hy=>(a y hy).2.2.1,λy hy=>(a y hy).2.2.2⟩
theorem T4 (r:List A8) (hr:Gs r):Au (λs:Int×Int×Int=>H0 r s.1 s.2.1 s.2.2) (0,1,1)=some (Dg r,D9 r):=by
 have c:=hr.len;obtain⟨b,h1,h2⟩:=Bg (body:=λs:Int×Int×Int=>H0 r s.1 s.2.1 s.2.2) (λ(o:Int×Int) i=>(i,o.1,o.2)) r.length (λi o=>o=(Dg (r.take i),D9 (r.take i))) (λb=>b=(Dg r,D9 r))
  (λo i hi ho=>by
   subst ho;have hx:=Ac hi;have hm:r[i]∈r:=AE hi;have hs:=hr.seq _ hm;have ht:=hr.tx _ hm;have et:r.take (i+1)=r.take i++ [r[i]]:=Av hi;simp only [H0,AC,Ad hi,Ae,A9,hx,Aa];rw [et,Wm,Tg,ad1 (by omega)];have a:(bif(decide (r[i].Page.Seq>=Dg (r.take i)))then(some (ad r[i].Page.Seq 1))else(some (Dg (r.take i))):Option Int)=some (if r[i].Page.Seq>=Dg (r.take i)then r[i].Page.Seq+1 else Dg (r.take i)):=by
    by_cases e:r[i].Page.Seq>=Dg (r.take i)
    ·rw [Ad e,Ax e,CA (by omega) (by omega)];rfl
    rw [Af e,Ay e];rfl
   rw [a];simp only [Aa];refine .inl ?_;by_cases e:r[i].Page.Kind=2
   ·rw [show(r[i].Page.Kind==2)=true by simpa using e];simp only [Ae,Aa];by_cases e2:r[i].Page.Tx>=D9 (r.take i)
    ·rw [Ad e2,Ax (show r[i].Page.Kind=2/\r[i].Page.Tx>=D9 (r.take i)from⟨e,e2⟩),CA (by omega) (by omega)];exact⟨(_,_),rfl,rfl⟩
    rw [Af e2,Ay (show¬(r[i].Page.Kind=2/\r[i].Page.Tx>=D9 (r.take i))from λhh=>e2 hh.2)];exact⟨(_,_),rfl,rfl⟩
   rw [show(r[i].Page.Kind==2)=false by simpa using e,Ay (show¬(r[i].Page.Kind=2/\r[i].Page.Tx>=D9 (r.take i))from λhh=>e hh.1)]
   exact⟨(_,_),rfl,rfl⟩)
  (λo ho=>⟨o,by simp only [H0,AC,Ao,Aq,Ab],by rw [ho,AN]⟩) (s:=(1,1)) rfl
 rw [h2]at h1;exact h1
theorem Z0:Dn (Store.mk [] (Arena.mk []) 1):=by
 refine⟨⟨by simp,rfl,by simp,by simp,by simp,by simp [BB],by simp [BB],by simp⟩,by simp⟩
theorem X7 (l:List Tx) (x:Tx):KJ (l++ [x])=(CV (KJ l).1 (KJ l).2 x.Recs).getD (KJ l):=by unfold KJ;rw [HI];rfl
theorem Xj (l:List Tx) (hl:l.length<=1048576) (hr:∀x∈l,x.Recs.length<=20000):∃t,Au (λs:Int×List Vol×List BL×Int×Int=>Dy l s.1 s.2.1 s.2.2.1 s.2.2.2.1 s.2.2.2.2) (0,[],[],1,0)=some (t.Vols,t.Arena.Knots,t.Next,KR l)/\Dn t/\(BJ t,t.Next)=KJ l:=by
 obtain⟨b,h1,t,h2,h3,h4⟩:=Bg (body:=λs:Int×List Vol×List BL×Int×Int=>Dy l s.1 s.2.1 s.2.2.1 s.2.2.2.1 s.2.2.2.2) (λ(o:Store×Int) i=>(i,o.1.Vols,o.1.Arena.Knots,o.1.Next,o.2)) l.length
  (λi o=>Dn o.1/\(BJ o.1,o.1.Next)=KJ (l.take i)/\o.2=KR (l.take i)) (λb=>∃t,b=(t.Vols,t.Arena.Knots,t.Next,KR l)/\Dn t/\(BJ t,t.Next)=KJ l)
  (λo i hi hs=>by
   obtain⟨t,bs0⟩:=o;obtain⟨hP,hv,hb⟩:=hs;simp only at hP hv hb;have hx:=Ac hi;have hm:l[i]∈l:=AE hi;have j:=hr _ hm;have et:l.take (i+1)=l.take i++ [l[i]]:=Av hi;simp only [Dy,AC,Ad hi,Ae,A9,hx,Aa];have g:(bif((i:Int)==0)then(some l[i].Num)else(some bs0):Option Int)=some (KR (l.take (i+1))):=by
    by_cases e:i=0
    ·subst e;rw [et];simp [KR]
    rw [show((i:Int)==0)=false by simp;omega,hb,et];simp only [Ab]
    cases h5:l.take i with
    |nil=>
     have:=BR List.length h5;rw [AH,Bn]at this;omega
    |cons a m=>rfl
   rw [g];simp only [Aa];have d:=QZ hP l[i].Recs (by omega);unfold MV at d;have h:Store.mk t.Vols (Arena.mk t.Arena.Knots) t.Next=t:=rfl;have e1:BJ t=(KJ (l.take i)).1:=BR Prod.fst hv;have e2:t.Next=(KJ (l.take i)).2:=BR Prod.snd hv;rw [h,ad1 (by omega)];refine .inl ?_;have f:=X7 (l.take i) l[i];rw [<-et]at f
   cases c:CV (BJ t) t.Next l[i].Recs with
   |none=>
    rw [c]at d;rw [d];refine⟨(t,KR (l.take (i+1))),rfl,hP,?_,rfl⟩;rw [f,<-e1,<-e2,c,Option.getD_none];exact hv
   |some p=>
    obtain⟨lv,nx⟩:=p;rw [c]at d;obtain⟨u,u1,u2,u3,u4⟩:=d;rw [u1];refine⟨(u,KR (l.take (i+1))),rfl,u2,?_,rfl⟩;rw [f,<-e1,<-e2,c,B6];show(BJ u,u.Next)=(lv,nx)
    rw [u3,u4])
  (λo hs=>⟨(o.1.Vols,o.1.Arena.Knots,o.1.Next,o.2),by simp only [Dy,AC,Ao,Aq,Ab],o.1,by rw [hs.2.2,AN],hs.1,by rw [hs.2.1,AN]⟩) (s:=(Store.mk [] (Arena.mk []) 1,0)) ⟨Z0,rfl,rfl⟩
 exact⟨t,by rw [<-h2];exact h1,h3,h4⟩
structure LR (d:Bc) (r:List A8):Prop where
 fl:BN d.Flash
 scan:zB d.Flash r
 sr:SR (Kg 0 d.Flash.Blocks) r
 st:Dn d.Store
 ab:(BJ d.Store,d.Store.Next)=KJ (Dc (Bz r))
 seq:d.Seq=Dg r
 tx:d.Tx=D9 r
 base:d.Base=KR (Dc (Bz r))
theorem LR.pages (h:LR d r):Gs r:=UK h.scan h.fl
theorem SI (hr:Gs r):(Bz r).length<=1048576/\∀x∈Bz r,x.Recs.length<=20000:=by
 have b:=hr.len;have a:=GH r (λy hy=>(hr.tx y hy).1);have:=List.length_filterMap_le (HB r) (Do r);refine⟨by unfold Bz;omega,λx hx=>?_⟩;obtain⟨t,_,ht⟩:=List.mem_filterMap.1 hx;exact(Rl hr ht).2
theorem Rn (l:List Tx):(Dc l).length<=l.length/\∀x∈Dc l,x∈l:=⟨by unfold Dc;rw [B7];omega,λx hx=>List.mem_of_mem_drop hx⟩
theorem T5 (hf:BN f):∃d r,CL f=some (d,true)/\LR d r/\d.Flash=f:=by
 obtain⟨r,hs,a⟩:=vG hf;have hr:=UK hs hf;obtain⟨g1,g2⟩:=SI hr;obtain⟨b1,b2⟩:=Rn (Bz r);obtain⟨t,t1,t2,t3⟩:=Xj (Dc (Bz r)) (by omega) (λx hx=>g2 x (b2 x hx));refine⟨Bc.mk f t (Dg r) (D9 r) (KR (Dc (Bz r))),r,?_,⟨hf,hs,a,t2,t3,rfl,rfl,rfl⟩,rfl⟩;unfold CL;rw [O7 hf,hs.s,Dp f hf.cap];unfold ME;simp only [Aa,Ai,Ab];rw [T4 r hr,Qt r hr];simp only [Aa];rw [Qs _ g1 g2];simp only [Aa];rw [t1];rfl
theorem eZ (a b:List Int) (ha:a.length<=1048576):KZ a b=some (decide (a=b)):=by
 unfold KZ;by_cases hl:a.length=b.length
 ·rw [show(ln a !=ln b)=false by simp [ln,hl]];simp only [Ab]
  rw [oJ (body:=λs:Int=>G7 a b s) a b (λx y=>x==y) hl (by omega)
   (λi x y hx hy=>by
    have hi:=(Ah.1 hx).1;simp only [G7,AC,Ad hi,Ae,A9,hx,hy,Aa];rw [ad1 (by omega)]
    cases c:x==y<;>simp [bne,c])
   (by simp only [G7,AC,Ao,Aq,Ab])]
  have:=mU (p:=λx y:Int=>x==y) (a:=a) (b:=b) (λx _ y _=>by simp) hl
  cases hz:(a.zip b).all (λz=>z.1==z.2)with
  |true=>rw [Ad (this.1 hz)];rfl
  |false=>rw [Af (λhh=>by rw [this.2 hh]at hz;cases hz)];rfl
 rw [show(ln a !=ln b)=true by simp [ln];omega,Af (λhh=>hl (by rw [hh]))];rfl
theorem Rg {a b:Store} (ha:Dn a) (hb:Dn b):J9 a b=some (decide (BJ a=BJ b/\a.Next=b.Next)):=by
 have e:=ha.len;have f:=hb.len;have g:=ha.few;have h:=hb.few;unfold J9;by_cases hl:a.Vols.length=b.Vols.length
 ·rw [show(ln a.Vols !=ln b.Vols)=false by simp [ln,hl]];simp only [Ab,Aa];by_cases hn:a.Next=b.Next
  ·rw [show(a.Next !=b.Next)=false by simp [hn]];simp only [Ab]
   rw [oJ (body:=λs:Int=>Ib a b s) a.Vols b.Vols (λv w=>v.Id==w.Id&&decide (EQ a.Arena.Knots v.Root=EQ b.Arena.Knots w.Root)) hl (by omega)
    (λi x y hx hy=>by
     have hi:=(Ah.1 hx).1;simp only [Ib,AC,Ad hi,Ae,A9,hx,hy,Aa];rw [OZ _ (by omega) ha.ar (ha.root _ (AJ.2 ⟨x,A3 hx,rfl⟩)),OZ _ (by omega) hb.ar (hb.root _ (AJ.2 ⟨y,A3 hy,rfl⟩))];simp only [Aa];rw [eZ _ _ (by unfold EQ;simp)];simp only [Aa];rw [ad1 (by omega)]
     cases c:x.Id==y.Id with
     |false=>simp [bne,c]
     |true=>
      simp only [bne,c,Ai,Ab,CC]
      cases decide (EQ a.Arena.Knots x.Root=EQ b.Arena.Knots y.Root)<;>rfl)
    (by simp only [Ib,AC,Ao,Aq,Ab])]
   have d:(a.Vols.zip b.Vols).all (λz=>z.1.Id==z.2.Id&&decide (EQ a.Arena.Knots z.1.Root=EQ b.Arena.Knots z.2.Root))=decide (BJ a=BJ b):=by
    unfold BJ;generalize a.Vols=l at hl;generalize b.Vols=m at hl
    induction l generalizing m with
    |nil=>cases m with
     |nil=>simp
     |cons y m=>simp at hl
    |cons x l ih=>
     cases m with
     |nil=>simp at hl
     |cons y m=>
      rw [List.zip_cons_cons,EJ,ih m (by simpa using hl),DR];simp only [Al,Dt,A5,Cb,PU,Bv]
   rw [d]
   cases hd:decide (BJ a=BJ b)with
   |true=>rw [Ad ⟨HE hd,hn⟩];rfl
   |false=>rw [Af (λhh=>of_decide_eq_false hd hh.1)];rfl
  rw [show(a.Next !=b.Next)=true by simpa using hn,Af (λhh=>hn hh.2)];rfl
 rw [show(ln a.Vols !=ln b.Vols)=true by simp [ln];omega,Af (λhh=>hl (by have:=BR List.length hh.1;rwa [Ng,Ng]at this))];rfl
theorem Vu (h:LR d r):Oc d=some d:=by
 have:=h.st.len;unfold Oc;rw [Dp _ h.fl.cap,FZ _ (Ll h.st.ar (by have:=h.st.few;omega)) (by omega)];rfl
theorem LR.uniq {d':Bc} (h:LR d r) (h':LR d' r') (e:d.Flash=d'.Flash):r=r':=by
 have h1:=h.sr;have h2:=h'.sr;rw [<-e]at h2;exact h1.uniq h2
theorem T8 (h:LR d r):MI d=some true:=by
 obtain⟨m,r',h1,h2,h3⟩:=T5 h.fl;obtain rfl:=h.uniq h2 h3.symm;unfold MI;rw [h1];simp only [Aa,Ae];have e:=h2.ab.trans h.ab.symm
 injection e with e1 e2
 rw [Rg h2.st h.st,Ad ⟨e1,e2⟩];simp only [Aa,Ae];rw [h2.seq,h.seq,h2.tx,h.tx,h2.base,h.base];simp only [BEq.rfl,Ae];rw [Qr h.st];rfl
theorem XW {f g:α->Option β} (h:∀x∈l,f x=g x):l.filterMap f=l.filterMap g:=by
 induction l with
 |nil=>rfl
 |cons a l ih=>rw [Qb,Qb,h a (by simp),ih (λx hx=>h x (by simp [hx]))]
theorem lH {p q:α->Bool} (h:∀x∈l,p x=q x):l.find? p=l.find? q:=by
 induction l with
 |nil=>rfl
 |cons a l ih=>rw [List.find?_cons,List.find?_cons,h a (by simp),ih (λx hx=>h x (by simp [hx]))]
theorem V8 (h:∀a b,PY r' t a b=PY r t a b):∀(n:Nat) (a b:Int) (x:List UInt8) (q:Int),parts r' t n a b x q=parts r t n a b x q
 |0,_,_,_,_=>rfl
 |n+1,a,b,x,q=>by
  simp only [parts,h];split
  ·split
   ·rfl
   exact V8 h n _ _ _ _
  rfl
theorem Ss (h:∀a b,PY r' t a b=PY r t a b):HB r' t=HB r t:=by
 unfold HB;rw [V8 h]
theorem UT {t a b:Int} (h:jE t a b y=true):y.Page.Kind=2/\y.Page.Tx=t/\y.Page.Part=a:=by
 unfold jE at h;simp only [Al,Dt]at h;exact⟨h.1,h.2.1,h.2.2.1⟩
theorem dR (r m:List A8) (t a b:Int):PY (r++m) t a b=(PY r t a b).or (PY m t a b):=by unfold PY;rw [List.find?_append]
theorem TZ {t a b:Int} (h:∀y∈r,y.Page.Kind=2->y.Page.Tx≠t):PY r t a b=none:=by
 unfold PY;rw [Fl];intro y hy hm;obtain⟨h1,h2,_⟩:=UT hm;exact h y hy h1 h2
theorem oU (h:∀y∈r,y.Page.Kind=2->y.Page.Tx≠t):HB r t=none:=by
 unfold HB;have:parts r t 11 0 0 [] 0=none:=by
  simp only [parts];rw [Ax (.inl trivial),TZ h]
 rw [this]
theorem pO (r:List A8) (hy:y.Page.Kind≠2):Do (r++ [y])=Do r:=by rw [TJ,Ay hy]
theorem VD (r:List A8) (hy:y.Page.Kind≠2):Bz (r++ [y])=Bz r:=by
 unfold Bz;rw [pO r hy];congr 1;funext t
 refine Ss λa b=>?_
 rw [dR,TZ (r:=[y]) (λz hz hk=>by
  rw [Aw]at hz;rw [hz]at hk
  exact absurd hk hy),Option.or_none]
structure aU (m:List A8) (t:Int) (n:Nat) (texts:List ByteArray):Prop where
 len:m.length<=n
 pos:1<=n/\n<=9
 tl:texts.length=n
 at_:∀(i:Nat) y,m[i]?=some y->y.Page.Kind=2/\y.Page.Tx=t/\y.Page.Part=i/\y.Page.Count=n/\texts[i]?=some y.Page.Text
theorem aU.all (h:aU m t n texts) (hy:y∈m):y.Page.Kind=2/\y.Page.Tx=t:=by
 obtain⟨i,hi,rfl⟩:=AI hy;obtain⟨h1,h2,_⟩:=h.at_ i _ (Ac hi);exact⟨h1,h2⟩
theorem tH (r:List A8) (hr:∀y∈r,1<=y.Page.Tx) (ht:∀y∈r,y.Page.Kind=2->y.Page.Tx<t) (h0:1<=t):∀(m:List A8),m≠ []->(∀y∈m,y.Page.Kind=2/\y.Page.Tx=t)->Do (r++m)=Do r++ [t]:=by
 intro m hm a
 have h1:=GH (r++m) (λy hy=>by
  rcases Aj.1 hy with hy|hy
  ·exact hr y hy
  rw [(a y hy).2];exact h0)
 have h2:=GH r hr
 refine W7 h1.1 ?_ λx=>?_
 ·unfold asc;rw [B4];refine⟨h2.1,M0 _ _,λx hx z hz=>?_⟩;rw [Aw]at hz;obtain⟨y,hy,hk,rfl⟩:=(h2.2.1 x).1 hx;rw [hz];exact ht y hy hk
 rw [h1.2.1,Aj,Aw,h2.2.1];constructor
 ·rintro⟨y,hy,hk,rfl⟩
  rcases Aj.1 hy with hy|hy
  ·exact .inl ⟨y,hy,hk,rfl⟩
  exact .inr (a y hy).2
 rintro(⟨y,hy,hk,rfl⟩|rfl)
 ·exact⟨y,Aj.2 (.inl hy),hk,rfl⟩
 cases m with
 |nil=>exact absurd rfl hm
 |cons y m=>exact⟨y,by simp,(a y (by simp)).1,(a y (by simp)).2⟩
theorem yO (h:aU m t n texts) {a:Nat} {b:Int} (hc:a=0\/b=n):PY m t a b=m[a]? :=by
 cases hy:m[a]? with
 |none=>
  unfold PY;rw [Fl];intro y c hm;obtain⟨i,hi,rfl⟩:=AI c;obtain⟨_,_,h3,_⟩:=h.at_ i _ (Ac hi);have:=(UT hm).2.2;rw [List.getElem?_eq_none_iff]at hy;omega
 |some y=>
  obtain⟨h1,h2,h3,h4,_⟩:=h.at_ a y hy;refine dT m _ (λj x hj hx=>?_) hy ?_
  ·obtain⟨_,_,k3,_⟩:=h.at_ j x hx;rw [Bool.eq_false_iff];intro hm;have:=(UT hm).2.2;omega
  unfold jE;rw [h1,h2,h3,h4];simp only [BEq.rfl,CC,C3,CE,AY,Dt]
  rcases hc with hc|hc
  ·left;omega
  right;omega
def NW (l:List ByteArray):List UInt8:=l.flatMap L
theorem ZP (hr:∀y∈r,y.Page.Kind=2->y.Page.Tx≠t) (h:aU m t n texts):∀(k a:Nat) (c:Int) (x:List UInt8) (q:Int) (b:Nat),a+k=n->(a=0\/c=n)->k<b->
  (m.length=n->∃q',parts (r++m) t b a c x q=some (x++NW (texts.drop a),q'))/\(m.length<n->a<=m.length->parts (r++m) t b a c x q=none)
 |k,a,c,x,q,0,hk,hc,hf=>by omega
 |0,a,c,x,q,b+1,hk,hc,hf=>by
  have hp:=h.pos;simp only [parts];rw [Ay (by omega)];refine⟨λ_=>⟨q,?_⟩,λh1 h2=>by omega⟩;rw [CZ (by have:=h.tl;omega)];simp [NW]
 |k+1,a,c,x,q,b+1,hk,hc,hf=>by
  have hp:=h.pos;simp only [parts];rw [Ax (by omega),dR,TZ hr,Option.none_or,yO h hc]
  cases hy:m[a]? with
  |none=>
   rw [List.getElem?_eq_none_iff]at hy;exact⟨λh1=>by omega,λ_ _=>rfl⟩
  |some y=>
   obtain⟨h1,h2,h3,h4,h5⟩:=h.at_ a y hy;have d:=(Ah.1 hy).1;simp only [];obtain⟨k1,k2⟩:=ZP hr h k (a+1) y.Page.Count (x++L y.Page.Text) (MP a q y) b (by omega) (.inr h4) (by omega);rw [show((a+1:Nat):Int)=(a:Int)+1 from rfl]at k1 k2;refine⟨λh6=>?_,λh6 h7=>k2 h6 (by omega)⟩;obtain⟨q',k3⟩:=k1 h6;refine⟨q',?_⟩;rw [k3]
   rw [show texts.drop a=y.Page.Text::texts.drop (a+1) by
    have h8:=(Ah.1 h5)
    rw [Bj h8.1,h8.2]]
   simp only [NW,HJ,Ap]
theorem lC (r:List A8) (hr:∀y∈r,1<=y.Page.Tx) (ht:∀y∈r,y.Page.Kind=2->y.Page.Tx<t) (h0:1<=t) (h:aU m t n texts):
  (m.length<n->Bz (r++m)=Bz r)/\(m.length=n->∀a,ZK (bs (NW texts))=some a->∃q,Bz (r++m)=Bz r++ [Tx.mk t q a]):=by
 have d:∀y∈r,y.Page.Kind=2->y.Page.Tx≠t:=λy hy hk=>by have:=ht y hy hk;omega
 have old:∀x∈Do r,HB (r++m) x=HB r x:=by
  intro x hx;have:=GH r hr;obtain⟨y,hy,hk,rfl⟩:=(this.2.1 x).1 hx;have:=ht y hy hk
  refine Ss λe f=>?_
  rw [dR,TZ (r:=m) (λz hz g=>by rw [(h.all hz).2];omega),Option.or_none]
 have oldG:(Do r).filterMap (HB (r++m))=Bz r:=by
  unfold Bz;exact XW old
 by_cases hm:m=[]
 ·subst hm;have:=h.pos;refine⟨λ_=>by rw [Az],λh1=>by simp at h1;omega⟩
 have b:=tH r hr ht h0 m hm (λy hy=>h.all hy);have hg:Bz (r++m)=Bz r++(match HB (r++m) t with|some x=>[x]|none=>[]):=by
  have:Bz (r++m)=(Do (r++m)).filterMap (HB (r++m)):=rfl;rw [this,b,JO,oldG];congr 1
  cases hx:HB (r++m) t with
  |none=>simp [hx]
  |some x=>simp [hx]
 have hp:=h.pos;obtain⟨p1,p2⟩:=ZP d h n 0 0 [] 0 11 (by omega) (.inl rfl) (by omega);refine⟨λh1=>?_,λh1 a c=>?_⟩
 ·have:HB (r++m) t=none:=by
   unfold HB;have:=p2 h1 (by omega);rw [show((0:Nat):Int)=0 from rfl]at this;rw [this]
  rw [hg,this,Az]
 obtain⟨q,p3⟩:=p1 h1;rw [show((0:Nat):Int)=0 from rfl]at p3;have:HB (r++m) t=some (Tx.mk t q a):=by
  unfold HB;rw [p3];simp only [A6,List.drop_zero];rw [c];rfl
 exact⟨q,by rw [hg,this]⟩
structure iX (r:List A8):Prop where
 uniq:∀y∈r,∀z∈r,y.Page.Kind=2->z.Page.Kind=2->y.Page.Tx=z.Page.Tx->y.Page.Part=z.Page.Part->y=z
theorem lG (h:iX r) (p:A8->Bool) {t a b:Int} (hf:PY (r.filter p) t a b=some y):PY r t a b=some y:=by
 obtain⟨h1,h2⟩:=QX hf;have h3:=(AT.1 h1).1
 cases hz:PY r t a b with
 |none=>
  unfold PY at hz;rw [Fl]at hz;exact absurd h2 (hz y h3)
 |some z=>
  obtain⟨k1,k2⟩:=QX hz;obtain⟨a1,a2,a3⟩:=UT h2;obtain⟨b1,b2,b3⟩:=UT k2;rw [h.uniq z k1 y h3 b1 a1 (by rw [a2,b2]) (by rw [a3,b3])]
theorem TG (h:iX r) (p:A8->Bool):∀(n:Nat) (a b:Int) (x:List UInt8) (q:Int) (w:List UInt8×Int),parts (r.filter p) t n a b x q=some w->parts r t n a b x q=some w
 |0,_,_,_,_,_,hw=>by cases hw
 |n+1,a,b,x,q,w,hw=>by
  simp only [parts]at hw⊢;split
  ·rename_i hc;rw [Ax hc]at hw
   cases hf:PY (r.filter p) t a b with
   |none=>rw [hf]at hw;cases hw
   |some y=>
    rw [hf]at hw;rw [lG h p hf];exact TG h p n _ _ _ _ w hw
  rename_i hc;rw [Ay hc]at hw;exact hw
theorem eN {x:Tx} (h:iX r) (p:A8->Bool) (hx:HB (r.filter p) t=some x):HB r t=some x:=by
 unfold HB at hx⊢
 cases hp:parts (r.filter p) t 11 0 0 [] 0 with
 |none=>rw [hp]at hx;cases hx
 |some w=>
  rw [hp]at hx;rw [TG h p _ _ _ _ _ w hp];exact hx
theorem lD (r:List A8) (hr:Gs r):(Bz r).Pairwise λx y=>x.Num<y.Num:=by
 have h1:=(GH r (λy hy=>(hr.tx y hy).1)).1;unfold Bz;rw [List.pairwise_filterMap];refine List.Pairwise.imp ?_ h1;intro a b c x hx y hy;rw [(Rl hr hx).1,(Rl hr hy).1];exact c
theorem Ud (l:List α) (f:α->Option β) (q:β->Bool):(l.filterMap f).filter q=l.filterMap (λa=>(f a).filter q):=by
 induction l with
 |nil=>rfl
 |cons a l ih=>
  cases h:f a with
  |none=>simp [h,ih]
  |some b=>
   cases hq:q b with
   |true=>simp [h,hq,ih,Option.filter]
   |false=>simp [h,hq,ih,Option.filter]
theorem bG (r:List A8) (hr:Gs r) (h:iX r) (p:A8->Bool) (hp:∀y∈r,y.Page.Kind=2->KR (Dc (Bz r))<=y.Page.Tx->p y=true):Dc (Bz (r.filter p))=Dc (Bz r):=by
 have hr':Gs (r.filter p):=⟨by have:=CM p r;have:=hr.len;omega,λy hy=>hr.text y (AT.1 hy).1,λy hy=>hr.seq y (AT.1 hy).1,λy hy=>hr.tx y (AT.1 hy).1,λy hy=>hr.cnt y (AT.1 hy).1,λy hy=>hr.part y (AT.1 hy).1⟩;have s1:=GH r (λy hy=>(hr.tx y hy).1);have s2:=GH (r.filter p) (λy hy=>(hr'.tx y hy).1);have e1:Bz (r.filter p)=(Do r).filterMap (HB (r.filter p)):=by
  have hn:Do (r.filter p)=(Do r).filter (λt=>decide (t∈Do (r.filter p))):=by
   refine W7 s2.1 (List.Pairwise.filter _ s1.1) λx=>?_
   rw [AT,A5];refine⟨λhx=>⟨?_,hx⟩,λhx=>hx.2⟩;obtain⟨y,hy,hk,rfl⟩:=(s2.2.1 x).1 hx;exact(s1.2.1 _).2 ⟨y,(AT.1 hy).1,hk,rfl⟩
  unfold Bz
  conv=>lhs;rw [hn]
  rw [List.filterMap_filter]
  refine XW λt ht=>?_
  by_cases e:t∈Do (r.filter p)
  ·rw [Ax (by simpa using e)]
  rw [Ay (by simpa using e)];symm
  refine oU λy hy hk f=>e ((s2.2.1 t).2 ⟨y,hy,hk,f⟩)
 have keep:∀t,KR (Dc (Bz r))<=t->HB (r.filter p) t=HB r t:=by
  intro t ht
  refine Ss λpart cnt=>?_
  unfold PY;rw [List.find?_filter]
  refine lH λy hy=>?_
  cases hm:jE t part cnt y with
  |false=>simp
  |true=>
   obtain⟨a1,a2,_⟩:=UT hm;rw [hp y hy a1 (by omega)];rfl
 have e2:Bz (r.filter p)=(Bz r).filter λx=>(HB (r.filter p) x.Num).isSome:=by
  rw [e1];unfold Bz;rw [Ud]
  refine XW λt ht=>?_
  cases hx:HB (r.filter p) t with
  |some x=>
   have h1:=eN h p hx;rw [h1];have h2:=(Rl hr h1).1;simp only [Option.filter,h2,hx,Option.isSome_some,BW]
  |none=>
   cases hy:HB r t with
   |none=>rfl
   |some x=>
    have h2:=(Rl hr hy).1;simp only [Option.filter,h2,hx,Jf,BQ,Gp]
 obtain⟨A,h1,h2,h3⟩:=eW (Bz r);have a:=lD r hr;have hB:(Dc (Bz r)).filter (λx=>(HB (r.filter p) x.Num).isSome)=Dc (Bz r):=by
  rw [Gu];intro x hx;have g:=(Rn (Bz r)).2 x hx;obtain⟨t,_,ht⟩:=List.mem_filterMap.1 g;have hn:=(Rl hr ht).1;have i:KR (Dc (Bz r))<=x.Num:=by
   rw [h1,B4]at a
   cases hb:Dc (Bz r)with
   |nil=>rw [hb]at hx;cases hx
   |cons b B=>
    have c:=a.2.1;rw [hb,Db]at c;rw [hb,BA]at hx;simp only [KR]
    rcases hx with rfl|hx
    ·exact F7 _
    have:=c.1 x hx;omega
  rw [keep _ i,hn,ht];rfl
 rw [e2]
 conv=>lhs;rw [h1]
 rw [AS,hB];refine rV _ _ (λd=>h2 λhA=>?_) h3;rw [hA]at d;exact d rfl
end Go.TI
