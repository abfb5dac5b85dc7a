/- What sectors of a drawn device tell. No condition. -/
import Derived.Test.YtiemmklnnjembaaGreatROP2
namespace Go.TI
open Go
theorem ABs {s:Store} (h:DS s):Yv s.Arena:=by unfold Yv;have:=h.few;omega
theorem wC {s:Store} (h:DS s) (x:Int):x∈cZ s s.Vols.length↔∃p∈BW s,x∈p.2:=by
 unfold cZ BW;rw [Bg];simp only [List.mem_flatten,AR]
 have key:∀v∈s.Vols,(HU s.Arena v.Root).getD []=EN s.Arena.Knots v.Root:=fun v hv=>by
  rw [NV _ (by have:=h.few;omega) h.ar (h.root _ (AR.2 ⟨v,hv,rfl⟩))];rfl
 constructor
 ·rintro⟨l,⟨v,hv,rfl⟩,hx⟩;rw [key v hv]at hx;exact⟨_,⟨v,hv,rfl⟩,hx⟩
 ·rintro⟨p,⟨v,hv,rfl⟩,hx⟩;exact⟨_,⟨v,hv,rfl⟩,by rw [key v hv];exact hx⟩
theorem NU {s:Store} (h:DS s):∃l,Jl s=some l/\asc l/\(∀x,x∈l↔FB (BW s) x)/\l.length<=16777216:=by
 have:=h.len;obtain⟨l,h1,h2,h3⟩:=iF s (by omega) (ABs h);refine⟨l,h1,h2.1,fun x=>?_,h3⟩;rw [h2.2 x,wC h];unfold FB;exact And.comm
theorem dB {s:Store} (h:DS s) {c:Int} (hc:FB (BW s) c):0<c/\c<s.Next:=by
 obtain⟨h0,p,hp,hx⟩:=hc;unfold BW at hp;obtain⟨v,hv,rfl⟩:=AR.1 hp;exact⟨h0,h.lt _ (AR.2 ⟨v,hv,rfl⟩) c hx⟩
def H6 (r:List Ar) (live:List Int) (base:Int):List Bool:=live.foldl (qT r) (r.map (Fy base))
theorem PI (r:List Ar) (live:List Int) (base:Int):(H6 r live base).length=r.length:=by unfold H6;rw [kA,B9]
theorem S0 (r:List Ar) (live:List Int) (base:Int) {j:Nat} {y:Ar} (hy:r[j]?=some y):(H6 r live base)[j]?=some (Fy base y||live.any (fun c=>fX c r r.length==some j)):=by
 unfold H6;rw [jE,Bh,hy];rfl
theorem zC {r:List Ar} {c:Int} {j:Nat} (h:fX c r r.length=some j):KJ r c=r[j]? :=by
 rw [VY (UG c r r.length (AB _)),h];rfl
theorem zZ {r:List Ar} {c:Int} {y:Ar} (h:KJ r c=some y):∃j,fX c r r.length=some j/\r[j]?=some y:=by
 have:=VY (UG c r r.length (AB _));rw [h]at this
 cases ht:fX c r r.length with
 |none=>rw [ht]at this;cases this
 |some j=>rw [ht]at this;exact⟨j,rfl,this.symm⟩
theorem rG {n:Nat} {p:Nat->Bool} (h:cn n p=0):∀j,j<n->p j=false:=by
 intro j hj;unfold cn at h;have:=List.length_eq_zero_iff.1 h;rw [Cw]at this;have:=this j (Ic.2 hj);simpa using this
theorem zT {r:List Ar} {live:List Int} {base b:Int} (h:cn r.length (fun j=>(H6 r live base)[j]?.getD false&&bk r b j)=0):∀y∈r,y.Block=b->(y.Page.Kind=2->y.Page.Tx<base)/\∀c∈live,KJ r c≠some y:=by
 intro y hy hb;obtain⟨j,hj,rfl⟩:=AK hy;have hx:=Ac hj;have h1:=rG h j hj;rw [S0 r live base hx]at h1;have h2:bk r b j=true:=by unfold bk;rw [hx];simpa using hb
 rw [h2,Bool.and_true,Bx,O4]at h1;refine⟨fun hk=>?_,fun c hc hn=>?_⟩
 ·have:=h1.1;unfold Fy at this;rw [show(r[j].Page.Kind==2)=true by simpa using hk,CS,AZ]at this;omega
 ·
  obtain⟨i,i1,i2⟩:=zZ hn;have h3:=h1.2;rw [List.any_eq_false]at h3;have h4:=h3 c hc;rw [i1]at h4;by_cases e:i=j
  ·rw [e]at h4;simp at h4
  ·
   have hi:=(Aj.1 i2).1;have h5:=rG h i hi;rw [S0 r live base i2]at h5;have h6:bk r b i=true:=by unfold bk;rw [i2];simpa using hb
   rw [h6,Bool.and_true,Bx,O4,List.any_eq_false]at h5;have:=h5.2 c hc;rw [i1]at this;simp at this
theorem VN {d:AH} {r:List Ar} (h:Lb d r):∃l,Jo d=some l/\l.length<=10/\∀b∈l,∃x,gi d.Flash.Blocks b=some x/\x.Bad=false/\∀y∈r,y.Block=b->(y.Page.Kind=2->y.Page.Tx<d.Base)/\∀c,FB (BW d.Store) c->KJ r c≠some y:=by
 obtain⟨live,l1,l2,l3,l4⟩:=NU h.st;have hn:=h.fl.n;unfold Jo;rw [h.scan.s,l1];simp only [Aa];rw [Ui r live d.Base h.scan.len l4];simp only [Aa];have e:live.foldl (qT r) (r.map (Fy d.Base))=H6 r live d.Base:=rfl;rw [e];obtain⟨b,q1,q2⟩:=Bw (body:=fun s:List Int×Int=>E6 d r (H6 r live d.Base) s.1 s.2) (fun(o:List Int) i=>(o,i)) d.Flash.Blocks.length
  (fun i o=>o.length<=i/\∀b∈o,∃x,gi d.Flash.Blocks b=some x/\x.Bad=false/\∀y∈r,y.Block=b->(y.Page.Kind=2->y.Page.Tx<d.Base)/\∀c,FB (BW d.Store) c->KJ r c≠some y)
  (fun o=>o.length<=10/\∀b∈o,∃x,gi d.Flash.Blocks b=some x/\x.Bad=false/\∀y∈r,y.Block=b->(y.Page.Kind=2->y.Page.Tx<d.Base)/\∀c,FB (BW d.Store) c->KJ r c≠some y)
  (fun o i hi ho=>by
   have hx:=Ac hi;have hP:=h.fl.blk _ (AP hi);obtain⟨nbl,_,bl⟩:=yB d.Flash.Blocks[i] (by rw [hP.four];omega);simp only [E6,Bb,Ad hi,Ag,AN,hx,Aa];rw [bl,vV r _ (i:Int) h.scan.len (PI _ _ _),ad1 (by omega)];simp only [Aa];refine .inl ?_
   cases a:d.Flash.Blocks[i].Bad with
   |true=>exact⟨o,rfl,by omega,ho.2⟩
   |false=>
    simp only [Bk,Ag]
    cases g:(!(!decide (nbl<ln d.Flash.Blocks[i].Leaves)))with
    |false=>exact⟨o,rfl,by omega,ho.2⟩
    |true=>
     simp only [Ag,Aa]
     cases hz:((((cn r.length (fun j=>(H6 r live d.Base)[j]?.getD false&&bk r (i:Int) j):Nat)):Int)==0)with
     |false=>exact⟨o,rfl,by omega,ho.2⟩
     |true=>
      simp only [Ag];have:=ho.1;rw [CO (by simp;omega)];refine⟨_,rfl,by simp;omega,fun b hb=>?_⟩;rw [Al,AA]at hb
      rcases hb with hb|rfl
      ·exact ho.2 b hb
      ·refine⟨_,by rw [AN];exact hx,a,fun y hy f=>?_⟩;have hz':cn r.length (fun j=>(H6 r live d.Base)[j]?.getD false&&bk r (i:Int) j)=0:=by
        rw [CV]at hz;omega
       obtain⟨a1,a2⟩:=zT hz' y hy f
       exact⟨a1,fun c hc=>a2 c ((l3 c).2 hc)⟩)
  (fun o ho=>⟨o,by simp only [E6,Bb,A3,A8,Ae],by omega,ho.2⟩) (s:=[]) ⟨by simp,fun b hb=>by cases hb⟩
 have q1':A0 (fun s:List Int×Int=>E6 d r (H6 r live d.Base) s.1 s.2) ([],0)=some b:=q1;rw [q1'];exact⟨b,rfl,q2⟩
theorem NN {d d':AH} {r r':List Ar} (h:Lb d r) (h':Lb d' r') (e:DQ (B4 r')=DQ (B4 r)):BW d'.Store=BW d.Store/\d'.Store.Next=d.Store.Next/\d'.Base=d.Base:=by
 have h1:=h'.ab;rw [e,<-h.ab]at h1
 injection h1 with h1 h2
 exact⟨h1,h2,by rw [h'.base,h.base,e]⟩
theorem yY {d:AH} {r:List Ar} (h:La d r) {b:Int} (hb:∀y∈r,y.Block=b->(y.Page.Kind=2->y.Page.Tx<d.Base)/\∀c,FB (BW d.Store) c->KJ r c≠some y) {g:Flash} (hg:Cf g) (hp:L0 0 g.Blocks=(L0 0 d.Flash.Blocks).filter fun y=>y.Block !=b):
  ∃d',E4 g=some (d',true)/\d'.Flash=g/\La d' (r.filter fun y=>y.Block !=b)/\BW d'.Store=BW d.Store/\d'.Store.Next=d.Store.Next/\d'.Base=d.Base:=by
 have f:SR (L0 0 g.Blocks) (r.filter fun y=>y.Block !=b):=by rw [hp];exact h.dev.sr.filter _
 obtain⟨d',u1,u2,u3⟩:=N6 hg f
 have hs:=Z8 r h.core.pages h.core.mu (fun y=>y.Block !=b) (fun y hy hk ht=>by
  have:y.Block≠b:=fun e=>by
   have:=(hb y hy e).1 hk;rw [h.dev.base]at this;omega
  simpa using this)
 obtain⟨e1,e2,e3⟩:=NN h.dev u2 hs;refine⟨d',u1,u3,⟨u2,h.core.filter _,?_⟩,e1,e2,e3⟩;rw [e1]
 refine h.data.congr fun c hc=>?_
 obtain⟨s,a⟩:=h.data.data c hc;unfold Dx at a⊢
 cases hn:KJ r c with
 |none=>rw [hn]at a;cases a
 |some y=>
  have hy:=(R1 hn).1
  have:KJ (r.filter fun y=>y.Block !=b) c=some y:=jD _ hn (by
   have:y.Block≠b:=fun e=>(hb y hy e).2 c hc hn
   simpa using this)
  rw [this]
end Go.TI
namespace Go.TI
open Go
def Ga (id:Int):Nat->List Int->List Dk
 |_,[]=>[]
 |k,x::row=>(if x>0 then [Dk.mk 4 id k x]else [])++Ga id (k+1) row
def NH (p:Int×List Int):List Dk:=Dk.mk 2 p.1 0 0::Ga p.1 0 p.2
def Lm (l:Vs) (nx:Int):List Dk:=Dk.mk 1 0 nx 0::l.flatMap NH
theorem NX (id x:Int):∀(k:Nat) (row:List Int),Ga id k (row++ [x])=Ga id k row++(if x>0 then [Dk.mk 4 id (k+row.length:Nat) x]else [])
 |k,[]=>by simp [Ga]
 |k,y::row=>by
  rw [BB,Ga,NX id x (k+1) row,Ga,Ap,Ax,show k+1+row.length=k+(row.length+1) by omega]
theorem Tb (id:Int):∀(k:Nat) (row:List Int),(Ga id k row).length<=row.length
 |_,[]=>AB _
 |k,x::row=>by
  rw [Ga,Ai,Ax];have:=Tb id (k+1) row;split<;>simp<;>omega
theorem cQ (K:Ks) (r:Int):(EN K r).length=16:=by unfold EN;simp
theorem kC:∀(l:Vs),(∀p∈l,p.2.length=16)->(l.flatMap NH).length<=17*l.length
 |[],_=>AB _
 |p::l,h=>by
  have:=kC l (fun q hq=>h q (by simp [hq]));have h2:=Tb p.1 0 p.2;have h3:=h p (by simp);rw [Hd,Ai,Ax];unfold NH at*;rw [Ax];omega
theorem cI {s:Store} (h:DS s):Mf s=some (Lm (BW s) s.Next):=by
 have hl:=h.len;unfold Mf;obtain⟨b,h1,h2⟩:=Bw (body:=fun q:List Dk×Int=>FV s q.1 q.2) (fun(o:List Dk) i=>(o,i)) s.Vols.length (fun i o=>o=Lm ((BW s).take i) s.Next/\o.length<=1+17*i) (fun o=>o=Lm (BW s) s.Next)
  (fun o i hi ho=>by
   have hx:=Ac hi;have hr:=h.root _ (AR.2 ⟨s.Vols[i],AP hi,rfl⟩);have d:=ho.2;have et:(BW s).take (i+1)=(BW s).take i++ [(s.Vols[i].Id,EN s.Arena.Knots s.Vols[i].Root)]:=by
    rw [Eo];unfold BW;rw [Bh,hx];rfl
   simp only [FV,Bb,Ad hi,Ag,AN,hx,Aa];rw [CO (by simp;omega)];simp only [Aa];rw [NV _ (by have:=h.few;omega) h.ar hr];simp only [Aa];obtain⟨u,u1,u2,u3⟩:=Bw (body:=fun q:List Dk×Int=>FU s (i:Int) (EN s.Arena.Knots s.Vols[i].Root) q.1 q.2) (fun(l:List Dk) k=>(l,k)) (EN s.Arena.Knots s.Vols[i].Root).length
    (fun k u=>u=o++ [Dk.mk 2 s.Vols[i].Id 0 0]++Ga s.Vols[i].Id 0 ((EN s.Arena.Knots s.Vols[i].Root).take k)/\u.length<=o.length+1+k) (fun u=>u=o++ [Dk.mk 2 s.Vols[i].Id 0 0]++Ga s.Vols[i].Id 0 (EN s.Arena.Knots s.Vols[i].Root)/\u.length<=o.length+17)
    (fun u k hk hu=>by
     obtain⟨a,f⟩:=hu;have c:=Ac hk;have g:=cQ s.Arena.Knots s.Vols[i].Root;have etk:=A4 hk;simp only [FU,Bb,Ad hk,Ag,AN,c,hx,Aa];rw [ad1 (by omega)];refine .inl ?_;by_cases e:(EN s.Arena.Knots s.Vols[i].Root)[k]>0
     ·rw [Ad e,Ag,CO (by simp;omega)];refine⟨_,rfl,?_,by simp;omega⟩;rw [etk,NX,Az e,a,AI,show 0+min k (EN s.Arena.Knots s.Vols[i].Root).length=k by omega];simp only [Ap]
     ·rw [Af e,Ae];refine⟨u,rfl,?_,by omega⟩
      rw [etk,NX,A5 e,a,Aw])
    (fun u hu=>⟨u,by simp only [FU,Bb,A3,A8,Ae],by rw [hu.1,Bg],by have:=cQ s.Arena.Knots s.Vols[i].Root;have:=hu.2;omega⟩) (s:=o++ [Dk.mk 2 s.Vols[i].Id 0 0]) ⟨by simp [Ga],by simp⟩
   have u1':A0 (fun q:List Dk×Int=>FU s (i:Int) (EN s.Arena.Knots s.Vols[i].Root) q.1 q.2) (o++ [Dk.mk 2 s.Vols[i].Id 0 0],0)=some u:=u1;rw [u1'];simp only [Aa];rw [ad1 (by omega)];refine .inl ⟨u,rfl,?_,by omega⟩;rw [et,u2,ho.1];unfold Lm;rw [OJ]
   simp [NH])
  (fun o ho=>⟨o,by simp only [FV,Bb,A3,A8,Ae],by rw [ho.1,Bc (by rw [NA];exact AB _)]⟩) (s:=[Dk.mk 1 0 s.Next 0]) ⟨rfl,by simp⟩
 have h1':A0 (fun q:List Dk×Int=>FV s q.1 q.2) ([Dk.mk 1 0 s.Next 0],0)=some b:=h1;rw [h1',h2];rfl
structure VsP (l:Vs) (nx:Int):Prop where
 len:l.length<=3
 nxt:1<=nx/\nx<=1000000000
 ids:∀p∈l,1<=p.1/\p.1<=9
 asc:l.Pairwise fun p q=>p.1<q.1
 row:∀p∈l,p.2.length=16
 num:∀p∈l,∀x∈p.2,0<=x/\x<nx
theorem kL {K:Ks} (hK:Do K=true) {r:Int} (hr:DX K r=true):∀x∈EN K r,0<=x:=by
 intro x hx;unfold EN at hx;obtain⟨s,hs,rfl⟩:=AR.1 hx;rw [Ic]at hs;unfold Py
 rcases C4 hr with e|⟨h0,h1,hl⟩
 ·rw [Az (by omega)];omega
 ·rw [A5 (by omega)]
  rcases Hf hK h0 h1 hl (show s/4<4 by omega)with k1|⟨k1,k2,k3⟩
  ·rw [Az (by omega)];omega
  ·rw [A5 (by omega)];exact wP hK k1 (by omega) k3 (by omega)
theorem DS.vs {s:Store} (h:DS s):VsP (BW s) s.Next:=by
 have mem:∀p∈BW s,∃v∈s.Vols,p=(v.Id,EN s.Arena.Knots v.Root):=fun p hp=>by
  obtain⟨v,hv,rfl⟩:=AR.1 hp;exact⟨v,hv,rfl⟩
 refine⟨by rw [NA];exact h.len,h.nx,fun p hp=>?_,?_,fun p hp=>?_,fun p hp x hx=>?_⟩
 ·obtain⟨v,hv,rfl⟩:=mem p hp;exact h.ids v hv
 ·have:=h.asc;unfold BW;rw [M3]at this⊢;exact this
 ·obtain⟨v,hv,rfl⟩:=mem p hp;exact cQ _ _
 ·obtain⟨v,hv,rfl⟩:=mem p hp;have hm:v.Root∈Ce s:=AR.2 ⟨v,hv,rfl⟩;exact⟨kL h.ar (h.root _ hm) x hx,h.lt _ hm x hx⟩
theorem Qj {P:Vs} {id:Int} (h:∀p∈P,p.1<id) (Q:Vs):KX (P++Q) id=KX Q id:=by
 unfold KX;rw [List.find?_append,EO.2 (fun p hp hh=>by have:=h p hp;simp at hh;omega),Option.none_or]
theorem ABe {id k x:Int} (h1:1<=id/\id<=9) (h2:0<=k/\k<16) (h3:1<=x/\x<=1000000000):HV (Dk.mk 4 id k x)=true:=by
 unfold HV;simp;omega
theorem ABZ {id a:Int} (h1:1<=id/\id<=9) (h2:0<=a/\a<=9):HV (Dk.mk 2 id a 0)=true:=by
 unfold HV;simp;omega
theorem rZ {P:Vs} {id:Int} {row:List Int} (h:∀p∈P,p.1<id) (k:Nat) (x:Int):mF (P++ [(id,row)]) id k x=P++ [(id,row.set k x)]:=by
 unfold mF;rw [C8];congr 1
 ·conv=>rhs;rw [<-QO P]
  apply CJ;intro p hp;have:=h p hp;rw [A5 (by omega)];rfl
 ·simp
theorem iX {P:Vs} {id nx:Int} (hP:∀p∈P,p.1<id) (a:1<=id/\id<=9) (c:nx<=1000000000):∀(todo done:List Int),done.length+todo.length=16->(∀x∈todo,0<=x/\x<nx)->CE (P++ [(id,done++List.replicate todo.length 0)]) nx (Ga id done.length todo)=some (P++ [(id,done++todo)],nx)
 |[],done,hl,hx=>by simp [Ga,CE]
 |x::todo,done,hl,hx=>by
  have h1:=hx x (by simp);rw [Ax]at hl;have ih:=iX hP a c todo (done++ [x]) (by simp;omega) (fun y hy=>hx y (by simp [hy]));rw [Ai,Ao]at ih;rw [Ga];have b:(done++List.replicate (todo.length+1) 0).set done.length x=done++ [x]++List.replicate todo.length 0:=by
   rw [Es,List.set_append_right _ _ (AB _),P2,D4,Ap];rfl
  by_cases e:x>0
  ·rw [Az e,Cd,Fe];have d:DR (P++ [(id,done++List.replicate (x::todo).length 0)]) nx (Dk.mk 4 id done.length x)=some (P++ [(id,done++ [x]++List.replicate todo.length 0)],nx):=by
    unfold DR;rw [ABe a (by omega) (by omega)];simp only [Iv,Jz,show¬((4:Int)=1) by omega,show¬((4:Int)=2) by omega,show¬((4:Int)=3) by omega];have hg:KX (P++ [(id,done++List.replicate (x::todo).length 0)]) id≠none:=by
     rw [Qj hP];simp [KX]
    rw [A5 (by
     rintro(hh|hh)
     ·exact hg hh
     ·omega)]
    rw [rZ hP,B7,Ax,b,show max nx (x+1)=nx by omega]
   rw [d];simp only [Aa];rw [ih,Ap];rfl
  ·rw [A5 e,A6];have e0:x=0:=by omega
   have:done++List.replicate (x::todo).length 0=done++ [x]++List.replicate todo.length 0:=by
    rw [e0,Ax,Es,Ap];rfl
   rw [this,ih,Ap];rfl
theorem tF {P:Vs} {id:Int} {row:List Int} (h:∀p∈P,p.1<id):tG P id row=P++ [(id,row)]:=by
 unfold tG;rw [FY.2 (fun p hp=>by simpa using h p hp),Cw.2 (fun p hp=>by have:=h p hp;simp;omega),Aw]
theorem Y4 {nx:Int} (d:nx<=1000000000):∀(l P:Vs),(P++l).length<=3->(P++l).Pairwise (fun p q=>p.1<q.1)->(∀p∈l,(1<=p.1/\p.1<=9)/\p.2.length=16/\∀x∈p.2,0<=x/\x<nx)->CE P nx (l.flatMap NH)=some (P++l,nx)
 |[],P,_,_,_=>by simp [CE]
 |p::l,P,b,a,hall=>by
  obtain⟨h1,h2,h3⟩:=hall p (by simp)
  have c:∀q∈P,q.1<p.1:=fun q hq=>by
   rw [Bv]at a;exact a.2.2 q hq p (by simp)
  rw [Hd,Kx];unfold NH;rw [Fe];have f:DR P nx (Dk.mk 2 p.1 0 0)=some (P++ [(p.1,QT)],nx):=by
   unfold DR;rw [ABZ h1 (by omega)];simp only [Iv,Jz,Cg,show¬((2:Int)=1) by omega];have hg:KX P p.1=none:=by
    have:=Qj c [];rw [Aw]at this;rw [this];rfl
   rw [A5 (by
    rintro(hh|hh|hh)
    ·omega
    ·exact hh hg
    ·simp at b;omega)]
   rw [A5 (by omega),tF c]
  rw [f];simp only [Aa];have hz:QT=[]++List.replicate p.2.length 0:=by rw [h2];rfl
  have e:=iX c h1 d p.2 [] (by simpa using h2) h3;rw [<-hz,Bm,A6]at e;rw [e];simp only [Aa];have hP:P++ [(p.1,p.2)]=P++ [p]:=rfl;have:=Y4 d l (P++ [p]) (by rw [Ap];exact b) (by rw [Ap];exact a) (fun q hq=>hall q (by simp [hq]));rw [hP];rw [show(l.flatMap fun p=>Dk.mk 2 p.1 0 0::Ga p.1 0 p.2)=l.flatMap NH from rfl,this,Ap];rfl
theorem Zu {l:Vs} {nx:Int} (h:VsP l nx) (l0:Vs) (n0:Int):CE l0 n0 (Lm l nx)=some (l,nx):=by
 unfold Lm;rw [Fe];have a:DR l0 n0 (Dk.mk 1 0 nx 0)=some ([],nx):=by
  unfold DR;have hb:HV (Dk.mk 1 0 nx 0)=true:=by
   have:=h.nxt;unfold HV;simp;omega
  rw [hb];simp only [Iv,Jz,Cg];have:=h.nxt;rw [A5 (by omega)]
 rw [a];simp only [Aa];have:=Y4 h.nxt.2 l [] (by simpa using h.len) (by simpa using h.asc) (fun p hp=>⟨h.ids p hp,h.row p hp,h.num p hp⟩);rw [A6]at this;exact this
theorem tS {l:Vs} {nx:Int} (h:VsP l nx):(∀r∈Lm l nx,HV r=true)/\(Lm l nx).length<=1000:=by
 refine⟨fun r hr=>?_,?_⟩
 ·
  cases hb:HV r with
  |true=>rfl
  |false=>
   exfalso;obtain⟨i,hi,rfl⟩:=AK hr;have h1:=Zu h [] 1;obtain⟨e1,e2⟩:=I6 (Ac hi);rw [e1,Kx]at h1
   cases hq:CE [] 1 ((Lm l nx).take i)with
   |none=>rw [hq]at h1;cases h1
   |some q=>
    rw [hq]at h1;simp only [Aa]at h1;rw [Fe]at h1;have:DR q.1 q.2 (Lm l nx)[i]=none:=by unfold DR;rw [Az hb]
    rw [this]at h1;cases h1
 ·unfold Lm;rw [Ax];have:=kC l h.row;have:=h.len;omega
end Go.TI
namespace Go.TI
open Go
structure tW (d d':AH):Prop where
 ab:BW d'.Store=BW d.Store
 nx:d'.Store.Next=d.Store.Next
theorem Jk {d:AH} {r:List Ar} (h:Lb d r) {steps:List BI} {g:Flash} (hs:Steps d.Flash steps g) (hl:steps.length<=1048576) {d':AH} (hm:E4 g=some (d',true)):GF d steps=some d':=by
 unfold GF;rw [iT h.fl hs hl];simp only [Aa];rw [hm];rfl
theorem RT:∀{n:Int} {ps:List Page} {p:Page},FE n ps->(∀q∈ps,q.Seq<p.Seq)->n<=p.Seq->FE n (ps++ [p])
 |n,[],p,_,_,h=>⟨h,trivial⟩
 |n,q::ps,p,ha,hq,h=>⟨ha.1,RT ha.2 (fun x hx=>hq x (by simp [hx])) (by have:=hq q (by simp);omega)⟩
def oB (d:AH) (r:List Ar) (p:Page):Prop:=p.Kind=1/\FB (BW d.Store) p.Tx/\∃y,KJ r p.Tx=some y/\p.Text=y.Page.Text
theorem n8 {d:AH} {r:List Ar} (h:Lb d r) {live:List Int} (hl:∀x,x∈live↔FB (BW d.Store) x) {j:Nat} {y:Ar} (hy:r[j]?=some y) (hn:(H6 r live 1000000001)[j]?=some true):y.Page.Kind=1/\FB (BW d.Store) y.Page.Tx/\KJ r y.Page.Tx=some y:=by
 rw [S0 r live _ hy]at hn
 injection hn with hn
 have a:=h.pages;have ht:=a.tx y (AM hy);have:Fy 1000000001 y=false:=by
  unfold Fy;rw [Af (by omega),Y2]
 rw [this,Sa,D9]at hn;obtain⟨c,hc,b⟩:=hn;have e:fX c r r.length=some j:=by simpa using b
 have h1:=zC e;rw [hy]at h1;obtain⟨_,k1,k2⟩:=R1 h1;rw [k2];exact⟨k1,(hl c).1 hc,h1⟩
theorem X9 {d:AH} {r:List Ar} (h:Lb d r) (k:r.length<=40) (b:Int):IL d b=some ([],false)\/∃steps ps g,IL d b=some (steps,true)/\IW d.Flash steps ps g/\Cf g/\FE d.Seq ps/\steps.length<=160/\∀p∈ps,oB d r p/\IS p:=by
 obtain⟨live,l1,l2,l3,l4⟩:=NU h.st;have l:1<=d.Seq/\d.Seq<=1000000001:=by
  rw [h.seq];have h1:=Si r;refine⟨h1.2.1,h1.2.2 _ (by omega) (fun y hy=>?_)⟩;have:=(h.pages.seq y hy).2;omega
 unfold IL;rw [h.scan.s,l1];simp only [Aa];rw [Ui r live _ h.scan.len l4];simp only [Aa];have c:live.foldl (qT r) (r.map (Fy 1000000001))=H6 r live 1000000001:=rfl;rw [c]
 let I:Nat->(List BI×Int×List Block)->Prop:=fun n o=>∃ps,IW d.Flash o.1 ps (Flash.mk o.2.2)/\Cf (Flash.mk o.2.2)/\FE d.Seq ps/\(∀p∈ps,p.Seq<o.2.1)/\d.Seq<=o.2.1/\o.2.1<=d.Seq+n/\o.1.length<=n/\∀p∈ps,oB d r p/\IS p
 have I0:I (40*0) ([],d.Seq,d.Flash.Blocks):=by
  refine⟨[],rfl,h.fl,trivial,?_,?_,?_,?_,?_⟩
  ·intro p hp;cases hp
  ·exact Il _
  ·show d.Seq<=d.Seq+((40*0:Nat):Int);omega
  ·exact AB _
  ·intro p hp;cases hp
 obtain⟨res,h1,h2⟩:=Bw (body:=fun s:List BI×Int×Int×List Block=>Fc b r (H6 r live 1000000001) s.1 s.2.1 s.2.2.1 s.2.2.2) (fun(o:List BI×Int×List Block) i=>(o.1,o.2.1,i,o.2.2)) 4
  (fun i o=>I (40*i) o) (fun res=>res= .inr ([],false)\/∃steps sq bl,res= .inl steps/\I 160 (steps,sq,bl))
  (fun o i hi ho=>by
   simp only [Fc];rw [Ad (by omega:(i:Int)<4),Ag];obtain⟨q,q1,q2⟩:=Bw (body:=fun s:List BI×Int×Int×List Block=>EZ b r (H6 r live 1000000001) (i:Int) s.1 s.2.1 s.2.2.1 s.2.2.2) (fun(o:List BI×Int×List Block) j=>(o.1,o.2.1,j,o.2.2)) r.length
    (fun j o=>I (40*i+j) o) (fun q=>q= .inr (.inr (.inr ([],false)))\/∃o,q= .inl o/\I (40*i+40) o)
    (fun o j hj hs=>by
     obtain⟨ss,sq,bl⟩:=o;obtain⟨ps,p1,p2,p3,p4,p5,p6,p7,p8⟩:=hs;simp only at p1 p2 p4 p5 p6 p7;have hx:=Ac hj;have e:j<(H6 r live 1000000001).length:=by rw [PI];exact hj
     have a:=Ac e;simp only [EZ,Bb,Ad hj,Ag,AN,hx,a,Aa];rw [ad1 (by omega)];have skip:I (40*i+(j+1)) (ss,sq,bl):=⟨ps,p1,p2,p3,p4,p5,by show sq<=_;omega,by show ss.length<=_;omega,p8⟩
     cases f:(H6 r live 1000000001)[j]with
     |false=>
      simp only [Bk,Ag,Aa];exact .inl ⟨(ss,sq,bl),rfl,skip⟩
     |true=>
      simp only [As,Ae]
      cases hb:(r[j].Block !=b)with
      |true=>
       simp only [Ag,Aa];exact .inl ⟨(ss,sq,bl),rfl,skip⟩
      |false=>
       simp only [Ae,Aa]
       cases m:(r[j].Leaf !=(i:Int))with
       |true=>
        simp only [Ag,Aa];exact .inl ⟨(ss,sq,bl),rfl,skip⟩
       |false=>
        simp only [Ae,Aa];obtain⟨m1,m2,m3⟩:=n8 h l3 hx (by rw [a,f])
        rcases vO p2 p1 (by omega) (Page.mk r[j].Page.Kind sq r[j].Page.Tx r[j].Page.Part r[j].Page.Count r[j].Page.Text)with⟨s,g',w1,w2,w3,w4,_⟩|w
        ·rw [w1];simp only [Aa,As,Ae];rw [Cu,Ai,Ao,C3 (by omega) (by omega),show((ss.length+1:Nat):Int)-1=(ss.length:Int) by omega,G5];simp only [Aa]
         cases t:(s.Block==b)with
         |true=>exact .inr ⟨_,rfl,.inl rfl⟩
         |false=>
          simp only [Ae];rw [C6 (by omega) (by omega)];refine .inl ⟨(ss++ [s],sq+1,g'.Blocks),rfl,_,w2,w3,RT p3 (fun q hq=>p4 q hq) p5,fun p hp=>?_,by show d.Seq<=sq+1;omega,by show sq+1<=_;omega,by simp;omega,fun p hp=>?_⟩
          ·rw [Al,AA]at hp;show p.Seq<sq+1
           rcases hp with hp|rfl
           ·have:=p4 p hp;omega
           ·show sq<sq+1;omega
          ·rw [Al,AA]at hp
           rcases hp with hp|rfl
           ·exact p8 p hp
           ·exact⟨⟨m1,m2,_,m3,rfl⟩,w4⟩
        ·rw [w]
         exact .inr ⟨_,rfl,.inl rfl⟩)
    (fun o hs=>⟨.inl (o.1,o.2.1,o.2.2),by simp only [EZ,Bb,A3,A8,Ae],.inr ⟨o,rfl,by
     obtain⟨ps,p1,p2,p3,p4,p5,p6,p7,p8⟩:=hs
     exact⟨ps,p1,p2,p3,p4,p5,by omega,by omega,p8⟩⟩⟩) (s:=o) (by
      obtain⟨ps,p1,p2,p3,p4,p5,p6,p7,p8⟩:=ho
      exact⟨ps,p1,p2,p3,p4,p5,by omega,by omega,p8⟩)
   have q1':A0 (fun s:List BI×Int×Int×List Block=>EZ b r (H6 r live 1000000001) (i:Int) s.1 s.2.1 s.2.2.1 s.2.2.2) (o.1,o.2.1,0,o.2.2)=some q:=q1;rw [q1']
   rcases q2 with rfl|⟨o',rfl,q2⟩
   ·exact .inr ⟨_,rfl,.inl rfl⟩
   ·simp only [Aa,Cl];rw [ad1 (by omega)]
    exact .inl ⟨o',rfl,by
     obtain⟨ps,p1,p2,p3,p4,p5,p6,p7,p8⟩:=q2
     exact⟨ps,p1,p2,p3,p4,p5,by omega,by omega,p8⟩⟩)
  (fun o ho=>⟨.inl o.1,by simp only [Fc];rw [Af (by omega:¬((4:Nat):Int)<4),Ae],.inr ⟨o.1,o.2.1,o.2.2,rfl,ho⟩⟩) (s:=([],d.Seq,d.Flash.Blocks)) I0
 have h1':A0 (fun s:List BI×Int×Int×List Block=>Fc b r (H6 r live 1000000001) s.1 s.2.1 s.2.2.1 s.2.2.2) ([],d.Seq,0,d.Flash.Blocks)=some res:=h1;rw [h1']
 rcases h2 with rfl|⟨steps,sq,bl,rfl,ps,p1,p2,p3,p4,p5,p6,p7,p8⟩
 ·exact .inl rfl
 ·exact .inr ⟨steps,ps,_,rfl,p1,p2,p3,p7,p8⟩
theorem wI {d:AH} {r:List Ar} (h:La d r) {steps:List BI} {ps:List Page} {g:Flash} (hp:IW d.Flash steps ps g) (ha:FE d.Seq ps) (hl:steps.length<=160) (hm:∀p∈ps,oB d r p/\IS p) (k:Nat):
  ∃m d',Steps d.Flash (steps.take k) m/\Cf m/\E4 m=some (d',true)/\d'.Flash=m/\La d' (r++(C1 steps ps).take k)/\tW d d'/\d'.Base=d.Base/\∀c,FB (BW d.Store) c->Dx (r++(C1 steps ps).take k) c=Dx r c:=by
 have f:=(FG hp).2;have v:=h.few
 have a:∀y∈r,y.Page.Seq<d.Seq:=fun y hy=>by rw [h.dev.seq];exact(Si r).1 y hy
 obtain⟨m,b⟩:=QM k hp;have l:=Us h.dev.fl (FG b).1;have ascT:∀(ps:List Page) (n:Int) (k:Nat),FE n ps->FE n (ps.take k):=by
  intro ps
  induction ps with
  |nil=>intro n k _;simp [FE]
  |cons p ps ih=>
   intro n k ha
   cases k with
   |zero=>trivial
   |succ k=>exact⟨ha.1,ih _ k ha.2⟩
 have o:=WG h.dev.fl h.dev.sr b a (ascT _ _ k ha);rw [Tj]at o;obtain⟨d',u1,u2,u3⟩:=N6 l o;have w:=QH f;have ascG:∀(ps:List Page) (n:Int) (i:Nat) (p:Page),FE n ps->ps[i]?=some p->n<=p.Seq/\∀j q,j<i->ps[j]?=some q->q.Seq<p.Seq:=by
  intro ps
  induction ps with
  |nil=>intro n i p _ hp;simp at hp
  |cons x ps ih=>
   intro n i p ha hp
   cases i with
   |zero=>
    simp only [Du,An]at hp;rw [<-hp];exact⟨ha.1,fun j q hj=>by omega⟩
   |succ i=>
    obtain⟨i1,i2⟩:=ih _ i p ha.2 (by simpa using hp);have:=ha.1;refine⟨by omega,fun j q hj hq=>?_⟩
    cases j with
    |zero=>
     simp only [Du,An]at hq;rw [<-hq];omega
    |succ j=>exact i2 j q (by omega) (by simpa using hq)
 have main:∀n,n<=(C1 steps ps).length->Iu (r++(C1 steps ps).take n)/\Gs (r++(C1 steps ps).take n) (FB (BW d.Store))/\B4 (r++(C1 steps ps).take n)=B4 r/\∀c,FB (BW d.Store) c->Dx (r++(C1 steps ps).take n) c=Dx r c:=by
  intro n
  induction n with
  |zero=>intro _;rw [Ib,Aw];exact⟨h.core,h.data,rfl,fun _ _=>rfl⟩
  |succ n ih=>
   intro hn;obtain⟨i1,i2,i3,i4⟩:=ih (by omega);have hx:(C1 steps ps)[n]?=some (C1 steps ps)[n]:=Ac (by omega);have s:=Kb hx;obtain⟨⟨m1,m2,y,m3,m4⟩,m5⟩:=hm _ (AM s);obtain⟨a1,a2⟩:=ascG ps d.Seq n _ ha s;rw [A4 (by omega),<-Ap];have t:Sb (C1 steps ps)[n].Page.Text=Dx r (C1 steps ps)[n].Page.Tx:=by unfold Dx;rw [m3,m4];rfl
   have u:ER (r++(C1 steps ps).take n)<=(C1 steps ps)[n].Page.Seq:=by
    refine(Si _).2.2 _ (m5.2.1.1) (fun z hz=>?_)
    rcases Al.1 hz with hz|hz
    ·have:=a z hz;omega
    ·obtain⟨j,hj,rfl⟩:=AK hz;rw [AI]at hj;rw [IZ];exact a2 j _ (by omega) (Kb (Ac (by omega)))
   refine⟨Iu.add i1 (by simp;omega) m5 u (fun hh=>by omega),lI i2 (by rw [t,i4 _ m2]),by rw [Th _ (by omega),i3],fun c hc=>?_⟩;by_cases e:(C1 steps ps)[n].Page.Kind=1/\(C1 steps ps)[n].Page.Tx=c
   ·have:Dx (r++(C1 steps ps).take n++ [(C1 steps ps)[n]]) c=Sb (C1 steps ps)[n].Page.Text:=by unfold Dx;rw [Mm,Az e];rfl
    rw [this,t,e.2]
   ·rw [<-i4 c hc];unfold Dx;rw [Mm,A5 e]
 have key:Iu (r++(C1 steps ps).take k)/\Gs (r++(C1 steps ps).take k) (FB (BW d.Store))/\B4 (r++(C1 steps ps).take k)=B4 r/\∀c,FB (BW d.Store) c->Dx (r++(C1 steps ps).take k) c=Dx r c:=by
  by_cases e:k<=(C1 steps ps).length
  ·exact main k e
  ·have:=main _ (AB _);rw [Bg]at this;rw [Bc (by omega)];exact this
 obtain⟨k1,k2,k3,k4⟩:=key;obtain⟨e1,e2,e3⟩:=NN h.dev u2 (by rw [k3]);exact⟨m,d',(FG b).1,l,u1,u3,⟨u2,k1,by rw [e1];exact k2⟩,⟨e1,e2⟩,e3,k4⟩
end Go.TI
namespace Go.TI
open Go
theorem pO {d:AH} {r:List Ar} (h:Lb d r) {live:List Int} (hl:live.length<=16777216) (t:ByteArray):∃v,Ma d.Flash live t=some v/\((v=0/\∀c∈live,Dx r c≠some t)\/(v∈live/\Dx r v=some t)):=by
 have hr:=h.pages;unfold Ma P8;rw [h.scan.s];simp only [Aa];obtain⟨b,h1,h2⟩:=Bw (body:=fun s:Int=>G9 r live t s) (fun(_:Unit) i=>i) live.length (fun i _=>∀c∈live.take i,Dx r c≠some t) (fun b=>(b= .inl ()/\∀c∈live,Dx r c≠some t)\/∃v,b= .inr v/\v∈live/\Dx r v=some t)
  (fun _ i hi hs=>by
   have hx:=Ac hi;simp only [G9,Bb,Ad hi,Ag,AN,hx,Aa];obtain⟨u,ok,k1,k2⟩:=Vp hr live[i];rw [k1];simp only [Aa];rw [ad1 (by omega)]
   have no:Dx r live[i]≠some t->∀c∈live.take (i+1),Dx r c≠some t:=fun f c hc=>by
    rw [A4 hi,Al,AA]at hc
    rcases hc with hc|rfl
    ·exact hs c hc
    ·exact f
   cases ok with
   |false=>
    simp only [Ae,Aa];exact .inl ⟨(),by first|rfl|trivial,no (by rw [k2];simp)⟩
   |true=>
    simp only [Ag,Aa];rw [Az rfl]at k2
    cases a:seq u t with
    |true=>
     rw [Iy,AD]at a;exact .inr ⟨_,rfl,.inr ⟨_,rfl,AP hi,by rw [k2,a]⟩⟩
    |false=>
     rw [Iy,AZ]at a;refine .inl ⟨(),rfl,no ?_⟩;rw [k2];intro e
     injection e with e
     exact a e)
  (fun _ hs=>⟨_,by simp only [G9,Bb,A3,A8,Ae],.inl ⟨rfl,by rw [Bg]at hs;exact hs⟩⟩) (s:=()) (by simp)
 have h1':A0 (fun s:Int=>G9 r live t s) 0=some b:=h1;rw [h1']
 rcases h2 with⟨rfl,h2⟩|⟨v,rfl,h2⟩
 ·exact⟨0,rfl,.inl ⟨rfl,h2⟩⟩
 ·exact⟨v,rfl,.inr h2⟩
structure ACl (q:QR):Prop where
 kind:1<=q.Kind/\q.Kind<=6
 vol:1<=q.Vol/\q.Vol<=9
 text:(L q.Text).length<=64
 sec:0<=q.Sector/\q.Sector<=15
 of_:0<=q.Of/\q.Of<=9
 cl:q.Kind=4->1<=q.Of
 no:q.Kind≠4->q.Of=0
 tx:q.Kind≠1->L q.Text=[]
theorem YM (q:QR):∃v,Rs q=some v/\(v=true->ACl q):=by
 unfold Rs;simp only [Ek,Aa];by_cases h1:1<=q.Kind/\q.Kind<=6
 ·rw [Ad h1];by_cases h2:1<=q.Vol/\q.Vol<=9
  ·rw [Ad h2];by_cases h3:FZ q.Text>64
   ·rw [Ad h3];exact⟨_,rfl,by simp⟩
   ·rw [Af h3];rw [BJ]at h3;simp only [As,Ae];have ht:(bif(q.Kind !=1)then(some (!(seq q.Text (bs []))))else(some false):Option Bool)=some (decide (q.Kind≠1/\L q.Text≠ [])):=by
     by_cases e:q.Kind=1
     ·rw [show(q.Kind !=1)=false by simp [e],Af (fun hh=>hh.1 e)];rfl
     ·rw [show(q.Kind !=1)=true by simpa using e,OS,Eh];by_cases e2:L q.Text=[]
      ·rw [Ad e2,Af (fun hh=>hh.2 e2)];rfl
      ·rw [Af e2,Ad (show q.Kind≠1/\L q.Text≠ []from⟨e,e2⟩)];rfl
    rw [ht];simp only [Aa];by_cases h4:q.Kind≠1/\L q.Text≠ []
    ·rw [Ad h4];exact⟨_,rfl,by simp⟩
    ·rw [Af h4];simp only [Ae]
     have a:q.Kind≠1->L q.Text=[]:=fun hk=>Classical.byContradiction fun hh=>h4 ⟨hk,hh⟩
     by_cases h5:q.Kind=4
     ·rw [show(q.Kind==4)=true by simpa using h5];simp only [Ag];by_cases h6:q.Sector=0
      ·rw [show(q.Sector==0)=true by simpa using h6];refine⟨_,rfl,fun hh=>?_⟩;rw [AD]at hh;exact⟨h1,h2,by omega,by omega,by omega,fun _=>hh.1,fun hk=>absurd h5 hk,a⟩
      ·rw [show(q.Sector==0)=false by simpa using h6];exact⟨_,rfl,by simp⟩
     ·rw [show(q.Kind==4)=false by simpa using h5];simp only [Ae];by_cases h6:q.Of=0
      ·rw [show(q.Of !=0)=false by simp [h6]];simp only [Ae];by_cases h7:q.Kind=3\/q.Kind=5
       ·have:(bif(q.Kind==3)then(some true)else(some (q.Kind==5)):Option Bool)=some true:=by
         rcases h7 with e|e<;>rw [e]<;>rfl
        rw [this];refine⟨_,rfl,fun hh=>?_⟩;rw [CV]at hh;exact⟨h1,h2,by omega,by omega,by omega,fun hk=>absurd hk h5,fun _=>h6,a⟩
       ·have:(bif(q.Kind==3)then(some true)else(some (q.Kind==5)):Option Bool)=some false:=by
         rw [show(q.Kind==3)=false by rw [Di];omega,show(q.Kind==5)=false by rw [Di];omega];rfl
        rw [this];refine⟨_,rfl,fun hh=>?_⟩;rw [AD]at hh;exact⟨h1,h2,by omega,hh,by omega,fun hk=>absurd hk h5,fun _=>h6,a⟩
      ·rw [show(q.Of !=0)=true by simpa using h6];exact⟨_,rfl,by simp⟩
  ·rw [Af h2];exact⟨_,rfl,by simp⟩
 ·rw [Af h1];exact⟨_,rfl,by simp⟩
def AAQ (d:AH) (r:List Ar) (q:QR) (x:Dk) (text:ByteArray):Prop:=HV x=true/\x.Kind≠1/\x.Vol=q.Vol/\((L text=[]/\(x.Kind=4->FB (BW d.Store) x.Chunk/\Dx r x.Chunk=some q.Text))\/(x.Kind=4/\x.Chunk=d.Store.Next/\L text≠ []/\Sb text=some q.Text/\∀c,FB (BW d.Store) c->Dx r c≠some q.Text))
theorem lA {d:AH} {r:List Ar} (h:Lb d r) (q:QR):∃recs text no,KC d q=some (recs,text,no)/\((recs=[]/\text=bs [])\/(no=0/\∃x,recs=[x]/\AAQ d r q x text))/\(no≠0->recs=[]):=by
 have i:=h.st.len;have a:=h.st.nx;obtain⟨v,a1,a2⟩:=YM q;unfold KC;rw [a1];simp only [Aa]
 cases v with
 |false=>exact⟨_,_,_,rfl,.inl ⟨rfl,rfl⟩,fun _=>rfl⟩
 |true=>
  have hq:=a2 rfl;simp only [As,Ae];have f:=hq.kind;obtain⟨w,hw⟩:∃w,ED d.Store q.Vol=some w:=by
   rcases Iz d.Store (by omega) q.Vol with⟨e,_⟩|⟨k,_,e,_⟩<;>exact⟨_,e⟩
  rw [hw];simp only [Aa];by_cases h34:q.Kind=3\/q.Kind=4
  ·have:(bif(q.Kind==3)then(some true)else(some (q.Kind==4)):Option Bool)=some true:=by
    rcases h34 with e|e<;>rw [e]<;>rfl
   rw [this];simp only [Aa,Ag]
   cases decide (w>=0)with
   |true=>exact⟨_,_,_,rfl,.inl ⟨rfl,rfl⟩,fun _=>rfl⟩
   |false=>
    simp only [Ae];obtain⟨j2,g⟩:∃j2,(bif(q.Kind==4)then((ED d.Store q.Of).bind fun v3=>some (decide (v3<0)))else(some false):Option Bool)=some j2:=by
     cases q.Kind==4 with
     |false=>exact⟨_,rfl⟩
     |true=>
      rcases Iz d.Store (by omega) q.Of with⟨e,_⟩|⟨k,_,e,_⟩<;>rw [e]<;>exact⟨_,rfl⟩
    rw [g];simp only [Aa]
    cases j2 with
    |true=>exact⟨_,_,_,rfl,.inl ⟨rfl,rfl⟩,fun _=>rfl⟩
    |false=>
     simp only [Ae]
     cases decide (ln d.Store.Vols>=3)with
     |true=>exact⟨_,_,_,rfl,.inl ⟨rfl,rfl⟩,fun _=>rfl⟩
     |false=>
      refine⟨_,_,_,rfl,.inr ⟨rfl,_,rfl,ABZ hq.vol hq.of_,by simp,rfl,.inl ⟨Eh _,fun hh=>by simp at hh⟩⟩,fun hh=>absurd rfl hh⟩
  ·have:(bif(q.Kind==3)then(some true)else(some (q.Kind==4)):Option Bool)=some false:=by
    rw [show(q.Kind==3)=false by rw [Di];omega,show(q.Kind==4)=false by rw [Di];omega];rfl
   rw [this];simp only [Aa,Ae]
   cases decide (w>=0)with
   |false=>exact⟨_,_,_,rfl,.inl ⟨rfl,rfl⟩,fun _=>rfl⟩
   |true=>
    simp only [As,Ae]
    cases k1:(q.Kind==1)with
    |true=>
     simp only [Ag];obtain⟨live,l1,l2,l3,l4⟩:=NU h.st;obtain⟨c,f1,f2⟩:=pO h l4 q.Text;rw [l1];simp only [Aa];rw [f1];simp only [Aa]
     rcases f2 with⟨rfl,f2⟩|⟨f2,f3⟩
     ·obtain⟨z,z1,z2,z3⟩:=yK q.Text hq.text;rw [show((0:Int)==0)=true from rfl,z1];refine⟨_,_,_,rfl,.inr ⟨rfl,_,rfl,ABe hq.vol (by have:=hq.sec;omega) ⟨a.1,a.2⟩,by simp,rfl,.inr ⟨rfl,rfl,?_,?_,fun c hc=>f2 c ((l3 c).2 hc)⟩⟩,fun hh=>absurd rfl hh⟩
      ·intro e;have e':L z=[]:=e;rw [e']at z3;simp at z3
      ·show Sb z=some q.Text;unfold Sb;rw [z2]
     ·have b:=(l3 c).1 f2;have j:=dB h.st b;rw [show(c==0)=false by rw [Di];omega];refine⟨_,_,_,rfl,.inr ⟨rfl,_,rfl,ABe hq.vol (by have:=hq.sec;omega) (by omega),by simp,rfl,.inl ⟨Eh _,fun _=>⟨b,f3⟩⟩⟩,fun hh=>absurd rfl hh⟩
    |false=>
     simp only [Ae]
     cases k2:(q.Kind==2)with
     |true=>
      refine⟨_,_,_,rfl,.inr ⟨rfl,_,rfl,?_,by simp,rfl,.inl ⟨Eh _,fun hh=>by simp at hh⟩⟩,fun hh=>absurd rfl hh⟩;have:=hq.vol;have:=hq.sec;unfold HV;simp;omega
     |false=>
      simp only [Ae]
      cases k5:(q.Kind==5)with
      |true=>
       refine⟨_,_,_,rfl,.inr ⟨rfl,_,rfl,?_,by simp,rfl,.inl ⟨Eh _,fun hh=>by simp at hh⟩⟩,fun hh=>absurd rfl hh⟩;have:=hq.vol;unfold HV;simp;omega
      |false=>exact⟨_,_,_,rfl,.inl ⟨rfl,rfl⟩,fun _=>rfl⟩
theorem kG {l l':Vs} {nx nx':Int} {x:Dk} (h:DR l nx x=some (l',nx')) (hk:x.Kind≠1):(∀c,FB l' c->FB l c\/c=x.Chunk)/\nx<=nx'/\nx'<=max nx (x.Chunk+1):=by
 unfold DR at h;split at h
 ·cases h
 ·first
   |rw [A5 hk]at h
   |skip
  split at h
  ·split at h
   ·cases h
   ·injection h with h
    injection h with h1 h2
    subst h1 h2;refine⟨fun c hc=>?_,by omega,by omega⟩;obtain⟨h0,p,hp,hx⟩:=hc;unfold tG at hp;simp only [Al,AY,AA]at hp
    rcases hp with(hp|rfl)|hp
    ·exact .inl ⟨h0,p,hp.1,hx⟩
    ·simp only at hx
     have zz:c∉QT:=fun hz=>by have:=DO hz;omega
     split at hx
     ·cases hg:KX l x.Arg with
      |none=>rw [hg]at hx;exact absurd hx zz
      |some row=>
       rw [hg]at hx;unfold KX at hg;obtain⟨w,a,b⟩:=AU.1 hg;have d:=K0 a;exact .inl ⟨h0,w,d,by rw [b];exact hx⟩
     ·exact absurd hx zz
    ·exact .inl ⟨h0,p,hp.1,hx⟩
  ·split at h
   ·cases h
   ·split at h
    ·injection h with h
     injection h with h1 h2
     subst h1 h2;refine⟨fun c hc=>?_,by omega,by omega⟩;obtain⟨h0,p,hp,hx⟩:=hc;exact .inl ⟨h0,p,(AY.1 hp).1,hx⟩
    ·injection h with h
     injection h with h1 h2
     subst h1 h2;refine⟨fun c hc=>?_,by omega,by omega⟩;obtain⟨h0,p,hp,hx⟩:=hc;unfold mF at hp;obtain⟨w,hw,rfl⟩:=AR.1 hp;split at hx
     ·rcases DC hx with hx|hx
      ·exact .inl ⟨h0,w,hw,hx⟩
      ·exact .inr hx
     ·exact .inl ⟨h0,w,hw,hx⟩
theorem o5 {l l':Vs} {nx nx':Int} {x:Dk} (h:DR l nx x=some (l',nx')) (hk:x.Kind≠1):∀p∈l',(∃p'∈l,p'.1=p.1)\/p.1=x.Vol:=by
 unfold DR at h;split at h
 ·cases h
 ·first
   |rw [A5 hk]at h
   |skip
  split at h
  ·split at h
   ·cases h
   ·injection h with h
    injection h with h1 h2
    subst h1 h2;intro p hp;unfold tG at hp;simp only [Al,AY,AA]at hp
    rcases hp with(hp|rfl)|hp
    ·exact .inl ⟨p,hp.1,rfl⟩
    ·exact .inr rfl
    ·exact .inl ⟨p,hp.1,rfl⟩
  ·split at h
   ·cases h
   ·split at h
    ·injection h with h
     injection h with h1 h2
     subst h1 h2
     exact fun p hp=> .inl ⟨p,(AY.1 hp).1,rfl⟩
    ·injection h with h
     injection h with h1 h2
     subst h1 h2;intro p hp;unfold mF at hp;obtain⟨w,hw,rfl⟩:=AR.1 hp;refine .inl ⟨w,hw,?_⟩;split<;>rfl
end Go.TI
namespace Go.TI
open Go
theorem XN {f:Flash} (hf:Cf f) {s:BI} (h:¬Qs f s):JR f [s]=some (f,0):=by
 unfold JR;rw [GL f hf.cap];simp only [Aa];rw [AG];have hb:EF [s] 0 f.Blocks=some (.inr (.inr (f,0))):=by
  simp only [EF];rw [show decide ((0:Int)<ln [s])=true from rfl,Ag,show gi [s] 0=some s from rfl];simp only [Aa]
  rcases Qz hf s with⟨k1,_⟩|⟨_,k2⟩
  ·exact absurd k1 h
  ·have a:Flash.mk f.Blocks=f:=rfl;rw [a,k2];rfl
 simp only [hb];rfl
theorem WP {d:AH} {r:List Ar} (h:Lb d r):∃v,LU d=some v:=by
 have hr:=h.pages;have ht:1<=d.Tx/\d.Tx<=1000000001:=by
  rw [h.tx];have h1:=uI r;refine⟨h1.2.1,h1.2.2 _ (by omega) (fun y hy _=>?_)⟩;have:=(hr.tx y hy).2;omega
 unfold LU
 cases(d.Base !=sb d.Tx 1)with
 |true=>exact⟨_,rfl⟩
 |false=>
  simp only [Ae];rw [h.scan.s];simp only [Aa];rw [SZ r hr];simp only [Aa];obtain⟨g1,_⟩:=Wr hr;obtain⟨b,h1,_⟩:=Bw (body:=fun s:Int=>FK d (B4 r) s) (fun(_:Unit) i=>i) (B4 r).length (fun _ _=>True) (fun _=>True)
   (fun _ i hi _=>by
    have hx:=Ac hi;simp only [FK,Bb,Ad hi,Ag,AN,hx,Aa];rw [ad1 (by omega)]
    cases((B4 r)[i].Num==d.Base)with
    |false=>exact .inl ⟨(),by first|rfl|trivial,trivial⟩
    |true=>
     simp only [Ag]
     cases a:(B4 r)[i].Recs with
     |nil=>exact .inr ⟨_,rfl,trivial⟩
     |cons q m=>
      have hg:gi (q::m) 0=some q:=AN (i:=0);rw [Ad (by rw [Cu,Ax];omega:ln (q::m)>0),hg]
      exact .inr ⟨_,rfl,trivial⟩)
   (fun _ _=>⟨.inl (),by simp only [FK,Bb,A3,A8,Ae],trivial⟩) (s:=()) trivial
  have h1':A0 (fun s:Int=>FK d (B4 r) s) 0=some b:=h1;rw [h1']
  cases b with
  |inl u=>exact⟨_,rfl⟩
  |inr v=>exact⟨v,rfl⟩
theorem Xf {d:AH} {r:List Ar} (h:Lb d r):∃v,LW d=some v:=by
 have hn:=h.fl.n;obtain⟨live,l1,_,_,l4⟩:=NU h.st;unfold LW;rw [h.scan.s,l1];simp only [Aa];rw [Ui r live d.Base h.scan.len l4,Ui r live 1000000000 h.scan.len l4];simp only [Aa]
 have a:∀b,live.foldl (qT r) (r.map (Fy b))=H6 r live b:=fun _=>rfl
 rw [a,a];obtain⟨b,h1,_⟩:=Bw (body:=fun s:Int×Int×Int=>FO d r (H6 r live d.Base) (H6 r live 1000000000) s.1 s.2.1 s.2.2) (fun(o:Int×Int) i=>(o.1,o.2,i)) d.Flash.Blocks.length (fun _ _=>True) (fun _=>True)
  (fun o i hi _=>by
   have hx:=Ac hi;have hP:=h.fl.blk _ (AP hi);simp only [FO,Bb,Ad hi,Ag,AN,hx,Aa];rw [vV r _ (i:Int) h.scan.len (PI _ _ _),vV r _ (i:Int) h.scan.len (PI _ _ _),LY _ hP.four,ad1 (by omega)];simp only [Aa,W9]
   cases(bif !d.Flash.Blocks[i].Bad then _ else false)with
   |true=>exact .inl ⟨(_,_),by first|rfl|trivial,trivial⟩
   |false=>exact .inl ⟨o,by first|rfl|trivial,trivial⟩)
  (fun o _=>⟨o.1,by simp only [FO,Bb,A3,A8,Ae],trivial⟩) (s:=(-1,4)) trivial
 have h1':A0 (fun s:Int×Int×Int=>FO d r (H6 r live d.Base) (H6 r live 1000000000) s.1 s.2.1 s.2.2) (-1,4,0)=some b:=h1;rw [h1'];exact⟨_,rfl⟩
theorem Lb.seqs {d:AH} {r:List Ar} (h:Lb d r):0<=d.Seq/\d.Seq<=1000000001:=by
 rw [h.seq];have h1:=Si r;refine⟨by omega,h1.2.2 _ (by omega) (fun y hy=>?_)⟩;have:=(h.pages.seq y hy).2;omega
def IX (r r':List Ar):Prop:=∀y∈r',y.Page.Kind=1->∃z∈r,z.Page.Kind=1/\z.Page.Tx=y.Page.Tx/\z.Page.Text=y.Page.Text
theorem IX.refl (r:List Ar):IX r r:=fun y hy hk=>⟨y,hy,hk,rfl,rfl⟩
theorem IX.trans {a b c:List Ar} (h:IX a b) (k:IX b c):IX a c:=fun y hy hk=>by
 obtain⟨z,z1,z2,z3,z4⟩:=k y hy hk;obtain⟨w,w1,w2,w3,w4⟩:=h z z1 z2;exact⟨w,w1,w2,by rw [w3,z3],by rw [w4,z4]⟩
theorem Tg {seq tx:Int} {T:List ByteArray} {p:Page} (h:p∈Dg seq tx T):p.Kind=2:=by
 unfold Dg at h;obtain⟨i,hi,rfl⟩:=AK h;rw [List.getElem_mapIdx]
theorem pP {d:AH} {r:List Ar} (h:La d r):∃steps ok,Me d=some (steps,ok)/\steps.length<=200/\(ok=true->∃d' r',GF d steps=some d'/\La d' r'/\tW d d'/\IX r r'):=by
 have hv:=h.dev.st.vs;obtain⟨dead,d1,d2,d3⟩:=VN h.dev;unfold Me;rw [d1];simp only [Aa]
 cases hd:dead with
 |cons b m=>
  rw [Ad (by rw [Cu,Ax];omega:ln (b::m)>0),show gi (b::m) 0=some b from AN (i:=0)];simp only [Ag,Aa];refine⟨_,_,rfl,by simp,fun _=>?_⟩;obtain⟨x,x1,x2,x3⟩:=d3 b (by rw [hd];simp);by_cases hs:Qs d.Flash (BI.mk 2 b 0 (bs []))
  ·have hc:xZ d.Flash b:=by
    rcases hs with hs|hs
    ·have:=hs.1;simp at this
    ·exact hs.2
   obtain⟨w1,w2⟩:=SG h.dev.fl hc;obtain⟨d',u1,u2,u3,u4,u5,_⟩:=yY h x3 w1 w2;refine⟨d',_,Jk h.dev (steps:=[BI.mk 2 b 0 (bs [])]) ⟨hs,rfl⟩ (by simp) ?_,u3,⟨u4,u5⟩,fun y hy hk=>⟨y,(AY.1 hy).1,hk,rfl,rfl⟩⟩;have:LP d.Flash (BI.mk 2 b 0 (bs []))=Ux d.Flash b:=by unfold LP;rw [A5 (by simp)]
   rw [this];exact u1
  ·obtain⟨d',u1,u2,u3⟩:=N6 h.dev.fl h.dev.sr;obtain⟨e1,e2,_⟩:=NN h.dev u2 rfl;refine⟨d',r,?_,⟨u2,h.core,by rw [e1];exact h.data⟩,⟨e1,e2⟩,IX.refl r⟩;unfold GF;rw [XN h.dev.fl hs];simp only [Aa];rw [u1];rfl
 |nil=>
  rw [show decide (ln ([]:List Int)>0)=false from rfl];simp only [Ae];obtain⟨v,v1⟩:=WP h.dev;rw [v1];simp only [Aa]
  cases v with
  |false=>
   simp only [Bk,Ag];unfold ME;rw [cI h.dev.st];simp only [Aa];obtain⟨b1,b2⟩:=tS hv
   rcases RU h.dev.fl h.dev.seqs (Lm (BW d.Store) d.Store.Next) (by unfold Lm;simp) b2 b1 (bs [])with w|⟨steps,T,g,last,w1,w2,w3,w4,w5,w6,w7,w8,w9⟩
   ·rw [w];exact⟨_,_,rfl,by simp,fun hh=>by cases hh⟩
   ·rw [w2];simp only [Aa];have c:=(FG w7).2;have f:(Dg (MU d (bs [])) d.Tx T).length=T.length:=by unfold Dg;rw [L6]
    have e:E9 d last.Chunk (bs [])=[]:=by unfold E9;rw [Az (Eh _)]
    rw [e,A6,f]at c;refine⟨_,_,rfl,by omega,fun _=>?_⟩;obtain⟨m,d',r',c1,c2,c3,c4,c5,cP,c6,c7,_,c9⟩:=Y3 h b1 w3 w4 w5 w6 w7 w9 (fun hh=>absurd (Eh _) hh) steps.length (AB _);rw [Bg]at c1;obtain⟨q,hq⟩:=(c9 rfl).1;have hB:jN (Tx.mk d.Tx q (Lm (BW d.Store) d.Store.Next))=true:=rfl;have a:=c4.ab;rw [hq,P7,Az hB]at a;have:JW [Tx.mk d.Tx q (Lm (BW d.Store) d.Store.Next)]=(BW d.Store,d.Store.Next):=by
     show(CE [] 1 (Lm (BW d.Store) d.Store.Next)).getD ([],1)=_;rw [Zu hv];rfl
    rw [this]at a
    injection a with e1 e2
    refine⟨d',r',Jk h.dev c1 (by omega) c3,⟨c4,c6,by rw [e1];exact c7⟩,⟨e1,e2⟩,fun y hy hk=>?_⟩
    rcases cP y hy with hh|hh
    ·exact⟨y,hh,hk,rfl,rfl⟩
    ·rw [e,A6]at hh;have:=Tg hh;omega
  |true=>
   simp only [As,Ae];obtain⟨vi,vi1⟩:=Xf h.dev;rw [vi1];simp only [Aa]
   cases decide (vi<0)with
   |true=>exact⟨_,_,rfl,by simp,fun hh=>by cases hh⟩
   |false=>
    simp only [Ae]
    rcases X9 h.dev h.few vi with w|⟨steps,ps,g,w1,w2,w3,w4,w5,w6⟩
    ·rw [w];exact⟨_,_,rfl,by simp,fun hh=>by cases hh⟩
    ·rw [w1];refine⟨steps,true,rfl,by omega,fun _=>?_⟩;obtain⟨m,d',c1,c2,c3,c4,c5,c6,_⟩:=wI h w2 w4 w5 w6 steps.length;rw [Bg]at c1;refine⟨d',_,Jk h.dev c1 (by omega) c3,c5,c6,fun y hy hk=>?_⟩
     rcases i7 _ _ _ _ y hy with hh|hh
     ·exact⟨y,hh,hk,rfl,rfl⟩
     ·obtain⟨⟨_,_,z,z1,z2⟩,_⟩:=w6 _ hh;obtain⟨a1,a2,a3⟩:=R1 z1;exact⟨z,a1,a2,a3,z2.symm⟩
theorem SE {f:Flash} (h:Cf f):∃v:Int,KA f=some v:=by
 obtain⟨v,v1,_⟩:=tX f h.cap (by have:=h.few;omega);exact⟨v,v1⟩
theorem pQ {d:AH} {r:List Ar} (h:La d r) (most:Int):∃d' all r',JS d most=some (d',all)/\La d' r'/\tW d d'/\all.length<=4000/\IX r r':=by
 unfold JS;rw [SP h.dev];simp only [Aa];obtain⟨b,h1,d',all,r',h2,h3,h4,h5,h6⟩:=Bw (body:=fun s:List BI×Int×List Block×List Vol×List BU×Int×Int×Int×Int=>FT most s.1 s.2.1 s.2.2.1 s.2.2.2.1 s.2.2.2.2.1 s.2.2.2.2.2.1 s.2.2.2.2.2.2.1 s.2.2.2.2.2.2.2.1 s.2.2.2.2.2.2.2.2)
  (fun(o:List BI×AH) i=>(o.1,i,o.2.Flash.Blocks,o.2.Store.Vols,o.2.Store.Arena.Knots,o.2.Store.Next,o.2.Seq,o.2.Tx,o.2.Base)) 20
  (fun i o=>o.1.length<=200*i/\∃r',La o.2 r'/\tW d o.2/\IX r r')
  (fun b=>∃d' all r',(b= .inr (d',all)\/b= .inl (all,d'.Flash.Blocks,d'.Store.Vols,d'.Store.Arena.Knots,d'.Store.Next,d'.Seq,d'.Tx,d'.Base))/\La d' r'/\tW d d'/\all.length<=4000/\IX r r')
  (fun o i hi hs=>by
   obtain⟨all,e⟩:=o;obtain⟨f,r',hg,a,c⟩:=hs;simp only at f hg a;have g:AH.mk (Flash.mk e.Flash.Blocks) (Store.mk e.Store.Vols (Arena.mk e.Store.Arena.Knots) e.Store.Next) e.Seq e.Tx e.Base=e:=rfl;have j:Flash.mk e.Flash.Blocks=e.Flash:=rfl;simp only [FT];rw [g,j];obtain⟨v,v1⟩:=SE hg.dev.fl;rw [v1,Ad (by omega:(i:Int)<20)];simp only [Ag,Aa,W9]
   cases(bif decide ((i:Int)<most)then decide (v<12)else false)with
   |false=>
    simp only [Ae];exact .inr ⟨_,rfl,e,all,r',.inr rfl,hg,a,by omega,c⟩
   |true=>
    simp only [Ag];obtain⟨steps,ok,c1,c2,c3⟩:=pP hg;rw [c1];simp only [Aa]
    cases ok with
    |false=>
     simp only [Bk,Ag];exact .inr ⟨_,rfl,e,all,r',.inl rfl,hg,a,by omega,c⟩
    |true=>
     obtain⟨d',r2,k1,k2,k3,k4⟩:=c3 rfl;simp only [As,Ae];rw [k1];simp only [Aa];rw [CO (by omega),ad1 (by omega)]
     exact .inl ⟨(all++steps,d'),rfl,by simp;omega,r2,k2,⟨by rw [k3.ab,a.ab],by rw [k3.nx,a.nx]⟩,c.trans k4⟩)
  (fun o hs=>by
   obtain⟨all,e⟩:=o;obtain⟨f,r',hg,a,c⟩:=hs;refine⟨.inl (all,e.Flash.Blocks,e.Store.Vols,e.Store.Arena.Knots,e.Store.Next,e.Seq,e.Tx,e.Base),?_,e,all,r',.inr rfl,hg,a,by simpa using f,c⟩;simp only [FT];rw [Af (by omega:¬((20:Nat):Int)<20)]
   cases decide (((20:Nat):Int)<most)<;>rfl) (s:=([],d)) ⟨by simp,r,h,⟨rfl,rfl⟩,IX.refl r⟩
 have h1':A0 (fun s:List BI×Int×List Block×List Vol×List BU×Int×Int×Int×Int=>FT most s.1 s.2.1 s.2.2.1 s.2.2.2.1 s.2.2.2.2.1 s.2.2.2.2.2.1 s.2.2.2.2.2.2.1 s.2.2.2.2.2.2.2.1 s.2.2.2.2.2.2.2.2) ([],0,d.Flash.Blocks,d.Store.Vols,d.Store.Arena.Knots,d.Store.Next,d.Seq,d.Tx,d.Base)=some b:=h1;rw [h1']
 rcases h2 with rfl|rfl
 ·exact⟨d',all,r',rfl,h3,h4,h5,h6⟩
 ·exact⟨d',all,r',rfl,h3,h4,h5,h6⟩
end Go.TI
namespace Go.TI
open Go
theorem vD {K:Ks} {r:Int} {k:Nat} (h:k<16):(EN K r)[k]?=some (Py K r k):=by unfold EN;exact JT h
theorem iU {s:Store} (h:DS s) (vol:Int) {k:Nat} (hk:k<16):∃c,HT s vol (k:Int)=some c/\((KX (BW s) vol=none/\c=0)\/∃row,KX (BW s) vol=some row/\row[k]?=some c/\0<=c/\(c≠0->FB (BW s) c)):=by
 have hl:=h.len;unfold HT
 rcases Iz s (by omega) vol with⟨e,e2⟩|⟨i,v,e,e2,e3,_⟩
 ·rw [e];exact⟨0,rfl,.inl ⟨N0.1 e2,rfl⟩⟩
 ·rw [e];simp only [Aa];have hm:=AM e2;have hr:=h.root _ (AR.2 ⟨v,hm,rfl⟩);rw [Af (by omega),Ae,AN,e2];simp only [Aa];rw [VI _ (by have:=h.few;omega) h.ar hr hk];have hg:=LH h.asc hm;rw [e3]at hg;have h0:=kL h.ar hr _ (W4 hk);exact⟨_,rfl,.inr ⟨_,hg,vD hk,h0,fun a=>⟨by omega,_,AR.2 ⟨v,hm,rfl⟩,W4 hk⟩⟩⟩
theorem OT {d:AH} {r:List Ar} (h:La d r) (vol:Int) {k:Nat} (hk:k<16):(KX (BW d.Store) vol=none/\GT r d.Store vol (k:Int)=some (bs [],false))\/
  ∃row c,KX (BW d.Store) vol=some row/\row[k]?=some c/\HT d.Store vol (k:Int)=some c/\((c=0/\GT r d.Store vol (k:Int)=some (bs [],true))\/(0<c/\FB (BW d.Store) c/\∃u,Dx r c=some u/\GT r d.Store vol (k:Int)=some (u,true))):=by
 have hl:=h.dev.st.len;obtain⟨c,c1,c2⟩:=iU h.dev.st vol hk;unfold GT;rw [c1]
 rcases Iz d.Store (by omega) vol with⟨e,e2⟩|⟨i,v,e,e2,e3,_⟩
 ·rw [e];exact .inl ⟨N0.1 e2,rfl⟩
 ·have hg:=LH h.dev.st.asc (AM e2);rw [e3]at hg
  rcases c2 with⟨c2,_⟩|⟨row,c2,c3,c4,c5⟩
  ·rw [hg]at c2;cases c2
  ·rw [e];simp only [Aa];rw [Af (by omega),Ae];right;refine⟨row,c,c2,c3,rfl,?_⟩;by_cases e0:c=0
   ·rw [show(c==0)=true by simpa using e0];exact .inl ⟨e0,rfl⟩
   ·rw [show(c==0)=false by simpa using e0];simp only [Ae];have a:=c5 e0;obtain⟨u,hu⟩:=h.data.data c a;obtain⟨w,ok,t1,t2⟩:=Vp h.dev.pages c;rw [t1];rw [hu]at t2
    cases ok with
    |false=>cases t2
    |true=>
     rw [Az rfl]at t2
     injection t2 with t2
     exact .inr ⟨by omega,a,u,hu,by rw [t2];rfl⟩
theorem pI {d:AH} {r:List Ar} (h:Lb d r) {q:QR} {recs:List Dk} {text:ByteArray} (hp:KC d q=some (recs,text,0)):ACl q:=by
 obtain⟨v,a1,a2⟩:=YM q
 cases v with
 |true=>exact a2 rfl
 |false=>
  unfold KC at hp;rw [a1]at hp;simp at hp
def AA5 (r r':List Ar) (c:Int) (text:ByteArray):Prop:=∀y∈r',y.Page.Kind=1->(∃z∈r,z.Page.Kind=1/\z.Page.Tx=y.Page.Tx/\z.Page.Text=y.Page.Text)\/(L text≠ []/\y.Page.Tx=c/\y.Page.Text=text)
theorem yX {d:AH} {r:List Ar} (h:La d r) {q:QR} {x:Dk} {text:ByteArray} (hx:AAQ d r q x text):Ee d [x] text=some ([],false)\/∃steps d' r',Ee d [x] text=some (steps,true)/\steps.length<=10/\GF d steps=some d'/\La d' r'/\
  (BW d'.Store,d'.Store.Next)=(DR (BW d.Store) d.Store.Next x).getD (BW d.Store,d.Store.Next)/\d.Store.Next<=d'.Store.Next/\d'.Store.Next<=d.Store.Next+1/\AA5 r r' x.Chunk text:=by
 obtain⟨x1,x2,xv,x3⟩:=hx;have v:=h.dev.st.nx
 have i:∀z∈ [x],HV z=true:=fun z hz=>by rw [AA]at hz;rw [hz];exact x1
 rcases RU h.dev.fl h.dev.seqs [x] (by simp) (by simp) i text with w|⟨steps,T,g,last,w1,w2,w3,w4,w5,w6,w7,w8,w9⟩
 ·exact .inl w
 ·right;have b:last=x:=by simpa using w1.symm
  subst b;have j:=(FG w7).2;have o:(Dg (MU d text) d.Tx T).length=T.length:=by unfold Dg;rw [L6]
  have h0:(E9 d last.Chunk text).length<=1:=by unfold E9;split<;>simp
  rw [Ai,o]at j
  have s:L text≠ []->¬FB (BW d.Store) last.Chunk:=fun ht t=>by
   rcases x3 with⟨x3,_⟩|⟨_,x4,_⟩
   ·exact ht x3
   ·have:=dB h.dev.st t;omega
  obtain⟨m,d',r',c1,c2,c3,c4,c5,cP,c6,c7,_,c9⟩:=Y3 h i w3 w4 w5 w6 w7 w9 s steps.length (AB _);rw [Bg]at c1;obtain⟨⟨qn,hq⟩,c10⟩:=c9 rfl;have hB:¬jN (Tx.mk d.Tx qn [last])=true:=by
   unfold jN;simpa using x2
  have a:=c4.ab;rw [hq,P7,A5 hB,Wa,<-h.dev.ab]at a;have u:CE (BW d.Store) d.Store.Next [last]=DR (BW d.Store) d.Store.Next last:=by
   rw [Fe];cases DR (BW d.Store) d.Store.Next last<;>rfl
  simp only [u]at a;have k:=Jk h.dev c1 (by omega) c3
  have l:AA5 r r' last.Chunk text:=fun y hy hk=>by
   rcases cP y hy with hh|hh
   ·exact .inl ⟨y,hh,hk,rfl,rfl⟩
   ·rcases Al.1 hh with hh|hh
    ·unfold E9 at hh;by_cases e:L text=[]
     ·rw [Az e]at hh;cases hh
     ·rw [A5 e,AA]at hh;exact .inr ⟨e,by rw [hh],by rw [hh]⟩
    ·have:=Tg hh;omega
  cases f:DR (BW d.Store) d.Store.Next last with
  |none=>
   rw [f]at a;have e1:BW d'.Store=BW d.Store:=Dn Prod.fst a;have e2:d'.Store.Next=d.Store.Next:=Dn Prod.snd a;exact⟨steps,d',r',w2,by omega,k,⟨c4,c6,by rw [e1];exact c7⟩,by rw [e1,e2];rfl,by omega,by omega,l⟩
  |some p=>
   obtain⟨l',nx'⟩:=p;rw [f]at a;have e1:BW d'.Store=l':=Dn Prod.fst a;have e2:d'.Store.Next=nx':=Dn Prod.snd a;obtain⟨v1,v2,v3⟩:=kG f x2
   have hz:∀c,FB l' c->c=last.Chunk->last.Kind≠4->False:=fun c hc h1 hk=>by
    have:last.Chunk=0:=by
     have hb:=x1;unfold HV at hb;rw [show(last.Kind==1)=false by simpa using x2,show(last.Kind==4)=false by simpa using hk]at hb;simp at hb;omega
    have:=hc.1;omega
   have n:last.Chunk<=d.Store.Next:=by
    by_cases hk:last.Kind=4
    ·rcases x3 with⟨_,x4⟩|⟨_,x4,_⟩
     ·have:=dB h.dev.st (x4 hk).1;omega
     ·omega
    ·have hb:=x1;unfold HV at hb;rw [show(last.Kind==1)=false by simpa using x2,show(last.Kind==4)=false by simpa using hk]at hb;simp at hb;omega
   refine⟨steps,d',r',w2,by omega,k,⟨c4,c6,?_⟩,by rw [e1,e2];rfl,by omega,by omega,l⟩;rw [e1]
   rcases x3 with⟨x3,x4⟩|⟨x3,x4,x5,x6,x7⟩
   ·refine c7.mono fun c hc=>?_
    rcases v1 c hc with hh|hh
    ·exact hh
    ·by_cases hk:last.Kind=4
     ·rw [hh];exact(x4 hk).1
     ·exact absurd trivial (fun _=>hz c hc hh hk)
   ·exact(c10 _ x6 x5 x7).mono v1
def yS (r r':List Ar) (nx:Int) (text:ByteArray):Prop:=∀y∈r',y.Page.Kind=1->(∃z∈r,z.Page.Kind=1/\z.Page.Tx=y.Page.Tx/\z.Page.Text=y.Page.Text)\/(y.Page.Tx=nx/\Sb y.Page.Text=some text)
def ABJ (d d':AH) (v:Int):Prop:=∀p∈BW d'.Store,(∃p'∈BW d.Store,p'.1=p.1)\/p.1=v
theorem IX.q {r r':List Ar} (h:IX r r') (nx:Int) (t:ByteArray):yS r r' nx t:=fun y hy hk=> .inl (h y hy hk)
theorem KK {d d':AH} (h:BW d'.Store=BW d.Store) (v:Int):ABJ d d' v:=fun p hp=> .inl ⟨p,by rw [<-h];exact hp,rfl⟩
theorem AAD {d:AH} {r:List Ar} (h:La d r) (q:QR):∃d' steps t no r',Rl d q=some (d',steps,t,no)/\La d' r'/\d.Store.Next<=d'.Store.Next/\d'.Store.Next<=d.Store.Next+1/\yS r r' d.Store.Next q.Text/\ABJ d d' q.Vol:=by
 unfold Rl;rw [SP h.dev,cE h.dev];simp only [Aa,As,Ae];obtain⟨recs,text,no,p1,p2,p3⟩:=lA h.dev q;rw [p1];simp only [Aa]
 cases b:(no !=0)with
 |true=>exact⟨_,_,_,_,r,rfl,h,by omega,by omega,(IX.refl r).q _ _,KK rfl _⟩
 |false=>
  have f:no=0:=by simpa using b
  subst f;have hq:=pI h.dev p1;simp only [Ae]
  cases o:(q.Kind==6)with
  |true=>
   simp only [Ag];obtain⟨k,hk⟩:∃k:Nat,q.Sector=(k:Int):=⟨_,(B5 hq.sec.1).symm⟩;unfold Rm;rw [h.dev.scan.s,hk];simp only [Aa]
   rcases OT h q.Vol (k:=k) (by have:=hq.sec;omega)with⟨_,e⟩|⟨row,c,_,_,_,⟨_,e⟩|⟨_,_,u,_,e⟩⟩
   ·rw [e];exact⟨_,_,_,_,r,rfl,h,by omega,by omega,(IX.refl r).q _ _,KK rfl _⟩
   ·rw [e];exact⟨_,_,_,_,r,rfl,h,by omega,by omega,(IX.refl r).q _ _,KK rfl _⟩
   ·rw [e];exact⟨_,_,_,_,r,rfl,h,by omega,by omega,(IX.refl r).q _ _,KK rfl _⟩
  |false=>
   simp only [Ae];obtain⟨v5,g⟩:=SE h.dev.fl;rw [g];simp only [Aa];have clean:∃e all re,(bif(decide (v5<12))then((JS d 20).bind fun v6=>some (v6.2,v6.1.Flash.Blocks,v6.1.Store.Vols,v6.1.Store.Arena.Knots,v6.1.Store.Next,v6.1.Seq,v6.1.Tx,v6.1.Base))else(some ([],d.Flash.Blocks,d.Store.Vols,d.Store.Arena.Knots,d.Store.Next,d.Seq,d.Tx,d.Base)):Option (List BI×List Block×List Vol×List BU×Int×Int×Int×Int))=some (all,Flash.Blocks (AH.Flash e),e.Store.Vols,e.Store.Arena.Knots,e.Store.Next,e.Seq,e.Tx,e.Base)/\La e re/\tW d e/\all.length<=4000/\IX r re:=by
    cases decide (v5<12)with
    |false=>exact⟨d,[],r,rfl,h,⟨rfl,rfl⟩,by simp,IX.refl r⟩
    |true=>
     obtain⟨e,all,re,k1,k2,k3,k4,k5⟩:=pQ h 20;simp only [Ag];rw [k1];exact⟨e,all,re,rfl,k2,k3,k4,k5⟩
   obtain⟨e,all,re,k1,k2,k3,k4,k5⟩:=clean;rw [k1];simp only [Aa];have i:AH.mk (Flash.mk e.Flash.Blocks) (Store.mk e.Store.Vols (Arena.mk e.Store.Arena.Knots) e.Store.Next) e.Seq e.Tx e.Base=e:=rfl;have j:Flash.mk e.Flash.Blocks=e.Flash:=rfl;rw [i,j];obtain⟨recs2,text2,no2,s1,s2,_⟩:=lA k2.dev q;rw [s1];simp only [Aa];obtain⟨v9,l⟩:=SE k2.dev.fl;rw [l];have m:=k3.nx
   rcases s2 with⟨rfl,rfl⟩|⟨_,x,rfl,s2⟩
   ·have hw:Ee e [] (bs [])=some ([],true):=rfl;rw [hw];simp only [Aa,As,Ae]
    cases decide (v9<8)with
    |true=>exact⟨_,_,_,_,re,rfl,k2,by omega,by omega,k5.q _ _,KK k3.ab _⟩
    |false=>
     simp only [Ae];obtain⟨d',u1,u2,u3⟩:=N6 k2.dev.fl k2.dev.sr;obtain⟨e1,e2,_⟩:=NN k2.dev u2 rfl;rw [Jk k2.dev (steps:=[]) rfl (by simp) u1];simp only [Aa];rw [CO (by simp;omega)];exact⟨_,_,_,_,re,rfl,⟨u2,k2.core,by rw [e1];exact k2.data⟩,by omega,by omega,k5.q _ _,KK (by rw [e1,k3.ab]) _⟩
   ·rcases yX k2 s2 with w|⟨steps,d',r',w1,w2,w3,w4,w7,w5,w6,w8⟩
    ·rw [w];exact⟨_,_,_,_,re,rfl,k2,by omega,by omega,k5.q _ _,KK k3.ab _⟩
    ·rw [w1];simp only [Aa,As,Ae]
     cases decide (v9<8)with
     |true=>exact⟨_,_,_,_,re,rfl,k2,by omega,by omega,k5.q _ _,KK k3.ab _⟩
     |false=>
      simp only [Ae];rw [w3];simp only [Aa];rw [CO (by omega)];refine⟨_,_,_,_,r',rfl,w4,by omega,by omega,fun y hy hk=>?_,fun p hp=>?_⟩
      ·rcases w8 y hy hk with⟨z,z1,z2,z3,z4⟩|⟨t1,t2,t3⟩
       ·obtain⟨w,a1,a2,a3,a4⟩:=k5 z z1 z2;exact .inl ⟨w,a1,a2,by rw [a3,z3],by rw [a4,z4]⟩
       ·obtain⟨_,_,_,s3⟩:=s2
        rcases s3 with⟨s3,_⟩|⟨_,s4,_,s5,_⟩
        ·exact absurd s3 t1
        ·exact .inr ⟨by rw [t2,s4,m],by rw [t3,s5]⟩
      ·have e1:=Dn Prod.fst w7;simp only at e1;rw [e1]at hp
       cases a:DR (BW e.Store) e.Store.Next x with
       |none=>
        rw [a]at hp;exact .inl ⟨p,by rw [<-k3.ab];exact hp,rfl⟩
       |some lp=>
        rw [a]at hp;obtain⟨l',nx'⟩:=lp;have n:p∈l':=hp
        rcases o5 a s2.2.1 p n with⟨p',q1,q2⟩|hh
        ·exact .inl ⟨p',by rw [<-k3.ab];exact q1,q2⟩
        ·exact .inr (by rw [hh,s2.2.2.1])
end Go.TI
namespace Go.TI
open Go
structure KP (c:BE):Prop where
 i0:0<=c.i_
 i1:c.i_<=(c.b_.length:Int)
 len:c.b_.length<=1048576
theorem yF (a:Int):0<=ban .i64 a 255/\ban .i64 a 255<=255:=by
 unfold ban;have h:(BitVec.ofInt IntKind.i64.bits a&&&BitVec.ofInt IntKind.i64.bits 255).toNat<=255:=by
  rw [BitVec.toNat_and];refine Kl Nat.and_le_right ?_;exact Nat.le_of_eq rfl
 rw [Ng (by omega) (by omega)];omega
theorem WK {c:BE} (h:KP c):∃v c',HL c=some (v,c')/\KP c'/\0<=v/\v<=255:=by
 have:=h.i0;have:=h.i1;have:=h.len;unfold HL;by_cases e:c.i_<ln c.b_
 ·rw [Ad e,Ag,OA h.i0 (by rw [Cu]at e;exact e)];rw [Cu]at e;simp only [Aa];rw [C6 (a:=c.i_) (by omega) (by omega)];exact⟨_,_,rfl,⟨by show 0<=c.i_+1;omega,by show c.i_+1<=(c.b_.length:Int);omega,h.len⟩,yF _⟩
 ·rw [Af e,Ae];exact⟨_,_,rfl,⟨h.i0,h.i1,h.len⟩,yF _⟩
theorem ABY {a n:Int} (h0:0<=a) (hn:0<n):∃v,rm .i64 a n=some v/\0<=v/\v<n:=by
 unfold rm;rw [A5 (by omega),J4 h0];exact⟨_,rfl,Int.emod_nonneg _ (by omega),Int.emod_lt_of_pos _ hn⟩
theorem PW {c:BE} (h:KP c) (n:Int):∃v c',Dm c n=some (v,c')/\KP c'/\0<=v/\(0<n->v<n):=by
 unfold Dm;by_cases h0:n<=0
 ·rw [Ad h0];exact⟨_,_,rfl,h,by omega,fun hh=>by omega⟩
 ·rw [Af h0,Ae];by_cases h1:n<=256
  ·rw [Ad h1,Ag];obtain⟨v,c',k1,k2,k3,k4⟩:=WK h;rw [k1];obtain⟨w,w1,w2,w3⟩:=ABY (n:=n) k3 (by omega);simp only [Aa];rw [w1];exact⟨_,_,rfl,k2,w2,fun _=>w3⟩
  ·rw [Af h1,Ae];obtain⟨v1,c1,a1,a2,a3,a4⟩:=WK h;obtain⟨v2,c2,b1,b2,b3,b4⟩:=WK a2;obtain⟨v3,c3,d1,d2,d3,d4⟩:=WK b2;obtain⟨v4,c4,e1,e2,e3,e4⟩:=WK d2;rw [a1];simp only [Aa];rw [b1];simp only [Aa];rw [d1];simp only [Aa];rw [e1];simp only [Aa];rw [Nq (by omega) (by omega),Nq (by omega) (by omega),Nq (by omega) (by omega),C6 (a:=v1*16777216) (b:=v2*65536) (by omega) (by omega),C6 (a:=v1*16777216+v2*65536) (b:=v3*256) (by omega) (by omega),C6 (a:=v1*16777216+v2*65536+v3*256) (b:=v4) (by omega) (by omega)];obtain⟨w,w1,w2,w3⟩:=ABY (a:=v1*16777216+v2*65536+v3*256+v4) (n:=n) (by omega) (by omega);rw [w1];exact⟨_,_,rfl,e2,w2,fun _=>w3⟩
theorem LK {c:BE} (h:KP c) {n:Nat} (hn:0<n):∃(v:Nat) (c':BE),Dm c (n:Int)=some ((v:Int),c')/\KP c'/\v<n:=by
 obtain⟨v,c',k1,k2,k3,k4⟩:=PW h (n:Int);have:=k4 (by omega);exact⟨v.toNat,c',by rw [B5 k3];exact k1,k2,by omega⟩
theorem tZ {c:BE} (h:KP c) {l:List Int} (hl:0<l.length):∃v c',Jj c l=some (v,c')/\KP c'/\v∈l:=by
 unfold Jj;obtain⟨v,c',k1,k2,k3⟩:=LK h hl;rw [Cu,k1];simp only [Aa];rw [AN,Ac k3];exact⟨_,_,rfl,k2,AP k3⟩
theorem ABB {c:BE} (h:KP c) {l:List ByteArray} (hl:0<l.length):∃v c',L9 c l=some (v,c')/\KP c'/\v∈l:=by
 unfold L9;obtain⟨v,c',k1,k2,k3⟩:=LK h hl;rw [Cu,k1];simp only [Aa];rw [AN,Ac k3];exact⟨_,_,rfl,k2,AP k3⟩
theorem yP {c:BE} (h:KP c) (n:Int):∃v c',HK c n=some (v,c')/\KP c':=by
 unfold HK;obtain⟨v,c',k1,k2,_⟩:=PW h n;rw [k1];exact⟨_,_,rfl,k2⟩
theorem MO {c:BE} (h:KP c):KP (BE.mk c.b_ c.i_ c.h_):=h
theorem ACi {code:List Int} (h:code.length<=1048576):∃c,OX code=some c/\KP c:=by
 unfold OX;obtain⟨b,h1,_⟩:=Bw (body:=fun s:Int×Int=>Hy code s.1 s.2) (fun(o:Int) i=>(o,i)) code.length (fun _ _=>True) (fun _=>True)
  (fun o i hi _=>by
   have hx:=Ac hi;simp only [Hy,Bb,Ad hi,Ag,Aa,AN,hx];rw [ad1 (i:=i) (by omega)]
   cases decide ((i:Int)<4000)with
   |true=>exact .inl ⟨_,rfl,trivial⟩
   |false=>exact .inr ⟨_,rfl,trivial⟩)
  (fun o _=>⟨o,by simp only [Hy,Bb,A3,A8,Ae,Aa],trivial⟩) (s:=ad 36501 (ln code)) trivial
 have h1':A0 (fun s:Int×Int=>Hy code s.1 s.2) (ad 36501 (ln code),0)=some b:=h1;rw [h1'];exact⟨_,rfl,⟨Il _,by show(0:Int)<=_;omega,h⟩⟩
end Go.TI
namespace Go.TI
open Go
def zD:List ByteArray:=[(bs []),(bs [97]),(bs [98,98]),(bs [97,98,99,100,97,98,99,100,97,98,99,100]),(bs [104,101,108,108,111]),(bs [104,101,108,108,111,32,104,101,108,108,111,32,104,101,108,108,111]),(bs [122,122,122,122,122,122,122,122,122,122,122,122]),(bs [113,49]),(bs [113,50]),(bs [113,51])]
theorem ABv {c:BE} (h:KP c):∃v c',Ni c=some (v,c')/\KP c'/\v∈zD:=by
 unfold Ni;obtain⟨v,c',k1,k2,k3⟩:=ABB h (l:=zD) (by simp [zD]);have e:L9 c zD=some (v,c'):=k1;unfold zD at e;rw [e];exact⟨_,_,rfl,k2,k3⟩
structure AAE (q:QR):Prop where
 kind:1<=q.Kind/\q.Kind<=6
 vol:1<=q.Vol/\q.Vol<=3
 rest:(q.Kind=1/\q.Text∈zD/\(0<=q.Sector/\q.Sector<=15)/\q.Of=0)\/(q.Kind≠1/\L q.Text=[]/\(((q.Kind=2\/q.Kind=6)/\(0<=q.Sector/\q.Sector<=15)/\q.Of=0)\/(q.Sector=0/\((q.Kind=4/\1<=q.Of/\q.Of<=9)\/((q.Kind=3\/q.Kind=5)/\q.Of=0)))))
theorem ABD {c:BE} (h:KP c) (d:AH) (hv:d.Store.Vols.length<=3) (j:∀v∈d.Store.Vols,1<=v.Id/\v.Id<=3):∃q c',Nj c d=some (q,c')/\KP c'/\AAE q:=by
  unfold Nj;obtain⟨k,c1,a1,a2,a3⟩:=tZ h (l:=[1,1,1,1,1,1,2,3,4,5,6]) (by simp);rw [a1];simp only [Aa];obtain⟨v2,c2,b1,b2,b3,b4⟩:=PW a2 3;have m:1<=k/\k<=6:=by simp at a3;omega
  have s:ad 1 v2=1+v2:=C6 (by omega) (by omega);have u:=b4 (by omega);rw [b1];simp only [Aa]
  have J1:∃x y c3,(bif((ln d.Store.Vols)==0)then(some (3,(ad 1 v2),c2.b_,c2.i_,c2.h_))
 else((bif(k !=3)then(bif(k !=4)then((HK c2 8).bind fun v3=>
 some ((!v3.1),v3.2.b_,v3.2.i_,v3.2.h_))
 else(some (false,c2.b_,c2.i_,c2.h_)))
 else(some (false,c2.b_,c2.i_,c2.h_)):Option (Bool×List Int×Int×Int)).bind fun j2=>
 bif j2.1 then((Dm (BE.mk j2.2.1 j2.2.2.1 j2.2.2.2) (ln d.Store.Vols)).bind fun v4=>
 (gi d.Store.Vols v4.1).bind fun x1=>
 some (k,x1.Id,v4.2.b_,v4.2.i_,v4.2.h_))
 else(some (k,(ad 1 v2),j2.2.1,j2.2.2.1,j2.2.2.2))):Option (Int×Int×List Int×Int×Int))=some (x,y,BE.b_ c3,c3.i_,c3.h_)/\KP c3/\(1<=x/\x<=6)/\1<=y/\y<=3:=by
   cases hz:(ln d.Store.Vols==0)with
   |true=>exact⟨_,_,c2,rfl,b2,by omega,by omega,by omega⟩
   |false=>
    simp only [Ae];have n:0<d.Store.Vols.length:=by
     rw [Di,Cu]at hz;omega
    have J2:∃b c3,(bif(k !=3)then(bif(k !=4)then((HK c2 8).bind fun v3=>some ((!v3.1),v3.2.b_,v3.2.i_,v3.2.h_))else(some (false,c2.b_,c2.i_,c2.h_)))else(some (false,c2.b_,c2.i_,c2.h_)):Option (Bool×List Int×Int×Int))=some (b,BE.b_ c3,c3.i_,c3.h_)/\KP c3:=by
     cases(k !=3)with
     |false=>exact⟨_,c2,rfl,b2⟩
     |true=>
      cases(k !=4)with
      |false=>exact⟨_,c2,rfl,b2⟩
      |true=>
       obtain⟨v3,c3,d1,d2⟩:=yP b2 8;simp only [Ag];rw [d1];exact⟨_,c3,rfl,d2⟩
    obtain⟨b,c3,e1,e2⟩:=J2;rw [e1];simp only [Aa]
    cases b with
    |false=>exact⟨_,_,c3,rfl,e2,m,by omega,by omega⟩
    |true=>
     simp only [Ag];obtain⟨v4,c4,f1,f2,f3⟩:=LK (MO e2) n;rw [Cu,f1];simp only [Aa];rw [AN,Ac f3];exact⟨_,_,c4,rfl,f2,m,j _ (AP f3)⟩
  obtain⟨x,y,c3,j1,j1c,jx,jy⟩:=J1;rw [j1];simp only [Aa];have J3:∃b c4,(bif(x==5)then((HK (BE.mk c3.b_ c3.i_ c3.h_) 3).bind fun v8=>some ((!v8.1),v8.2.b_,v8.2.i_,v8.2.h_))else(some (false,c3.b_,c3.i_,c3.h_)):Option (Bool×List Int×Int×Int))=some (b,BE.b_ c4,c4.i_,c4.h_)/\KP c4:=by
   cases(x==5)with
   |false=>exact⟨_,c3,rfl,j1c⟩
   |true=>
    obtain⟨v8,c4,d1,d2⟩:=yP (MO j1c) 3;simp only [Ag];rw [d1];exact⟨_,c4,rfl,d2⟩
  obtain⟨b,c4,j3,j3c⟩:=J3;rw [j3];simp only [Aa,W9];have a:1<=(bif b then(1:Int)else x)/\(bif b then(1:Int)else x)<=6:=by cases b<;>simp<;>omega
  generalize (bif b then(1:Int)else x)=j4 at a
  cases o:(j4==1)with
  |true=>
   simp only [Ag];obtain⟨t,c5,t1,t2,t3⟩:=ABv (MO j3c);rw [t1];simp only [Aa];obtain⟨v10,c6,u1,u2,u3,u4⟩:=PW t2 16;rw [u1];have:=u4 (by omega);have hj:=CV.1 o;exact⟨_,_,rfl,u2,⟨a,jy,.inl ⟨hj,t3,by show 0<=v10/\v10<=15;omega,rfl⟩⟩⟩
  |false=>
   simp only [Ae];have e:j4≠1:=by simpa using o
   have p:(bif(j4==2)then(j4==2)else(j4==6))=decide (j4=2\/j4=6):=by
    by_cases e2:j4=2
    ·rw [e2];rfl
    ·rw [show(j4==2)=false by simpa using e2,Ae];by_cases e6:j4=6
     ·rw [e6];rfl
     ·rw [show(j4==6)=false by simpa using e6,Af (by omega)]
   rw [p];by_cases g:j4=2\/j4=6
   ·rw [Ad g];simp only [Ag];obtain⟨v11,c6,u1,u2,u3,u4⟩:=PW (MO j3c) 16;rw [u1];have:=u4 (by omega);exact⟨_,_,rfl,u2,⟨a,jy,.inr ⟨e,Eh _,.inl ⟨g,by show 0<=v11/\v11<=15;omega,rfl⟩⟩⟩⟩
   ·rw [Af g];simp only [Ae]
    cases f:(j4==4)with
    |true=>
     simp only [Ag];obtain⟨v12,c6,u1,u2,u3,u4⟩:=PW (MO j3c) 3;have h44:=CV.1 f;have:=u4 (by omega);rw [u1];simp only [Aa]
     cases r:d.Store.Vols with
     |nil=>
      rw [show decide (ln ([]:List Vol)>0)=false from rfl];exact⟨_,_,rfl,u2,⟨a,jy,.inr ⟨e,Eh _,.inr ⟨rfl,.inl ⟨h44,by show 1<=ad 1 v12/\ad 1 v12<=9;rw [C6 (by omega) (by omega)];omega⟩⟩⟩⟩⟩
     |cons v vs=>
      rw [Ad (by rw [Cu,Ax];omega:ln (v::vs)>0),show gi (v::vs) 0=some v from AN (i:=0)];have:=j v (by rw [r];simp);exact⟨_,_,rfl,u2,⟨a,jy,.inr ⟨e,Eh _,.inr ⟨rfl,.inl ⟨h44,by show 1<=v.Id/\v.Id<=9;omega⟩⟩⟩⟩⟩
    |false=>
     have h44:j4≠4:=by simpa using f
     exact⟨_,_,rfl,MO j3c,⟨a,jy,.inr ⟨e,Eh _,.inr ⟨rfl,.inr ⟨by show j4=3\/j4=5;omega,rfl⟩⟩⟩⟩⟩
end Go.TI
namespace Go.TI
open Go
theorem yC {n:Nat} (h:3<=n/\n<=10):Cf (Flash.mk (List.replicate n (Block.mk false 0 Oy))):=by
 refine⟨by simpa using h,fun b hb=>?_⟩;rw [DO hb];exact kQ ⟨by omega,by omega⟩
theorem bY {n:Nat} (h:3<=n/\n<=10):LZ (n:Int)=some (Flash.mk (List.replicate n (Block.mk false 0 Oy)),true):=by
 unfold LZ;rw [Ek,Ad (by omega)];simp only [Aa,As,Ae];have q:=oD (body:=fun s:Int×List Block=>GW (n:Int) s.1 s.2) n (fun _=>Block.mk false 0 Oy)
  (fun i out hi ho=>by
   simp only [GW];rw [Ad (by omega:(i:Int)<(n:Int)),Ag,Zb];simp only [Aa];rw [CO (by simp;omega)];simp only [Aa]
   rw [ad1 (by omega)])
  (fun out=>by simp only [GW];rw [Af (by omega),Ae])
 rw [q];simp only [Aa];rw [Lp,Ch]
theorem YU:∀(n:Nat) (i:Int),L0 i (List.replicate n (Block.mk false 0 Oy))=[]
 |0,i=>rfl
 |n+1,i=>by
  rw [Es,L0,YU n (i+1),VU i 0 _ (fun y hy=>by rw [DO hy];simp)];rfl
theorem lG {n:Nat} (h:3<=n/\n<=10):∃d,KE (n:Int)=some (d,true)/\La d []/\BW d.Store=[]/\d.Store.Next=1/\d.Flash=Flash.mk (List.replicate n (Block.mk false 0 Oy)):=by
 have hP:=yC h;have b:SR (L0 0 (Flash.mk (List.replicate n (Block.mk false 0 Oy))).Blocks) []:=by
  rw [YU];exact⟨List.Pairwise.nil,fun _=>rfl⟩
 obtain⟨d,u1,u2,u3⟩:=N6 hP b;have a:=u2.ab;have:JW (DQ (B4 []))=([],1):=rfl;rw [this]at a
 injection a with e1 e2
 refine⟨d,?_,⟨u2,⟨⟨by simp,by simp,by simp,by simp,by simp,by simp⟩,List.Pairwise.nil,⟨fun y hy=>by cases hy⟩⟩,?_⟩,e1,e2,u3⟩
 ·unfold KE;rw [bY h];simp only [Aa,As,Ae];rw [u1];rfl
 ·rw [e1];refine⟨fun c hc=>?_,fun c c' hc=>?_⟩
  ·obtain⟨_,p,hp,_⟩:=hc;cases hp
  ·obtain⟨_,p,hp,_⟩:=hc;cases hp
end Go.TI
namespace Go.TI
open Go
structure Ext (d:AH) (r:List Ar):Prop where
 ids:∀p∈BW d.Store,1<=p.1/\p.1<=3
 pg:∀y∈r,y.Page.Kind=1->y.Page.Tx<=13/\∃s∈zD,Sb y.Page.Text=some s
theorem AAE.text {q:QR} (h:AAE q):q.Text∈zD:=by
 rcases h.rest with⟨_,h2,_⟩|⟨_,h2,_⟩
 ·exact h2
 ·rw [show q.Text=bs []from If (by rw [h2,Eh])];simp [zD]
theorem Ext.step {d d':AH} {r r':List Ar} {q:QR} (h:Ext d r) (hq:AAE q) (hn:d.Store.Next<=13) (hf:yS r r' d.Store.Next q.Text) (hi:ABJ d d' q.Vol):Ext d' r':=by
 refine⟨fun p hp=>?_,fun y hy hk=>?_⟩
 ·rcases hi p hp with⟨p',h1,h2⟩|h1
  ·rw [<-h2];exact h.ids p' h1
  ·rw [h1];exact hq.vol
 ·rcases hf y hy hk with⟨z,z1,z2,z3,z4⟩|⟨h1,h2⟩
  ·have:=h.pg z z1 z2;rw [z3,z4]at this;exact this
  ·exact⟨by omega,_,hq.text,h2⟩
theorem jJ {c:BE} (h:KP c):∃d c' r,K2 c=some (d,c')/\KP c'/\La d r/\d.Store.Next<=13/\Ext d r:=by
 unfold K2;obtain⟨v,c1,a1,a2,a3⟩:=LK h (n:=4) (by omega);rw [show((4:Nat):Int)=4 from rfl]at a1;rw [a1];simp only [Aa];rw [C6 (by omega) (by omega),show(5:Int)+(v:Int)=((5+v:Nat):Int) by omega];obtain⟨d0,b1,b2,b3,b4,_⟩:=lG (n:=5+v) (by omega);rw [b1];simp only [Aa];obtain⟨res,h1,d,cc,r,h2,h3,h4,h5,h6⟩:=Bw (body:=fun s:Int×List Block×List Vol×List BU×Int×Int×Int×Int×List Int×Int×Int=>ES s.1 s.2.1 s.2.2.1 s.2.2.2.1 s.2.2.2.2.1 s.2.2.2.2.2.1 s.2.2.2.2.2.2.1 s.2.2.2.2.2.2.2.1 s.2.2.2.2.2.2.2.2.1 s.2.2.2.2.2.2.2.2.2.1 s.2.2.2.2.2.2.2.2.2.2)
  (fun(o:AH×BE) i=>(i,o.1.Flash.Blocks,o.1.Store.Vols,o.1.Store.Arena.Knots,o.1.Store.Next,o.1.Seq,o.1.Tx,o.1.Base,o.2.b_,o.2.i_,o.2.h_)) 12
  (fun i o=>KP o.2/\(∃r,La o.1 r/\Ext o.1 r)/\o.1.Store.Next<=1+i)
  (fun res=>∃d cc r,res=(d.Flash.Blocks,d.Store.Vols,d.Store.Arena.Knots,d.Store.Next,d.Seq,d.Tx,d.Base,BE.b_ cc,cc.i_,cc.h_)/\KP cc/\La d r/\d.Store.Next<=13/\Ext d r)
  (fun o i hi hs=>by
   obtain⟨e,cu⟩:=o;obtain⟨k1,⟨r,k2,kx⟩,k3⟩:=hs;simp only at k1 k2 k3 kx;have b:AH.mk (Flash.mk e.Flash.Blocks) (Store.mk e.Store.Vols (Arena.mk e.Store.Arena.Knots) e.Store.Next) e.Seq e.Tx e.Base=e:=rfl;simp only [ES];rw [b];obtain⟨w,c3,w1,w2,w3⟩:=LK (MO k1) (n:=12) (by omega);rw [show((12:Nat):Int)=12 from rfl]at w1;rw [w1];simp only [Aa];by_cases a:(i:Int)<(w:Int)
   ·rw [Ad a,Ag];obtain⟨q,c4,q1,q2,q3⟩:=ABD w2 e k2.dev.st.len (fun v hv=>kx.ids (v.Id,EN e.Store.Arena.Knots v.Root) (AR.2 ⟨v,hv,rfl⟩));rw [q1];simp only [Aa];obtain⟨d',steps,t,no,r',s1,s2,s3,s4,s5,s6⟩:=AAD k2 q;rw [s1];simp only [Aa];rw [ad1 (by omega)];exact .inl ⟨(d',c4),rfl,q2,⟨r',s2,kx.step q3 (by omega) s5 s6⟩,by show d'.Store.Next<=_;omega⟩
   ·rw [Af a,Ae]
    exact .inr ⟨_,rfl,e,c3,r,rfl,w2,k2,by omega,kx⟩)
  (fun o hs=>by
   obtain⟨e,cu⟩:=o;obtain⟨k1,⟨r,k2,kx⟩,k3⟩:=hs;simp only at k1 k2 k3 kx;simp only [ES];obtain⟨w,c3,w1,w2,w3⟩:=LK (MO k1) (n:=12) (by omega);rw [show((12:Nat):Int)=12 from rfl]at w1;rw [show((12:Nat):Int)=12 from rfl,w1];simp only [Aa];rw [Af (by omega:¬(12:Int)<(w:Int)),Ae]
   exact⟨_,rfl,e,c3,r,rfl,w2,k2,by omega,kx⟩) (s:=(d0,c1)) ⟨a2,⟨[],b2,⟨fun p hp=>(by rw [b3]at hp;cases hp),fun y hy=>(by cases hy)⟩⟩,by show d0.Store.Next<=_;omega⟩
 have h1':A0 (fun s:Int×List Block×List Vol×List BU×Int×Int×Int×Int×List Int×Int×Int=>ES s.1 s.2.1 s.2.2.1 s.2.2.2.1 s.2.2.2.2.1 s.2.2.2.2.2.1 s.2.2.2.2.2.2.1 s.2.2.2.2.2.2.2.1 s.2.2.2.2.2.2.2.2.1 s.2.2.2.2.2.2.2.2.2.1 s.2.2.2.2.2.2.2.2.2.2) (0,d0.Flash.Blocks,d0.Store.Vols,d0.Store.Arena.Knots,d0.Store.Next,d0.Seq,d0.Tx,d0.Base,c1.b_,c1.i_,c1.h_)=some res:=h1;rw [h1',h2];exact⟨d,cc,r,rfl,h3,h4,h5,h6⟩
theorem fK {code:List Int} (h:code.length<=1048576):∃d r,Jn code=some d/\La d r/\d.Store.Next<=13/\Ext d r:=by
 unfold Jn;obtain⟨c,c1,c2⟩:=ACi h;obtain⟨d,c',r,d1,d2,d3,d4⟩:=jJ c2;rw [c1];simp only [Aa];rw [d1];exact⟨d,r,rfl,d3,d4⟩
end Go.TI
namespace Go.TI
open Go
theorem tY (d:AH) {r:List Ar} (h:yM d.Flash r) (hs:Z0 d.Store<=1048576) (id:Int) (k:Nat) (hk:k<16):∃u ok,GT r d.Store id (k:Int)=some (u,ok)/\KL d id (k:Int)=some (u,ok):=by
 unfold Z0 lM at hs;have hl:=AA6 (z:=pU) (l:=d.Store.Arena.Knots);have ha:Yv d.Store.Arena:=by unfold Yv;omega
 unfold GT KL;obtain⟨v,h1,h2,h3⟩:=fR d.Store id (by omega);rw [h1,h2];simp only [Aa]
 cases decide (v<0)with
 |true=>exact⟨_,_,rfl,rfl⟩
 |false=>
  simp only [Ae];obtain⟨c,c1,c2⟩:=pR d.Store (by omega) ha id k hk;rw [c1,c2];simp only [Aa]
  cases c==0 with
  |true=>exact⟨_,_,rfl,rfl⟩
  |false=>
   simp only [Ae];obtain⟨u,ok,t1,t2⟩:=fM h c;rw [t1,t2];exact⟨_,_,rfl,rfl⟩
theorem uG {s:Store} (h:DS s):Z0 s<=1048576:=by
 have h1:=h.len;have h2:=h.small;have key:∀l:List BU,(∀k∈l,k.Kids.length=4)->(l.map pU).sum=4*l.length:=by
  intro l
  induction l with
  |nil=>intro _;rfl
  |cons k l ih=>
   intro hl;rw [BT,KZ,ih (fun x hx=>hl x (by simp [hx])),Ax];have:=hl k (by simp);unfold pU;omega
 have:=key s.Arena.Knots (fun k hk=>by
  obtain⟨i,hi,rfl⟩:=AK hk;have:=(GO.1 h.ar i hi).1;rw [Ns hi]at this
  exact this)
 unfold Z0 lM zl;omega
theorem Wn {d:AH} {r:List Ar} (h:La d r) (vol:Int) {k:Nat} (hk:k<16):KL d vol (k:Int)=GT r d.Store vol (k:Int):=by
 obtain⟨u,ok,h1,h2⟩:=tY d h.dev.scan (uG h.dev.st) vol k hk;rw [h1,h2]
theorem Qg {d:AH} {r:List Ar} (h:Lb d r) (c:Int):∃u ok,KF d.Flash c=some (u,ok)/\Dx r c=(if ok=true then some u else none):=by
 obtain⟨u,ok,h1,h2⟩:=Vp h.pages c;unfold KF;rw [h.scan.s];simp only [Aa];rw [h1];exact⟨u,ok,rfl,h2⟩
theorem TT {code:List Int} (hs:code.length<=1048576):ID code=some true:=by
 obtain⟨d,r,d1,d2,_,d3⟩:=fK hs;have b:=d2.dev.st.len;unfold ID;have hb:Uz code=some false:=by
  unfold Uz;rw [Cu,Af (by omega)]
 rw [hb];simp only [Aa,Ae];rw [d1];simp only [Aa];obtain⟨res,h1,h2⟩:=Bw (body:=fun s:Int=>EQ d s) (fun(_:Unit) i=>i) d.Store.Vols.length (fun _ _=>True) (fun res=>res= .inl ())
  (fun _ i hi _=>by
   have hx:=Ac hi;have hg:=LH d2.dev.st.asc (AP hi);simp only [EQ,Bb,Ad hi,Ag];obtain⟨q,q1,q2⟩:=Bw (body:=fun s:Int=>EP d (i:Int) s) (fun(_:Unit) i=>i) 16 (fun _ _=>True) (fun q=>q= .inl ())
    (fun _ k hk _=>by
     simp only [EP];rw [Ad (by omega:(k:Int)<16),Ag,AN,hx];simp only [Aa];rw [Wn d2 _ hk,ad1 (by omega)]
     rcases OT d2 d.Store.Vols[i].Id hk with⟨e,_⟩|⟨row,c,_,_,e3,⟨e4,e5⟩|⟨e4,_,u,e6,e7⟩⟩
     ·rw [hg]at e;cases e
     ·obtain⟨w,ok,w1,_⟩:=Qg d2.dev c;rw [e5,e3];simp only [Aa];rw [w1,e4];have:seq (bs []) (bs [])=true:=by rw [Iy];simp
      simp only [Aa,As,Ae,this];exact .inl ⟨(),rfl,trivial⟩
     ·obtain⟨w,ok,w1,w2⟩:=Qg d2.dev c;rw [e6]at w2
      cases ok with
      |false=>cases w2
      |true=>
       rw [Az rfl]at w2
       injection w2 with w2
       rw [e7,e3];simp only [Aa];rw [w1,<-w2,show(c==0)=false by rw [Di];omega,Ad (by omega:c>0)];have:seq u u=true:=by rw [Iy];simp
       simp only [Aa,As,Ae,Ag,this]
       exact .inl ⟨(),by first|rfl|trivial,trivial⟩)
    (fun _ _=>⟨_,by simp only [EP];rw [Af (by omega:¬((16:Nat):Int)<16),Ae],rfl⟩) (s:=()) trivial
   have q1':A0 (fun s:Int=>EP d (i:Int) s) 0=some q:=q1;rw [q1',q2];simp only [Aa,Cl];rw [ad1 (by omega)]
   exact .inl ⟨(),rfl,trivial⟩)
  (fun _ _=>⟨_,by simp only [EQ,Bb,A3,A8,Ae],rfl⟩) (s:=()) trivial
 have h1':A0 (fun s:Int=>EQ d s) 0=some res:=h1;rw [h1',h2];simp only [Aa,Cl];have h8:KL d 8 0=some (bs [],false):=by
  rw [show(0:Int)=((0:Nat):Int)from rfl,Wn d2 8 (by omega)]
  rcases OT d2 8 (k:=0) (by omega)with⟨_,e⟩|⟨row,c,e,_⟩
  ·exact e
  ·exfalso;unfold KX at e;obtain⟨w,a,_⟩:=AU.1 e;have:=d3.ids w (K0 a);have h9:=List.find?_some a;simp at h9;omega
 rw [h8];rfl
theorem fnReadsOf_true (code:List Int) (hc:ol (oK .u8) code):ID code=some true:=by
 by_cases h:code.length<=1048576
 ·exact TT h
 ·unfold ID;have hb:Uz code=some true:=by
   unfold Uz;rw [Cu,Ad (by omega)]
  rw [hb];rfl
end Go.TI
