/- Devices come up for the program as they were. No condition; no program is in sight. -/
import Derived.Test.YtdhemppeejlbeaaGreatMTP3
set_option linter.unusedVariables false
set_option linter.unusedSimpArgs false
namespace Go.TI
open Go
def tH:List ByteArray:=[(bs []),(bs [97]),(bs [98,98]),(bs [97,98,99,100,97,98,99,100,97,98,99,100]),(bs [104,101,108,108,111]),(bs [104,101,108,108,111,32,104,101,108,108,111,32,104,101,108,108,111]),(bs [122,122,122,122,122,122,122,122,122,122,122,122]),(bs [113,49]),(bs [113,50]),(bs [113,51])]
variable {r:List A4} {c:BN} {n:Nat} {q:cC} {d:Ba} {code:List Int} {s:Store} {f:Flash}
theorem yH (h:Lj c):∃v c',Qu c=some (v,c')/\Lj c'/\v∈tH:=by
 unfold Qu;obtain⟨v,c',k1,k2,k3⟩:=yN h (l:=tH) (by simp [tH]);have e:Nx c tH=some (v,c'):=k1;unfold tH at e;rw [e];exact⟨_,_,rfl,k2,k3⟩
structure vL (q:cC):Prop where
 kind:1<=q.Kind/\q.Kind<=6
 vol:1<=q.Vol/\q.Vol<=3
 rest:(q.Kind=1/\q.Text∈tH/\(0<=q.Sector/\q.Sector<=15)/\q.Of=0)\/(q.Kind≠1/\L q.Text=[]/\(((q.Kind=2\/q.Kind=6)/\(0<=q.Sector/\q.Sector<=15)/\q.Of=0)\/(q.Sector=0/\((q.Kind=4/\1<=q.Of/\q.Of<=9)\/((q.Kind=3\/q.Kind=5)/\q.Of=0)))))
theorem yP (h:Lj c) (d:Ba) (hv:d.Store.Vols.length<=3) (j:∀v∈d.Store.Vols,1<=v.Id/\v.Id<=3):∃q c',Qv c d=some (q,c')/\Lj c'/\vL q:=by
  unfold Qv;obtain⟨k,c1,a1,a2,a3⟩:=oG h (l:=[1,1,1,1,1,1,2,3,4,5,6]) (by simp);rw [a1];simp only [Aa];obtain⟨v2,c2,b1,b2,b3,b4⟩:=QY a2 3;have m:1<=k/\k<=6:=by simp at a3;omega
  have s:ad 1 v2=1+v2:=C6 (by omega) (by omega);have u:=b4 (by omega);rw [b1];simp only [Aa]
  have J1:∃x y c3,(bif((ln d.Store.Vols)==0)then(some (3,(ad 1 v2),c2.b_,c2.i_,c2.h_))
 else((bif(k !=3)then(bif(k !=4)then((Je c2 8).bind λv3=>
 some ((!v3.1),v3.2.b_,v3.2.i_,v3.2.h_))
 else(some (false,c2.b_,c2.i_,c2.h_)))
 else(some (false,c2.b_,c2.i_,c2.h_)):Option (Bool×List Int×Int×Int)).bind λj2=>
 bif j2.1 then((DJ (BN.mk j2.2.1 j2.2.2.1 j2.2.2.2) (ln d.Store.Vols)).bind λv4=>
 (gi d.Store.Vols v4.1).bind λx1=>
 some (k,x1.Id,v4.2.b_,v4.2.i_,v4.2.h_))
 else(some (k,(ad 1 v2),j2.2.1,j2.2.2.1,j2.2.2.2))):Option (Int×Int×List Int×Int×Int))=some (x,y,BN.b_ c3,c3.i_,c3.h_)/\Lj c3/\(1<=x/\x<=6)/\1<=y/\y<=3:=by
   cases hz:(ln d.Store.Vols==0)with
   |true=>exact⟨_,_,c2,rfl,b2,by omega,by omega,by omega⟩
   |false=>
    simp only [Ac];have n:0<d.Store.Vols.length:=by
     rw [DO,BW]at hz;omega
    have J2:∃b c3,(bif(k !=3)then(bif(k !=4)then((Je c2 8).bind λv3=>some ((!v3.1),v3.2.b_,v3.2.i_,v3.2.h_))else(some (false,c2.b_,c2.i_,c2.h_)))else(some (false,c2.b_,c2.i_,c2.h_)):Option (Bool×List Int×Int×Int))=some (b,BN.b_ c3,c3.i_,c3.h_)/\Lj c3:=by
     cases(k !=3)with
     |false=>exact⟨_,c2,rfl,b2⟩
     |true=>
      cases(k !=4)with
      |false=>exact⟨_,c2,rfl,b2⟩
      |true=>
       obtain⟨v3,c3,d1,d2⟩:=sK b2 8;simp only [Af];rw [d1];exact⟨_,c3,rfl,d2⟩
    obtain⟨b,c3,e1,e2⟩:=J2;rw [e1];simp only [Aa]
    cases b with
    |false=>exact⟨_,_,c3,rfl,e2,m,by omega,by omega⟩
    |true=>
     simp only [Af];obtain⟨v4,c4,f1,f2,f3⟩:=LU (MY e2) n;rw [BW,f1];simp only [Aa];rw [AB,Ab f3];exact⟨_,_,c4,rfl,f2,m,j _ (AC f3)⟩
  obtain⟨x,y,c3,j1,j1c,jx,jy⟩:=J1;rw [j1];simp only [Aa];have J3:∃b c4,(bif(x==5)then((Je (BN.mk c3.b_ c3.i_ c3.h_) 3).bind λv8=>some ((!v8.1),v8.2.b_,v8.2.i_,v8.2.h_))else(some (false,c3.b_,c3.i_,c3.h_)):Option (Bool×List Int×Int×Int))=some (b,BN.b_ c4,c4.i_,c4.h_)/\Lj c4:=by
   cases(x==5)with
   |false=>exact⟨_,c3,rfl,j1c⟩
   |true=>
    obtain⟨v8,c4,d1,d2⟩:=sK (MY j1c) 3;simp only [Af];rw [d1];exact⟨_,c4,rfl,d2⟩
  obtain⟨b,c4,j3,j3c⟩:=J3;rw [j3];simp only [Aa,Tn];have a:1<=(bif b then(1:Int)else x)/\(bif b then(1:Int)else x)<=6:=by cases b<;>simp<;>omega
  generalize (bif b then(1:Int)else x)=j4 at a
  cases o:(j4==1)with
  |true=>
   simp only [Af];obtain⟨t,c5,t1,t2,t3⟩:=yH (MY j3c);rw [t1];simp only [Aa];obtain⟨v10,c6,u1,u2,u3,u4⟩:=QY t2 16;rw [u1];have:=u4 (by omega);have hj:=Dm.1 o;exact⟨_,_,rfl,u2,⟨a,jy,.inl ⟨hj,t3,by show 0<=v10/\v10<=15;omega,rfl⟩⟩⟩
  |false=>
   simp only [Ac];have e:j4≠1:=by simpa using o
   have p:(bif(j4==2)then(j4==2)else(j4==6))=decide (j4=2\/j4=6):=by
    by_cases e2:j4=2
    ·rw [e2];rfl
    rw [show(j4==2)=false by simpa using e2,Ac];by_cases e6:j4=6
    ·rw [e6];rfl
    rw [show(j4==6)=false by simpa using e6,Ae (by omega)]
   rw [p];by_cases g:j4=2\/j4=6
   ·rw [Ad g];simp only [Af];obtain⟨v11,c6,u1,u2,u3,u4⟩:=QY (MY j3c) 16;rw [u1];have:=u4 (by omega);exact⟨_,_,rfl,u2,⟨a,jy,.inr ⟨e,El _,.inl ⟨g,by show 0<=v11/\v11<=15;omega,rfl⟩⟩⟩⟩
   rw [Ae g];simp only [Ac]
   cases f:(j4==4)with
   |true=>
    simp only [Af];obtain⟨v12,c6,u1,u2,u3,u4⟩:=QY (MY j3c) 3;have h44:=Dm.1 f;have:=u4 (by omega);rw [u1];simp only [Aa]
    cases r:d.Store.Vols with
    |nil=>
     rw [show decide (ln ([]:List Vol)>0)=false from rfl];exact⟨_,_,rfl,u2,⟨a,jy,.inr ⟨e,El _,.inr ⟨rfl,.inl ⟨h44,by show 1<=ad 1 v12/\ad 1 v12<=9;rw [C6 (by omega) (by omega)];omega⟩⟩⟩⟩⟩
    |cons v vs=>
     rw [Ad (by rw [BW,A0];omega:ln (v::vs)>0),show gi (v::vs) 0=some v from AB (i:=0)];have:=j v (by rw [r];simp);exact⟨_,_,rfl,u2,⟨a,jy,.inr ⟨e,El _,.inr ⟨rfl,.inl ⟨h44,by show 1<=v.Id/\v.Id<=9;omega⟩⟩⟩⟩⟩
   |false=>
    have h44:j4≠4:=by simpa using f
    exact⟨_,_,rfl,MY j3c,⟨a,jy,.inr ⟨e,El _,.inr ⟨rfl,.inr ⟨by show j4=3\/j4=5;omega,rfl⟩⟩⟩⟩⟩
theorem fJ (h:3<=n/\n<=10):Cg (Flash.mk (List.replicate n (Block.mk false 0 Np))):=by
 refine⟨by simpa using h,λb hb=>?_⟩;rw [Dy hb];exact fK ⟨by omega,by omega⟩
theorem S5 (h:3<=n/\n<=10):Kj (n:Int)=some (Flash.mk (List.replicate n (Block.mk false 0 Np)),true):=by
 unfold Kj;rw [Ex,Ad (by omega)];simp only [Aa,Aj,Ac];have q:=iK (body:=λs:Int×List Block=>FT (n:Int) s.1 s.2) n (λ_=>Block.mk false 0 Np)
  (λi a hi ho=>by
   simp only [FT];rw [Ad (by omega:(i:Int)<(n:Int)),Af,QD];simp only [Aa];rw [Ct (by simp;omega)];simp only [Aa]
   rw [ad1 (by omega)])
  (λa=>by simp only [FT];rw [Ae (by omega),Ac])
 rw [q];simp only [Aa];rw [IW,Ch]
theorem YL:∀(n:Nat) (i:Int),JH i (List.replicate n (Block.mk false 0 Np))=[]
 |0,i=>rfl
 |n+1,i=>by
  rw [FZ,JH,YL n (i+1),W9 i 0 _ (λy hy=>by rw [Dy hy];simp)];rfl
theorem UX (h:3<=n/\n<=10):∃d,KY (n:Int)=some (d,true)/\M6 d []/\BJ d.Store=[]/\d.Store.Next=1/\d.Flash=Flash.mk (List.replicate n (Block.mk false 0 Np)):=by
 have hP:=fJ h;have b:SR (JH 0 (Flash.mk (List.replicate n (Block.mk false 0 Np))).Blocks) []:=by
  rw [YL];exact⟨List.Pairwise.nil,λ_=>rfl⟩
 obtain⟨d,u1,u2,u3⟩:=JM hP b;have a:=u2.ab;have:Kn (CY (Bt []))=([],1):=rfl;rw [this]at a
 injection a with e1 e2
 refine⟨d,?_,⟨u2,⟨⟨by simp,by simp,by simp,by simp,by simp,by simp⟩,List.Pairwise.nil,⟨λy hy=>by cases hy⟩⟩,?_⟩,e1,e2,u3⟩
 ·unfold KY;rw [S5 h];simp only [Aa,Aj,Ac];rw [u1];rfl
 rw [e1];refine⟨λc hc=>?_,λc c' hc=>?_⟩
 ·obtain⟨_,p,hp,_⟩:=hc;cases hp
 obtain⟨_,p,hp,_⟩:=hc;cases hp
structure sQ (d:Ba) (r:List A4):Prop where
 ids:∀p∈BJ d.Store,1<=p.1/\p.1<=3
 pg:∀y∈r,y.Page.Kind=1->y.Page.Tx<=13/\∃s∈tH,T1 y.Page.Text=some s
structure Ext (d:Ba) (r:List A4):Prop extends sQ d r where
 tx:Dz r<=1000
 sq:Da r<=100000
 wear:Iv d.Flash 1000
theorem vL.text (h:vL q):q.Text∈tH:=by
 rcases h.rest with⟨_,h2,_⟩|⟨_,h2,_⟩
 ·exact h2
 rw [show q.Text=bs []from I1 (by rw [h2,El])];simp [tH]
theorem sQ.step {d':Ba} {r':List A4} (h:sQ d r) (hq:vL q) (hn:d.Store.Next<=13) (hf:sP r r' d.Store.Next q.Text) (hi:yX d d' q.Vol):sQ d' r':=by
 refine⟨λp hp=>?_,λy hy hk=>?_⟩
 ·rcases hi p hp with⟨p',h1,h2⟩|h1
  ·rw [<-h2];exact h.ids p' h1
  rw [h1];exact hq.vol
 rcases hf.1 y hy hk with⟨z,z1,z2,z3,z4⟩|⟨h1,h2⟩
 ·have:=h.pg z z1 z2;rw [z3,z4]at this;exact this
 exact⟨by omega,_,hq.text,h2⟩
theorem eE (h:Lj c):∃d c' r,MF c=some (d,c')/\Lj c'/\M6 d r/\d.Store.Next<=13/\Ext d r:=by
 unfold MF;obtain⟨v,c1,a1,a2,a3⟩:=LU h (n:=4) (by omega);rw [show((4:Nat):Int)=4 from rfl]at a1;rw [a1];simp only [Aa];rw [C6 (by omega) (by omega),show(5:Int)+(v:Int)=((5+v:Nat):Int) by omega];obtain⟨d0,b1,b2,b3,b4,b5⟩:=UX (n:=5+v) (by omega);rw [b1];simp only [Aa];obtain⟨a,h1,d,cc,r,h2,h3,h4,h5,h6⟩:=Bg (body:=λs:Int×List Block×List Vol×List BI×Int×Int×Int×Int×List Int×Int×Int=>Gi s.1 s.2.1 s.2.2.1 s.2.2.2.1 s.2.2.2.2.1 s.2.2.2.2.2.1 s.2.2.2.2.2.2.1 s.2.2.2.2.2.2.2.1 s.2.2.2.2.2.2.2.2.1 s.2.2.2.2.2.2.2.2.2.1 s.2.2.2.2.2.2.2.2.2.2)
  (λ(o:Ba×BN) i=>(i,o.1.Flash.Blocks,o.1.Store.Vols,o.1.Store.Arena.Knots,o.1.Store.Next,o.1.Seq,o.1.Tx,o.1.Base,o.2.b_,o.2.i_,o.2.h_)) 12
  (λi o=>Lj o.2/\(∃r,M6 o.1 r/\sQ o.1 r/\Dz r<=1+21*i/\Da r<=1+4010*i/\Iv o.1.Flash (20*i))/\o.1.Store.Next<=1+i)
  (λa=>∃d cc r,a=(d.Flash.Blocks,d.Store.Vols,d.Store.Arena.Knots,d.Store.Next,d.Seq,d.Tx,d.Base,BN.b_ cc,cc.i_,cc.h_)/\Lj cc/\M6 d r/\d.Store.Next<=13/\Ext d r)
  (λo i hi hs=>by
   obtain⟨e,cu⟩:=o;obtain⟨k1,⟨r,k2,kx,kt,kq,kw⟩,k3⟩:=hs;simp only at k1 k2 k3 kx kw;have f:Ba.mk (Flash.mk e.Flash.Blocks) (Store.mk e.Store.Vols (Arena.mk e.Store.Arena.Knots) e.Store.Next) e.Seq e.Tx e.Base=e:=rfl;simp only [Gi];rw [f];obtain⟨w,c3,w1,w2,w3⟩:=LU (MY k1) (n:=12) (by omega);rw [show((12:Nat):Int)=12 from rfl]at w1;rw [w1];simp only [Aa];by_cases b:(i:Int)<(w:Int)
   ·rw [Ad b,Af];obtain⟨q,c4,q1,q2,q3⟩:=yP w2 e k2.dev.st.len (λv hv=>kx.ids (v.Id,E4 e.Store.Arena.Knots v.Root) (AH.2 ⟨v,hv,rfl⟩));rw [q1];simp only [Aa];obtain⟨d',steps,t,no,r',s1,s2,s3,s4,s5,s6,s7⟩:=vF k2 (λx hx=>by have:=kw x hx;omega) q;rw [s1];simp only [Aa];rw [ad1 (by omega)];exact .inl ⟨(d',c4),rfl,q2,⟨r',s2,kx.step q3 (by omega) s5 s6,by have:=s5.2.1;omega,by have:=s5.2.2;omega,λx hx=>by have:=s7 _ kw x hx;omega⟩,by show d'.Store.Next<=_;omega⟩
   rw [Ae b,Ac]
   exact .inr ⟨_,rfl,e,c3,r,rfl,w2,k2,by omega,⟨kx,by omega,by omega,λx hx=>by have:=kw x hx;omega⟩⟩)
  (λo hs=>by
   obtain⟨e,cu⟩:=o;obtain⟨k1,⟨r,k2,kx,kt,kq,kw⟩,k3⟩:=hs;simp only at k1 k2 k3 kx kw;simp only [Gi];obtain⟨w,c3,w1,w2,w3⟩:=LU (MY k1) (n:=12) (by omega);rw [show((12:Nat):Int)=12 from rfl]at w1;rw [show((12:Nat):Int)=12 from rfl,w1];simp only [Aa];rw [Ae (by omega:¬(12:Int)<(w:Int)),Ac]
   exact⟨_,rfl,e,c3,r,rfl,w2,k2,by omega,⟨kx,by omega,by omega,λx hx=>by have:=kw x hx;omega⟩⟩) (s:=(d0,c1)) ⟨a2,⟨[],b2,⟨λp hp=>(by rw [b3]at hp;cases hp),λy hy=>(by cases hy)⟩,by simp [Dz],by simp [Da],λx hx=>by
    rw [b5]at hx;rw [Dy hx]
    exact Fd _⟩,by show d0.Store.Next<=_;omega⟩
 have h1':Au (λs:Int×List Block×List Vol×List BI×Int×Int×Int×Int×List Int×Int×Int=>Gi s.1 s.2.1 s.2.2.1 s.2.2.2.1 s.2.2.2.2.1 s.2.2.2.2.2.1 s.2.2.2.2.2.2.1 s.2.2.2.2.2.2.2.1 s.2.2.2.2.2.2.2.2.1 s.2.2.2.2.2.2.2.2.2.1 s.2.2.2.2.2.2.2.2.2.2) (0,d0.Flash.Blocks,d0.Store.Vols,d0.Store.Arena.Knots,d0.Store.Next,d0.Seq,d0.Tx,d0.Base,c1.b_,c1.i_,c1.h_)=some a:=h1;rw [h1',h2];exact⟨d,cc,r,rfl,h3,h4,h5,h6⟩
theorem cA (h:code.length<=1048576):∃d r,LB code=some d/\M6 d r/\d.Store.Next<=13/\Ext d r:=by
 unfold LB;obtain⟨c,c1,c2⟩:=AAo h;obtain⟨d,c',r,d1,d2,d3,d4⟩:=eE c2;rw [c1];simp only [Aa];rw [d1];exact⟨d,r,rfl,d3,d4⟩
theorem Yc (hr:FY r):∃l,Au (λs:List Int×Int=>Jt r s.1 s.2) ([],0)=some l/\l.Nodup/\(∀x,x∈l↔∃y∈r,y.Page.Kind=2/\y.Page.Tx=x)/\l.length<=r.length:=by
 have c:=hr.len;obtain⟨l,h1,h2,h3,h4⟩:=Bg (body:=λs:List Int×Int=>Jt r s.1 s.2) (λ(o:List Int) i=>(o,i)) r.length (λi o=>o.Nodup/\(∀x,x∈o↔∃y∈r.take i,y.Page.Kind=2/\y.Page.Tx=x)/\o.length<=i) (λo=>o.Nodup/\(∀x,x∈o↔∃y∈r,y.Page.Kind=2/\y.Page.Tx=x)/\o.length<=r.length)
  (λo i hi ho=>by
   obtain⟨o1,o2,o3⟩:=ho;have hx:=Ab hi;have et:r.take (i+1)=r.take i++ [r[i]]:=by rw [Aq hi]
   refine .inl ?_;simp only [Jt,AG,Ad hi,Af,AB,hx,Aa];rw [ad1 (by omega),VB o _ (by omega)]
   cases hk:(r[i].Page.Kind==2)with
   |false=>
    simp only [Ac,Aa];refine⟨o,rfl,o1,λx=>?_,by omega⟩;rw [o2,et];constructor
    ·rintro⟨y,y1,y2⟩;exact⟨y,A8 _ y1,y2⟩
    rintro⟨y,y1,y2,y3⟩;rw [Ai,Ay]at y1
    rcases y1 with y1|rfl
    ·exact⟨y,y1,y2,y3⟩
    rw [y2]at hk;simp at hk
   |true=>
    have hk':r[i].Page.Kind=2:=by simpa using hk
    simp only [Af,Aa]
    cases hc:o.contains r[i].Page.Tx with
    |true=>
     have hc':r[i].Page.Tx∈o:=by simpa using hc
     simp only [Aj,Ac];refine⟨o,rfl,o1,λx=>?_,by omega⟩;rw [o2,et];constructor
     ·rintro⟨y,y1,y2⟩;exact⟨y,A8 _ y1,y2⟩
     rintro⟨y,y1,y2,y3⟩;rw [Ai,Ay]at y1
     rcases y1 with y1|rfl
     ·exact⟨y,y1,y2,y3⟩
     rw [<-y3];exact(o2 _).1 hc'
    |false=>
     have hc':r[i].Page.Tx∉o:=by
      intro h;rw [List.contains_iff_mem.2 h]at hc;cases hc
     simp only [AJ,Af];rw [Ct (by simp only [An];omega)];refine⟨_,rfl,?_,λx=>?_,by simp;omega⟩
     ·rw [Bm];exact⟨o1,by simp,λa ha b hb e=>by rw [Ay]at hb;rw [e,hb]at ha;exact hc' ha⟩
     rw [Ai,Ay,o2,et];constructor
     ·rintro(⟨y,y1,y2⟩|rfl)
      ·exact⟨y,A8 _ y1,y2⟩
      exact⟨r[i],AI _ (Ay.2 rfl),hk',rfl⟩
     rintro⟨y,y1,y2,y3⟩;rw [Ai,Ay]at y1
     rcases y1 with y1|rfl
     ·exact .inl ⟨y,y1,y2,y3⟩
     exact .inr y3.symm)
  (λo ho=>⟨o,by simp only [Jt,AG,Ap,Av,Ac],by rw [AP]at ho;exact ho⟩) (s:=[]) ⟨C0,by simp,by simp⟩
 exact⟨l,h1,h2,h3,h4⟩
theorem mL {l:List Int} (hr:FY r) (h1:l.Nodup) (h2:∀x,x∈l↔∃y∈r,y.Page.Kind=2/\y.Page.Tx=x):X9 l=Di r:=by
 obtain⟨n1,n2,n3⟩:=Gv r (λy hy=>(hr.tx y hy).1);refine VH ?_ n1 (λx=>?_)
 ·have hs:(X9 l).Pairwise λx y=>x<=y:=by
   have:=List.pairwise_mergeSort (le:=λx y:Int=>decide (x<=y)) (λa b c h1 h2=>by simp at*;omega) (λa b=>by simp;omega) l;unfold X9;exact this.imp (λh=>by simpa using h)
  have hd:(X9 l).Nodup:=by
   unfold X9;exact(List.mergeSort_perm l _).nodup_iff.2 h1
  unfold asc;exact(hs.and hd).imp (λh=>by have:=h.1;have:=h.2;omega)
 rw [n2,<-h2];unfold X9;rw [List.mem_mergeSort]
theorem YG (t:ByteArray) (ht:(L t).length<=20000):∀(n a:Nat) (c:List Ds),(L t).length-a<=n->a<=(L t).length->c.length<=a->Au (λs:List Ds×Int=>KD t s.1 s.2) (c,(a:Int))=Au (λs:List Ds×ByteArray×Int×Bool=>DD t s.1 s.2.1 s.2.2.1 s.2.2.2) (c,t,(a:Int),false)
 |n,a,c,hn,ha,ho=>by
  rw [AA,AA];simp only [DD,KD];rw [BM];by_cases d:a<(L t).length
  ·rw [Ad (by omega:(a:Int)<((L t).length:Int))];simp only [Af,Aa,AJ];rw [EE t d,ad1 (by omega)];obtain⟨r1,a1,a2,a3⟩:=HT t ((a+1:Nat):Int) (by omega) ⟨by omega,by omega⟩;have f:oI r1.2.1:=by
    rcases a3 with⟨_,_,e⟩|⟨_,_,b,_,_,e,_,_,e2,_⟩
    ·rw [e];exact⟨by omega,by omega⟩
    rw [e];exact⟨by omega,by omega⟩
   obtain⟨r2,b1,b2,b3⟩:=HT t r1.2.1 (by omega) f;rw [a2];simp only [Aa];rw [b2];simp only [Aa];have l1:Do (Ej.mk t ((a+1:Nat):Int) false)=some (if r1.2.2=true then(r1.1,Ej.mk t r1.2.1 false)else(0,Ej.mk t ((a+1:Nat):Int) true)):=by
    unfold Do;simp only;rw [a1];cases h:r1.2.2<;>simp [h]
   rw [l1]
   cases h1:r1.2.2 with
   |false=>
    simp only [BL,FV,Aa,AJ,Af];have l2:Do (Ej.mk t ((a+1:Nat):Int) true)=some (0,Ej.mk t ((a+1:Nat):Int) true):=by
     unfold Do;simp only;rw [a1];simp
    rw [l2];simp only [Aa,Af]
   |true=>
    simp only [BU,Aa,Aj,Ac];have l2:Do (Ej.mk t r1.2.1 false)=some (if r2.2.2=true then(r2.1,Ej.mk t r2.2.1 false)else(0,Ej.mk t r1.2.1 true)):=by
     unfold Do;simp only;rw [b1];cases h:r2.2.2<;>simp [h]
    rw [l2]
    cases h2:r2.2.2 with
    |false=>
     simp only [BL,FV,Aa,AJ,Af]
    |true=>
     simp only [BU,Aa,Aj,Ac];obtain⟨v,c1,c2,_⟩:=fR (Ds.mk (qu (IntKind.i64.wrap ((L t)[a].toNat:Int)) 16) (Int.tmod (IntKind.i64.wrap ((L t)[a].toNat:Int)) 16) r1.1 r2.1);rw [c1,c2];simp only [Aa]
     cases v with
     |false=>simp only [AJ,Af]
     |true=>
      simp only [Aj,Ac];rw [Ct (by simp;omega)];simp only [Aa]
      rcases b3 with⟨e,_⟩|⟨_,aa,b,m,k1,k2,k3,k4,k5,_⟩
      ·rw [h2]at e;cases e
      rcases a3 with⟨e,_⟩|⟨_,aa',b',m',p1,p2,p3,p4,p5,_⟩
      ·rw [h1]at e;cases e
      rw [k2]
      match n,hn with
      |n+1,hn=>exact YG t ht n b _ (by omega) k5 (by simp;omega)
      |0,hn=>omega
  rw [Ae (by omega)];simp only [Ac,Aa]
theorem Yb (t:ByteArray) (ht:(L t).length<=20000):OD t=HF t:=by
 have h:=YG t ht (L t).length 0 [] (by omega) (by omega) (by simp);rw [show((0:Nat):Int)=0 from rfl]at h;unfold OD HF;rw [h]
def zE:Page:=Page.mk 0 0 0 0 0 (bs [])
theorem YT (r:List A4) (hl:r.length<=1048576) (t a c:Int) (h:(a=0/\c=0)\/(0<a/\0<c)):PW r t a c=some (match Pr r t a c with|some y=>(y.Page,true)|none=>(zE,false)):=by
 have hp:∀y:A4,(bif(y.Page.Kind==2)then(bif(y.Page.Tx==t)then(bif(y.Page.Part==a)then(bif(c==0)then(some true)else(some (y.Page.Count==c)))else(some false))else(some false))else(some false):Option Bool)=some (gB t a c y):=by
  intro y;unfold gB;cases y.Page.Kind==2<;>cases y.Page.Tx==t<;>cases y.Page.Part==a<;>simp only [Af,Ac,Bool.false_and,CH]
  rcases h with⟨rfl,rfl⟩|⟨h1,h2⟩
  ·simp
  rw [show(c==0)=false by simp;omega];simp [h1]
 unfold PW;obtain⟨b,h1,h2⟩:=Bg (body:=λs:Int=>Jo r t a c s) (λ(_:Unit) i=>i) r.length (λi _=>∀(j:Nat) x,j<i->r[j]?=some x->gB t a c x=false) (λb=>match Pr r t a c with|some y=>b= .inr (y.Page,true)|none=>b= .inl ())
  (λ_ i hi hs=>by
   have hx:=Ab hi;simp only [Jo,AG,Ad hi,Af,AB,hx,Aa];rw [hp,ad1 (by omega)];simp only [Aa]
   cases e:gB t a c r[i]with
   |true=>
    refine .inr ⟨_,rfl,?_⟩;unfold Pr;rw [bJ r _ hs hx e]
   |false=>
    refine .inl ⟨(),by simp only [Ac],λj x hj d=>?_⟩;by_cases q:j=i
    ·subst q;rw [hx]at d;injection d with d;rw [<-d];exact e
    exact hs j x (by omega) d)
  (λ_ hs=>⟨.inl (),by simp only [Jo,AG,Ap,Av,Ac],by
   unfold Pr
   rw [lW r _ (λj x hx=>hs j x (Ag.1 hx).1 hx)]⟩) (s:=()) (λj x hj=>by omega)
 have h1':Au (λs:Int=>Jo r t a c s) 0=some b:=h1;rw [h1']
 cases hf:Pr r t a c with
 |none=>rw [hf]at h2;simp only at h2;rw [h2];rfl
 |some y=>rw [hf]at h2;simp only at h2;rw [h2];rfl
theorem rE (r:List A4) (hr:FY r) (t:Int) (v:Page×Bool) (hv:1<=v.1.Count/\v.1.Count<=9):∀(n:Nat) (a:Int) (text:ByteArray) (seq:Int),a+n=11->1<=a->a<=v.1.Count->(L text).length<=90*a.toNat->
  ∃b,Au (λs:ByteArray×Int×Int=>K7 r t v s.1 s.2.1 s.2.2) (text,seq,a)=some b/\(match parts r t n a v.1.Count (L text) seq with
   |none=>b= .inr (Tx.mk 0 0 [],false)
   |some (x,q)=>∃u,b= .inl (u,q)/\L u=x/\(L u).length<=1000)
 |0,a,text,seq,hn,h1,hc,ht=>by omega
 |n+1,a,text,seq,hn,h1,hc,ht=>by
  rw [AA];simp only [K7,parts];by_cases e:a<v.1.Count
  ·rw [Ad e,Aw (.inr e)];simp only [Af];rw [YT r hr.len t a v.1.Count (.inr ⟨by omega,by omega⟩)];simp only [Aa]
   cases hf:Pr r t a v.1.Count with
   |none=>
      simp only [AJ,Af];exact⟨_,rfl,rfl⟩
   |some y=>
    simp only [Aj,Ac];have hy:=Qf hf;have d:=hr.text y hy.1;have c:=lJ hy.2 (by omega);rw [G5 text y.Page.Text (by omega)];simp only [Aa];rw [C6 (by omega) (by omega),c];have es:Ms a seq y=(if y.Page.Seq<seq then y.Page.Seq else seq):=by
     unfold Ms;by_cases q:y.Page.Seq<seq
     ·rw [Aw (.inr q),Aw q]
     rw [Ax (by rintro(h|h);omega;exact q h),Ax q]
    rw [es,<-DG];exact rE r hr t v hv n (a+1) _ _ (by omega) (by omega) (by omega) (by rw [DG,Ah];omega)
  rw [Ae e,Ax (by rintro(h|h);omega;exact e h)];simp only [Ac];exact⟨_,rfl,text,rfl,rfl,by omega⟩
theorem aU (r:List A4) (hr:FY r) (t:Int):∃x ok,O9 r t=some (x,ok)/\Hq r t=(if ok=true then some x else none)/\x.Recs.length<=20000:=by
 unfold O9 Hq;rw [YT r hr.len t 0 0 (.inl ⟨rfl,rfl⟩)];simp only [Aa]
 have a:parts r t 11 0 0 [] 0=(match Pr r t 0 0 with
  |none=>none
  |some y=>parts r t 10 1 y.Page.Count (L y.Page.Text) y.Page.Seq):=by
  rw [show(11:Nat)=10+1 from rfl];unfold parts;rw [Aw (.inl rfl)]
  cases Pr r t 0 0 with
  |none=>rfl
  |some y=>
   simp only [A5];have:Ms 0 0 y=y.Page.Seq:=by unfold Ms;rw [Aw (.inl rfl)]
   rw [this];rfl
 rw [a]
 cases hf:Pr r t 0 0 with
 |none=>exact⟨_,_,rfl,rfl,by simp⟩
 |some y=>
  simp only [Aj,Ac];have hy:=Qf hf;have c:=hr.text y hy.1;have hc:=hr.cnt y hy.1;obtain⟨b,h1,h2⟩:=rE r hr t (y.Page,true) hc 10 1 y.Page.Text y.Page.Seq (by omega) (by omega) hc.1 (by omega);rw [h1];simp only [Aa]
  cases hp:parts r t 10 1 y.Page.Count (L y.Page.Text) y.Page.Seq with
  |none=>
   rw [hp]at h2;simp only at h2;rw [h2];exact⟨_,_,rfl,rfl,by simp⟩
  |some w=>
   obtain⟨x,q⟩:=w;rw [hp]at h2;obtain⟨u,rfl,rfl,h4⟩:=h2;simp only [B6];obtain⟨l,ok,r1,r2,r3⟩:=X1 u (by omega);rw [Yb u (by omega),r1,AAg,r2];simp only [Aa]
   cases ok with
   |true=>exact⟨_,_,rfl,rfl,r3⟩
   |false=>exact⟨_,_,rfl,rfl,r3⟩
theorem eO (r:List A4) (hr:FY r):SY r=some (Bt r):=by
 have c:=hr.len;have a:=Gv r (λy hy=>(hr.tx y hy).1);have d:=a.2.2;obtain⟨l,l1,l2,l3,l4⟩:=Yc hr;unfold SY;rw [l1];simp only [Aa];unfold Wh;rw [Aw (by omega),mL hr l2 l3];simp only [Aa];obtain⟨b,h1,h2⟩:=Bg (body:=λs:List Tx×Int=>Js r (Di r) s.1 s.2) (λ(o:List Tx) i=>(o,i)) (Di r).length (λi o=>o=((Di r).take i).filterMap (Hq r)) (λb=>b=Bt r)
  (λo i hi ho=>by
   have hx:=Ab hi;have et:(Di r).take (i+1)=(Di r).take i++ [(Di r)[i]]:=Aq hi;have e:o.length<=i:=by
    rw [ho];have:=List.length_filterMap_le (Hq r) ((Di r).take i);rw [AE]at this;omega
   simp only [Js,AG,Ad hi,Af,AB,hx,Aa];rw [ad1 (by omega)];obtain⟨z,ok,k1,k2,k3⟩:=aU r hr (Di r)[i];rw [k1];simp only [Aa];refine .inl ?_
   cases ok with
   |true=>
    simp only [Af];rw [Ct (by simp only [An];omega)];refine⟨_,rfl,?_⟩;rw [et,Jw,ho];simp only [Pu,List.filterMap_nil,k2,BU]
   |false=>
    refine⟨o,rfl,?_⟩;rw [et,Jw,ho]
    simp [k2])
  (λo ho=>⟨o,by simp only [Js,AG,Ap,Av,Ac],by rw [ho,AP];rfl⟩) (s:=[]) rfl
 have h1':Au (λs:List Tx×Int=>Js r (Di r) s.1 s.2) ([],0)=some b:=h1;rw [h1',h2];rfl
theorem nK (x:Tx):SQ x=some (Za x):=by
 unfold SQ Za
 cases h:x.Recs with
 |nil=>rfl
 |cons q m=>
  rw [Ad (by rw [BW,A0];omega:ln (q::m)>0),show gi (q::m) 0=some q from AB (i:=0)];rfl
theorem Yn (h:CV s) (a:List Ds) (hr:a.length<=1048576):OJ s a=Kk s a:=by
 have hl:=h.len;have f:=KI h.ar (by have:=h.few;omega);have d:=FC s f (by omega);have c:=PY s f (by omega);unfold OJ Kk;rw [d,c];simp only [Aa];obtain⟨b,h1,h2,_⟩:=SL (body:=λq:Int×List Vol×List BI×Int=>DE s a q.1 q.2.1 q.2.2.1 q.2.2.2) (body':=λq:Int×List Vol×List BI×Int=>Ho s a q.1 q.2.1 q.2.2.1 q.2.2.2) (λ(t:Store) i=>(i,t.Vols,t.Arena.Knots,t.Next)) a.length (λ_ t=>CV t) (λ_=>True)
  (λt i hi hP=>by
   have hx:=Ab hi;have g:Store.mk t.Vols (Arena.mk t.Arena.Knots) t.Next=t:=rfl;have e:=Xf hP a[i];simp only [DE,Ho,AG,Ad hi,Af,AB,hx,Aa];rw [g,jY hP];unfold K6 at e;split at e
   ·rw [e];simp only [Aa,AJ,Af];rw [d,c];exact⟨rfl,.inr ⟨_,rfl,trivial⟩⟩
   obtain⟨u,u1,u2,_⟩:=e;rw [u1];simp only [Aa,Aj,Ac];rw [ad1 (by omega)]
   exact⟨by first|rfl|trivial,.inl ⟨u,rfl,u2⟩⟩)
  (λt _=>⟨by simp only [DE,Ho,AG,Ap,Av,Ac],.inl (t.Vols,t.Arena.Knots,t.Next),by simp only [DE,AG,Ap,Av,Ac],trivial⟩) (s:=s) h
 have e1:Au (λq:Int×List Vol×List BI×Int=>DE s a q.1 q.2.1 q.2.2.1 q.2.2.2) (0,s.Vols,s.Arena.Knots,s.Next)=some b:=h1;have e2:Au (λq:Int×List Vol×List BI×Int=>Ho s a q.1 q.2.1 q.2.2.1 q.2.2.2) (0,s.Vols,s.Arena.Knots,s.Next)=some b:=h2;rw [e1,e2]
theorem WV (l:List Tx) (hl:l.length<=1048576) (hr:∀x∈l,x.Recs.length<=20000):MR l=some (CY l):=by
 unfold MR;obtain⟨b,h1,h2⟩:=Bg (body:=λs:Int×Int=>Gz l s.1 s.2) (λ(o:Int) i=>(o,i)) l.length (λi o=>o=(jH (l.take i):Int)) (λb=>b=(jH l:Int))
  (λo i hi ho=>by
   have hx:=Ab hi;have et:l.take (i+1)=l.take i++ [l[i]]:=Aq hi;have a:(l.take i).length=i:=by rw [AE];omega
   simp only [Gz,AG,Ad hi,Af,AB,hx,Aa];rw [ad1 (by omega),nK];simp only [Aa];refine .inl ?_
   cases hb:Za l[i]with
   |true=>exact⟨(i:Int),rfl,by rw [et,OV,Aw hb,a]⟩
   |false=>exact⟨o,rfl,by rw [et,OV,Ax (by rw [hb];simp),ho]⟩)
  (λo ho=>⟨o,by simp only [Gz,AG,Ap,Av,Ac],by rw [ho,AP]⟩) (s:=0) rfl
 have h1':Au (λs:Int×Int=>Gz l s.1 s.2) (0,0)=some b:=h1;rw [h1',h2];simp only [Aa];have d:=jG l;have hd:dr l (jH l:Int) (ln l)=some (CY l):=by
  unfold dr;rw [BW,Aw (by omega),Bc,Bc,AO (by simp)];rfl
 rw [hd];simp only [Aa];obtain⟨b1,b2⟩:=Qr l;obtain⟨c,q1,q2⟩:=Bg (body:=λs:List Tx×Int=>Gy (CY l) s.1 s.2) (λ(o:List Tx) i=>(o,i)) (CY l).length (λi o=>o=(CY l).take i) (λb=>b=CY l)
  (λo i hi ho=>by
   have hx:=Ab hi;have e:=hr _ (b2 _ (AC hi));have et:(CY l).take (i+1)=(CY l).take i++ [(CY l)[i]]:=Aq hi;have f:o.length<=1048576:=by rw [ho,AE];omega
   simp only [Gy,AG,Ad hi,Af,AB,hx,Aa];rw [Ky (by omega)];simp only [Aa];rw [Ct (by simp only [An];omega)];simp only [Aa];rw [ad1 (by omega)]
   exact .inl ⟨_,rfl,by rw [et,<-ho]⟩)
  (λo ho=>⟨o,by simp only [Gy,AG,Ap,Av,Ac],by rw [ho,AP]⟩) (s:=[]) rfl
 have q1':Au (λs:List Tx×Int=>Gy (CY l) s.1 s.2) ([],0)=some c:=q1;rw [q1',q2];rfl
theorem aZ (h:vG f r):QL f=some (Da r-1):=by
 have a:=h.len;unfold QL;rw [h.i];simp only [Aa];obtain⟨b,h1,h2⟩:=Bg (body:=λs:Int×Int=>Iq r s.1 s.2) (λ(o:Int) i=>(o,i)) r.length (λi o=>o=Da (r.take i)-1) (λb=>b=Da r-1)
  (λo i hi ho=>by
   have hx:=Ab hi;have et:r.take (i+1)=r.take i++ [r[i]]:=Aq hi;simp only [Iq,AG,Ad hi,Af,AB,hx,Aa];rw [ad1 (by omega)];refine .inl ⟨_,rfl,?_⟩;rw [et,Vu,ho];by_cases e:r[i].Page.Seq>=Da (r.take i)
   ·rw [Aw (by omega),Aw e];omega
   rw [Ax (by omega),Ax e])
  (λo ho=>⟨o,by simp only [Iq,AG,Ap,Av,Ac],by rw [ho,AP]⟩) (s:=0) (by simp [Da])
 have h1':Au (λs:Int×Int=>Iq r s.1 s.2) (0,0)=some b:=h1;rw [h1',h2];rfl
theorem iT (r:List A4) (hr:FY r):Au (λs:Int×Int=>Hn r s.1 s.2) (0,1)=some (Dz r):=by
 have a:=hr.len;obtain⟨b,h1,h2⟩:=Bg (body:=λs:Int×Int=>Hn r s.1 s.2) (λ(o:Int) i=>(i,o)) r.length (λi o=>o=Dz (r.take i)) (λb=>b=Dz r)
  (λo i hi ho=>by
   have hx:=Ab hi;have ht:=hr.tx _ (AC hi);have et:r.take (i+1)=r.take i++ [r[i]]:=Aq hi;simp only [Hn,AG,Ad hi,Af,AB,hx,Aa];rw [ad1 (by omega),C6 (by omega) (by omega)];refine .inl ?_;by_cases e:r[i].Page.Kind=2
   ·rw [show(r[i].Page.Kind==2)=true by simpa using e];refine⟨_,rfl,?_⟩;rw [et,Sh,ho];by_cases e2:r[i].Page.Tx>=Dz (r.take i)
    ·rw [Aw (by omega),Aw ⟨e,e2⟩]
    rw [Ax (by omega),Ax λhh=>e2 hh.2]
   rw [show(r[i].Page.Kind==2)=false by simpa using e];refine⟨_,rfl,?_⟩
   rw [et,Sh,ho,Ax λhh=>e hh.1])
  (λo ho=>⟨o,by simp only [Hn,AG,Ap,Av,Ac],by rw [ho,AP]⟩) (s:=1) rfl
 rw [<-h2];exact h1
theorem WW (l:List Tx) (hl:l.length<=1048576) (hr:∀x∈l,x.Recs.length<=20000):Au (λs:Int×List Vol×List BI×Int×Int=>FW l s.1 s.2.1 s.2.2.1 s.2.2.2.1 s.2.2.2.2) (0,[],[],1,0)=Au (λs:Int×List Vol×List BI×Int×Int=>Dr l s.1 s.2.1 s.2.2.1 s.2.2.2.1 s.2.2.2.2) (0,[],[],1,0):=by
 obtain⟨b,h1,h2,_⟩:=SL (body:=λs:Int×List Vol×List BI×Int×Int=>Dr l s.1 s.2.1 s.2.2.1 s.2.2.2.1 s.2.2.2.2) (body':=λs:Int×List Vol×List BI×Int×Int=>FW l s.1 s.2.1 s.2.2.1 s.2.2.2.1 s.2.2.2.2) (λ(o:Store×Int) i=>(i,o.1.Vols,o.1.Arena.Knots,o.1.Next,o.2)) l.length (λ_ o=>CV o.1) (λ_=>True)
  (λo i hi hP=>by
   obtain⟨t,b0⟩:=o;simp only at hP;have hx:=Ab hi;have d:=hr _ (AC hi);have c:Store.mk t.Vols (Arena.mk t.Arena.Knots) t.Next=t:=rfl;simp only [Dr,FW,AG,Ad hi,Af,AB,hx,Aa];rw [c,Yn hP _ (by omega),ad1 (by omega)];have a:=UI hP l[i].Recs (by omega);unfold O6 at a;obtain⟨j,hj⟩:∃j,(bif((i:Int)==0)then(some l[i].Num)else(some b0):Option Int)=some j:=by
    cases((i:Int)==0)with
    |true=>exact⟨_,rfl⟩
    |false=>exact⟨_,rfl⟩
   rw [hj];simp only [Aa];split at a
   ·rw [a];exact⟨rfl,.inl ⟨(t,j),rfl,hP⟩⟩
   obtain⟨u,u1,u2,_⟩:=a;rw [u1]
   exact⟨rfl,.inl ⟨(u,j),rfl,u2⟩⟩)
  (λo _=>⟨by simp only [Dr,FW,AG,Ap,Av,Ac],(o.1.Vols,o.1.Arena.Knots,o.1.Next,o.2),by simp only [Dr,AG,Ap,Av,Ac],trivial⟩) (s:=(Store.mk [] (Arena.mk []) 1,0)) Y0
 have e1:Au (λs:Int×List Vol×List BI×Int×Int=>Dr l s.1 s.2.1 s.2.2.1 s.2.2.2.1 s.2.2.2.2) (0,[],[],1,0)=some b:=h1;have e2:Au (λs:Int×List Vol×List BI×Int×Int=>FW l s.1 s.2.1 s.2.2.1 s.2.2.2.1 s.2.2.2.2) (0,[],[],1,0)=some b:=h2;rw [e1,e2]
theorem Nr (hf:Cg f):Kq f=CL f:=by
 obtain⟨r,hs,_⟩:=sG hf;have hr:=TH hs hf;obtain⟨g1,g2⟩:=RK hr;obtain⟨b1,b2⟩:=Qr (Bt r);have a:=Mc r;have b:Da r<=1000000001:=a.2.2 _ (by omega) (λy hy=>by have:=(hr.seq y hy).2;omega);unfold Kq CL;rw [i8,NR hf,hs.s,hs.i,FL f hf.cap,bK,FL f hf.cap,aZ hs];unfold Mh OC;simp only [Aa,Aj,Ac];rw [S3 r hr,iT r hr,P9 r hr,eO r hr];simp only [Aa];rw [P8 _ g1 g2,WV _ g1 g2];simp only [Aa];rw [WW (CY (Bt r)) (by omega) (λx hx=>g2 x (b2 x hx)),C6 (by omega) (by omega),show Da r-1+1=Da r by omega]
theorem Ze {r:Int} (h:CV s) (hr:r∈B9 s):QN s.Arena r=some (E4 s.Arena.Knots r):=by
 obtain⟨l,l1,l2,_⟩:=f8 s.Arena (rW h) r;rw [Mm s.Arena (by have:=h.few;omega) h.ar (h.root r hr)]at l1;rw [l2,l1]
theorem Ya {a b:Store} (ha:CV a) (hb:CV b) (e:BJ a=BJ b) (n:a.Next=b.Next):MS a b=some true:=by
 have f:=ha.len;have d:a.Vols.length=b.Vols.length:=by rw [<-JP,<-JP,e]
 unfold MS;rw [show(ln a.Vols !=ln b.Vols)=false by rw [BW,BW,d];simp,show(a.Next !=b.Next)=false by rw [n];simp];simp only [Ac,Aa];obtain⟨q,h1,h2⟩:=Bg (body:=λs:Int=>G3 a b s) (λ(_:Unit) i=>i) a.Vols.length (λ_ _=>True) (λq=>q= .inl ())
  (λ_ i hi _=>by
   have hx:=Ab hi;have hy:=Ab (show i<b.Vols.length by omega);have c:(BJ a)[i]?=(BJ b)[i]? :=by rw [e]
   unfold BJ at c;rw [AL,AL,hx,hy]at c;simp only [Bz,Al,Bo]at c;obtain⟨e1,e2⟩:=c;simp only [G3,AG,Ad hi,Af,AB,hx,hy,Aa];rw [Ze hb (AH.2 ⟨_,AC (show i<b.Vols.length by omega),rfl⟩),Ze ha (AH.2 ⟨_,AC hi,rfl⟩),e1,e2];simp only [Aa,bne_self_eq_false,Ac];generalize hR:E4 b.Arena.Knots b.Vols[i].Root=R;have g:R.length=16:=by rw [<-hR];unfold E4;simp
   obtain⟨z,z1,z2⟩:=Bg (body:=λs:Int=>G0 R R s) (λ(_:Unit) i=>i) R.length (λ_ _=>True) (λq=>q= .inl ())
    (λ_ k hk _=>by
     have hx:=Ab hk;simp only [G0,AG,Ad hk,Af,AB,hx,Aa,bne_self_eq_false,Ac];rw [ad1 (by omega)]
     exact .inl ⟨(),rfl,trivial⟩)
    (λ_ _=>⟨_,by simp only [G0,AG,Ap,Av,Ac],rfl⟩) (s:=()) trivial
   have z1':Au (λs:Int=>G0 R R s) 0=some z:=z1;rw [z1',z2];simp only [Aa,B6];rw [ad1 (by omega)]
   exact .inl ⟨(),rfl,trivial⟩)
  (λ_ _=>⟨_,by simp only [G3,AG,Ap,Av,Ac],rfl⟩) (s:=()) trivial
 have h1':Au (λs:Int=>G3 a b s) 0=some q:=h1;rw [h1',h2];rfl
theorem Tb (h:Lv d r):Mz d=some true:=by
 obtain⟨m,m1,m2,m3⟩:=JM h.fl h.sr;obtain⟨e1,e2,e3⟩:=GO h m2 rfl;unfold Mz;rw [Nr h.fl,m1];simp only [Aa,Af];rw [UB h.st,Ya m2.st h.st e1 e2];simp only [Aa,Af];rw [m2.seq,h.seq,m2.tx,h.tx,e3];simp
theorem Xb (hs:code.length<=1048576):LW code=some true:=by
 obtain⟨d,r,d1,d2,_,_⟩:=cA hs;unfold LW;have hb:VP code=some false:=by
  unfold VP;rw [BW,Ae (by omega)]
 rw [hb];simp only [Aa,Ac];rw [d1];simp only [Aa];obtain⟨m,m1,m2,m3⟩:=JM d2.dev.fl d2.dev.sr;obtain⟨e1,e2,e3⟩:=GO d2.dev m2 rfl;rw [Nr d2.dev.fl,m1,d2.dev.scan.s];simp only [Aa];have a:=d2.dev.scan.len;obtain⟨q,h1,h2⟩:=Bg (body:=λs:Int=>GZ (m,true) r s) (λ(_:Unit) i=>i) r.length (λ_ _=>True) (λq=>q= .inl ())
  (λ_ i hi _=>by
   have hx:=Ab hi;have hm:=AC hi;have b:=(Mc r).1 _ hm;simp only [GZ,AG,Ad hi,Af,AB,hx,Aa];rw [m2.seq,m2.tx,Ae (by omega),Ac,ad1 (by omega)];by_cases hk:r[i].Page.Kind=2
   ·have:=(T3 r).1 _ hm hk;rw [show(r[i].Page.Kind==2)=true by simpa using hk,Ae (by omega)];exact .inl ⟨(),rfl,trivial⟩
   rw [show(r[i].Page.Kind==2)=false by simpa using hk]
   exact .inl ⟨(),rfl,trivial⟩)
  (λ_ _=>⟨_,by simp only [GZ,AG,Ap,Av,Ac],rfl⟩) (s:=()) trivial
 have h1':Au (λs:Int=>GZ (m,true) r s) 0=some q:=h1;rw [h1',h2];simp only [Aa,B6];obtain⟨n,n1,n2,n3,n4,n5⟩:=UX (n:=5) (by omega);have hn:MV 5=some (n,true):=by
  unfold MV;unfold KY at n1;rw [e7];rw [show((5:Nat):Int)=5 from rfl]at n1;have hf:=S5 (n:=5) (by omega);rw [show((5:Nat):Int)=5 from rfl]at hf;rw [hf]at n1⊢;simp only [Aa,Aj,Ac]at n1⊢;rw [Nr (fJ (n:=5) (by omega))];exact n1
 rw [hn];simp only [Aa,Af];rw [Tb d2.dev,Tb m2,UQ m2.st d2.dev.st,Ad ⟨e1,e2⟩];simp only [Aa,Af];have hz:(ln n.Store.Vols==0)=true:=by
  have:=BR List.length n3;rw [JP]at this;rw [BW,this];rfl
 have hq:n.Seq=1:=by rw [n2.dev.seq];rfl
 rw [m2.seq,d2.dev.seq,m2.tx,d2.dev.tx,e3,hz,hq];simp
theorem fnMounts_true (code:List Int) (hc:ol (oK .u8) code):LW code=some true:=by
 by_cases h:code.length<=1048576
 ·exact Xb h
 unfold LW;have hb:VP code=some true:=by
  unfold VP;rw [BW,Ad (by omega)]
 rw [hb];rfl
end Go.TI
