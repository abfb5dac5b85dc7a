/- A page of a chunk that no transaction behind it names. No condition; no program is in sight. -/
import Derived.Test.YtdhemppeejlbeabGreatORP3
set_option linter.unusedVariables false
set_option linter.unusedSimpArgs false
namespace Go.TI
open Go
structure Lw (c:Cf):Prop where
 i0:0<=c.i_
 i1:c.i_<=(c.b_.length:Int)
 len:c.b_.length<=1048576
theorem tE (a:Int):0<=zI .i64 a 255/\zI .i64 a 255<=255:=by
 unfold zI;have h:(BitVec.ofInt IntKind.i64.bits a&&&BitVec.ofInt IntKind.i64.bits 255).toNat<=255:=by
  rw [BitVec.toNat_and];refine H7 Nat.and_le_right ?_;exact Nat.le_of_eq rfl
 rw [N2 (by omega) (by omega)];omega
variable {c:Cf} {r:List A4} {n:Nat} {d:Bc} {code l:List Int} {q:dC} {s:Store} {f:Flash} {z:ByteArray}
theorem XD (h:Lw c):∃v c',Jp c=some (v,c')/\Lw c'/\0<=v/\v<=255:=by
 have:=h.i0;have:=h.i1;have:=h.len;unfold Jp;by_cases e:c.i_<ln c.b_
 ·rw [Ad e,Af,Qs h.i0 (by rw [BW]at e;exact e)];rw [BW]at e;simp only [Aa];rw [Cx (a:=c.i_) (by omega) (by omega)];exact⟨_,_,rfl,⟨by show 0<=c.i_+1;omega,by show c.i_+1<=(c.b_.length:Int);omega,h.len⟩,tE _⟩
 rw [Ae e,Ac];exact⟨_,_,rfl,⟨h.i0,h.i1,h.len⟩,tE _⟩
theorem AAm {a n:Int} (h0:0<=a) (hn:0<n):∃v,rm .i64 a n=some v/\0<=v/\v<n:=by
 unfold rm;rw [Ax (by omega),Kc h0];exact⟨_,rfl,Int.emod_nonneg _ (by omega),Int.emod_lt_of_pos _ hn⟩
theorem Ro (h:Lw c) (n:Int):∃v c',DM c n=some (v,c')/\Lw c'/\0<=v/\(0<n->v<n):=by
 unfold DM;by_cases h0:n<=0
 ·rw [Ad h0];exact⟨_,_,rfl,h,by omega,λhh=>by omega⟩
 rw [Ae h0,Ac];by_cases h1:n<=256
 ·rw [Ad h1,Af];obtain⟨v,c',k1,k2,k3,k4⟩:=XD h;rw [k1];obtain⟨w,w1,w2,w3⟩:=AAm (n:=n) k3 (by omega);simp only [Aa];rw [w1];exact⟨_,_,rfl,k2,w2,λ_=>w3⟩
 rw [Ae h1,Ac];obtain⟨v1,c1,a1,a2,a3,a4⟩:=XD h;obtain⟨v2,c2,b1,b2,b3,b4⟩:=XD a2;obtain⟨v3,c3,d1,d2,d3,d4⟩:=XD b2;obtain⟨v4,c4,e1,e2,e3,e4⟩:=XD d2;rw [a1];simp only [Aa];rw [b1];simp only [Aa];rw [d1];simp only [Aa];rw [e1];simp only [Aa];rw [NI (by omega) (by omega),NI (by omega) (by omega),NI (by omega) (by omega),Cx (a:=v1*16777216) (b:=v2*65536) (by omega) (by omega),Cx (a:=v1*16777216+v2*65536) (b:=v3*256) (by omega) (by omega),Cx (a:=v1*16777216+v2*65536+v3*256) (b:=v4) (by omega) (by omega)];obtain⟨w,w1,w2,w3⟩:=AAm (a:=v1*16777216+v2*65536+v3*256+v4) (n:=n) (by omega) (by omega);rw [w1];exact⟨_,_,rfl,e2,w2,λ_=>w3⟩
theorem Mh (h:Lw c) (hn:0<n):∃(v:Nat) (c':Cf),DM c (n:Int)=some ((v:Int),c')/\Lw c'/\v<n:=by
 obtain⟨v,c',k1,k2,k3,k4⟩:=Ro h (n:Int);have:=k4 (by omega);exact⟨v.toNat,c',by rw [Bq k3];exact k1,k2,by omega⟩
theorem o8 (h:Lw c) (hl:0<l.length):∃v c',LJ c l=some (v,c')/\Lw c'/\v∈l:=by
 unfold LJ;obtain⟨v,c',k1,k2,k3⟩:=Mh h hl;rw [BW,k1];simp only [Aa];rw [AB,Ab k3];exact⟨_,_,rfl,k2,AC k3⟩
theorem zO {l:List ByteArray} (h:Lw c) (hl:0<l.length):∃v c',N6 c l=some (v,c')/\Lw c'/\v∈l:=by
 unfold N6;obtain⟨v,c',k1,k2,k3⟩:=Mh h hl;rw [BW,k1];simp only [Aa];rw [AB,Ab k3];exact⟨_,_,rfl,k2,AC k3⟩
theorem tP (h:Lw c) (n:Int):∃v c',Jn c n=some (v,c')/\Lw c':=by
 unfold Jn;obtain⟨v,c',k1,k2,_⟩:=Ro h n;rw [k1];exact⟨_,_,rfl,k2⟩
theorem Nl (h:Lw c):Lw (Cf.mk c.b_ c.i_ c.h_):=h
theorem AAP (h:code.length<=1048576):∃c,SF code=some c/\Lw c:=by
 unfold SF;obtain⟨b,h1,_⟩:=Bf (body:=λs:Int×Int=>Jo code s.1 s.2) (λ(o:Int) i=>(o,i)) code.length (λ_ _=>True) (λ_=>True)
  (λo i hi _=>by
   have hx:=Ab hi;simp only [Jo,AG,Ad hi,Af,Aa,AB,hx];rw [ad1 (i:=i) (by omega)]
   cases decide ((i:Int)<4000)with
   |true=>exact .inl ⟨_,rfl,trivial⟩
   |false=>exact .inr ⟨_,rfl,trivial⟩)
  (λo _=>⟨o,by simp only [Jo,AG,Aq,Aw,Ac,Aa],trivial⟩) (s:=ad 36501 (ln code)) trivial
 have h1':Av (λs:Int×Int=>Jo code s.1 s.2) (ad 36501 (ln code),0)=some b:=h1;rw [h1'];exact⟨_,rfl,⟨EG _,by show(0:Int)<=_;omega,h⟩⟩
def uK:List ByteArray:=[(bs []),(bs [97]),(bs [98,98]),(bs [97,98,99,100,97,98,99,100,97,98,99,100]),(bs [104,101,108,108,111]),(bs [104,101,108,108,111,32,104,101,108,108,111,32,104,101,108,108,111]),(bs [122,122,122,122,122,122,122,122,122,122,122,122]),(bs [113,49]),(bs [113,50]),(bs [113,51])]
theorem zJ (h:Lw c):∃v c',QE c=some (v,c')/\Lw c'/\v∈uK:=by
 unfold QE;obtain⟨v,c',k1,k2,k3⟩:=zO h (l:=uK) (by simp [uK]);have e:N6 c uK=some (v,c'):=k1;unfold uK at e;rw [e];exact⟨_,_,rfl,k2,k3⟩
structure wR (q:dC):Prop where
 kind:1<=q.Kind/\q.Kind<=6
 vol:1<=q.Vol/\q.Vol<=3
 rest:(q.Kind=1/\q.Text∈uK/\(0<=q.Sector/\q.Sector<=15)/\q.Of=0)\/(q.Kind≠1/\L q.Text=[]/\(((q.Kind=2\/q.Kind=6)/\(0<=q.Sector/\q.Sector<=15)/\q.Of=0)\/(q.Sector=0/\((q.Kind=4/\1<=q.Of/\q.Of<=9)\/((q.Kind=3\/q.Kind=5)/\q.Of=0)))))
theorem zQ (h:Lw c) (d:Bc) (hv:d.Store.Vols.length<=3) (j:∀v∈d.Store.Vols,1<=v.Id/\v.Id<=3):∃q c',QF c d=some (q,c')/\Lw c'/\wR q:=by
  unfold QF;obtain⟨k,c1,a1,a2,a3⟩:=o8 h (l:=[1,1,1,1,1,1,2,3,4,5,6]) (by simp);rw [a1];simp only [Aa];obtain⟨v2,c2,b1,b2,b3,b4⟩:=Ro a2 3;have m:1<=k/\k<=6:=by simp at a3;omega
  have s:ad 1 v2=1+v2:=Cx (by omega) (by omega);have u:=b4 (by omega);rw [b1];simp only [Aa]
  have J1:∃x y c3,(bif((ln d.Store.Vols)==0)then(some (3,(ad 1 v2),c2.b_,c2.i_,c2.h_))
 else((bif(k !=3)then(bif(k !=4)then((Jn c2 8).bind λv3=>
 some ((!v3.1),v3.2.b_,v3.2.i_,v3.2.h_))
 else(some (false,c2.b_,c2.i_,c2.h_)))
 else(some (false,c2.b_,c2.i_,c2.h_)):Option (Bool×List Int×Int×Int)).bind λj2=>
 bif j2.1 then((DM (Cf.mk j2.2.1 j2.2.2.1 j2.2.2.2) (ln d.Store.Vols)).bind λv4=>
 (gi d.Store.Vols v4.1).bind λx1=>
 some (k,x1.Id,v4.2.b_,v4.2.i_,v4.2.h_))
 else(some (k,(ad 1 v2),j2.2.1,j2.2.2.1,j2.2.2.2))):Option (Int×Int×List Int×Int×Int))=some (x,y,Cf.b_ c3,c3.i_,c3.h_)/\Lw c3/\(1<=x/\x<=6)/\1<=y/\y<=3:=by
   cases hz:(ln d.Store.Vols==0)with
   |true=>exact⟨_,_,c2,rfl,b2,by omega,by omega,by omega⟩
   |false=>
    simp only [Ac];have n:0<d.Store.Vols.length:=by
     rw [Dz,BW]at hz;omega
    have J2:∃b c3,(bif(k !=3)then(bif(k !=4)then((Jn c2 8).bind λv3=>some ((!v3.1),v3.2.b_,v3.2.i_,v3.2.h_))else(some (false,c2.b_,c2.i_,c2.h_)))else(some (false,c2.b_,c2.i_,c2.h_)):Option (Bool×List Int×Int×Int))=some (b,Cf.b_ c3,c3.i_,c3.h_)/\Lw c3:=by
     cases(k !=3)with
     |false=>exact⟨_,c2,rfl,b2⟩
     |true=>
      cases(k !=4)with
      |false=>exact⟨_,c2,rfl,b2⟩
      |true=>
       obtain⟨v3,c3,d1,d2⟩:=tP b2 8;simp only [Af];rw [d1];exact⟨_,c3,rfl,d2⟩
    obtain⟨b,c3,e1,e2⟩:=J2;rw [e1];simp only [Aa]
    cases b with
    |false=>exact⟨_,_,c3,rfl,e2,m,by omega,by omega⟩
    |true=>
     simp only [Af];obtain⟨v4,c4,f1,f2,f3⟩:=Mh (Nl e2) n;rw [BW,f1];simp only [Aa];rw [AB,Ab f3];exact⟨_,_,c4,rfl,f2,m,j _ (AC f3)⟩
  obtain⟨x,y,c3,j1,j1c,jx,jy⟩:=J1;rw [j1];simp only [Aa];have J3:∃b c4,(bif(x==5)then((Jn (Cf.mk c3.b_ c3.i_ c3.h_) 3).bind λv8=>some ((!v8.1),v8.2.b_,v8.2.i_,v8.2.h_))else(some (false,c3.b_,c3.i_,c3.h_)):Option (Bool×List Int×Int×Int))=some (b,Cf.b_ c4,c4.i_,c4.h_)/\Lw c4:=by
   cases(x==5)with
   |false=>exact⟨_,c3,rfl,j1c⟩
   |true=>
    obtain⟨v8,c4,d1,d2⟩:=tP (Nl j1c) 3;simp only [Af];rw [d1];exact⟨_,c4,rfl,d2⟩
  obtain⟨b,c4,j3,j3c⟩:=J3;rw [j3];simp only [Aa,T1];have a:1<=(bif b then(1:Int)else x)/\(bif b then(1:Int)else x)<=6:=by cases b<;>simp<;>omega
  generalize (bif b then(1:Int)else x)=j4 at a
  cases o:(j4==1)with
  |true=>
   simp only [Af];obtain⟨t,c5,t1,t2,t3⟩:=zJ (Nl j3c);rw [t1];simp only [Aa];obtain⟨v10,c6,u1,u2,u3,u4⟩:=Ro t2 16;rw [u1];have:=u4 (by omega);have hj:=Dn.1 o;exact⟨_,_,rfl,u2,⟨a,jy,.inl ⟨hj,t3,by show 0<=v10/\v10<=15;omega,rfl⟩⟩⟩
  |false=>
   simp only [Ac];have e:j4≠1:=by simpa using o
   have p:(bif(j4==2)then(j4==2)else(j4==6))=decide (j4=2\/j4=6):=by
    by_cases e2:j4=2
    ·rw [e2];rfl
    rw [show(j4==2)=false by simpa using e2,Ac];by_cases e6:j4=6
    ·rw [e6];rfl
    rw [show(j4==6)=false by simpa using e6,Ae (by omega)]
   rw [p];by_cases g:j4=2\/j4=6
   ·rw [Ad g];simp only [Af];obtain⟨v11,c6,u1,u2,u3,u4⟩:=Ro (Nl j3c) 16;rw [u1];have:=u4 (by omega);exact⟨_,_,rfl,u2,⟨a,jy,.inr ⟨e,DP _,.inl ⟨g,by show 0<=v11/\v11<=15;omega,rfl⟩⟩⟩⟩
   rw [Ae g];simp only [Ac]
   cases f:(j4==4)with
   |true=>
    simp only [Af];obtain⟨v12,c6,u1,u2,u3,u4⟩:=Ro (Nl j3c) 3;have h44:=Dn.1 f;have:=u4 (by omega);rw [u1];simp only [Aa]
    cases r:d.Store.Vols with
    |nil=>
     rw [show decide (ln ([]:List Vol)>0)=false from rfl];exact⟨_,_,rfl,u2,⟨a,jy,.inr ⟨e,DP _,.inr ⟨rfl,.inl ⟨h44,by show 1<=ad 1 v12/\ad 1 v12<=9;rw [Cx (by omega) (by omega)];omega⟩⟩⟩⟩⟩
    |cons v vs=>
     rw [Ad (by rw [BW,Az];omega:ln (v::vs)>0),show gi (v::vs) 0=some v from AB (i:=0)];have:=j v (by rw [r];simp);exact⟨_,_,rfl,u2,⟨a,jy,.inr ⟨e,DP _,.inr ⟨rfl,.inl ⟨h44,by show 1<=v.Id/\v.Id<=9;omega⟩⟩⟩⟩⟩
   |false=>
    have h44:j4≠4:=by simpa using f
    exact⟨_,_,rfl,Nl j3c,⟨a,jy,.inr ⟨e,DP _,.inr ⟨rfl,.inr ⟨by show j4=3\/j4=5;omega,rfl⟩⟩⟩⟩⟩
theorem tB (h:3<=n/\n<=10):BL (Flash.mk (List.replicate n (Block.mk false 0 Pk))):=by
 refine⟨by simpa using h,λb hb=>?_⟩;rw [Dy hb];exact f7 ⟨by omega,by omega⟩
theorem aJ (h:3<=n/\n<=10):O2 (n:Int)=some (Flash.mk (List.replicate n (Block.mk false 0 Pk)),true):=by
 unfold O2;rw [Ez,Ad (by omega)];simp only [Aa,Ak,Ac];have q:=jA (body:=λs:Int×List Block=>IK (n:Int) s.1 s.2) n (λ_=>Block.mk false 0 Pk)
  (λi a hi ho=>by
   simp only [IK];rw [Ad (by omega:(i:Int)<(n:Int)),Af,Zf];simp only [Aa];rw [Cq (by simp;omega)];simp only [Aa]
   rw [ad1 (by omega)])
  (λa=>by simp only [IK];rw [Ae (by omega),Ac])
 rw [q];simp only [Aa];rw [Je,Ch]
theorem YV:∀(n:Nat) (i:Int),JQ i (List.replicate n (Block.mk false 0 Pk))=[]
 |0,i=>rfl
 |n+1,i=>by
  rw [Gf,JQ,YV n (i+1),WL i 0 _ (λy hy=>by rw [Dy hy];simp)];rfl
theorem gO (h:3<=n/\n<=10):∃d,MX (n:Int)=some (d,true)/\L8 d []/\BK d.Store=[]/\d.Store.Next=1/\d.Flash=Flash.mk (List.replicate n (Block.mk false 0 Pk)):=by
 have hP:=tB h;have b:SR (JQ 0 (Flash.mk (List.replicate n (Block.mk false 0 Pk))).Blocks) []:=by
  rw [YV];exact⟨List.Pairwise.nil,λ_=>rfl⟩
 obtain⟨d,u1,u2,u3⟩:=Lq hP b;have a:=u2.ab;have:Kx (CZ (Bx []))=([],1):=rfl;rw [this]at a
 injection a with e1 e2
 refine⟨d,?_,⟨u2,⟨⟨by simp,by simp,by simp,by simp,by simp,by simp⟩,List.Pairwise.nil,⟨λy hy=>by cases hy⟩⟩,?_⟩,e1,e2,u3⟩
 ·unfold MX;rw [aJ h];simp only [Aa,Ak,Ac];rw [u1];rfl
 rw [e1];refine⟨λc hc=>?_,λc c' hc=>?_⟩
 ·obtain⟨_,p,hp,_⟩:=hc;cases hp
 obtain⟨_,p,hp,_⟩:=hc;cases hp
structure tV (d:Bc) (r:List A4):Prop where
 ids:∀p∈BK d.Store,1<=p.1/\p.1<=3
 pg:∀y∈r,y.Page.Kind=1->y.Page.Tx<=13/\∃s∈uK,RE y.Page.Text=some s
structure Ext (d:Bc) (r:List A4):Prop extends tV d r where
 tx:D0 r<=1000
 sq:Da r<=100000
 wear:IA d.Flash 1000
theorem wR.text (h:wR q):q.Text∈uK:=by
 rcases h.rest with⟨_,h2,_⟩|⟨_,h2,_⟩
 ·exact h2
 rw [show q.Text=bs []from Ij (by rw [h2,DP])];simp [uK]
theorem tV.step {d':Bc} {r':List A4} (h:tV d r) (hq:wR q) (hn:d.Store.Next<=13) (hf:tU r r' d.Store.Next q.Text) (hi:zY d d' q.Vol):tV d' r':=by
 refine⟨λp hp=>?_,λy hy hk=>?_⟩
 ·rcases hi p hp with⟨p',h1,h2⟩|h1
  ·rw [<-h2];exact h.ids p' h1
  rw [h1];exact hq.vol
 rcases hf.1 y hy hk with⟨z,z1,z2,z3,z4⟩|⟨h1,h2⟩
 ·have:=h.pg z z1 z2;rw [z3,z4]at this;exact this
 exact⟨by omega,_,hq.text,h2⟩
theorem e8 (h:Lw c):∃d c' r,MP c=some (d,c')/\Lw c'/\L8 d r/\d.Store.Next<=13/\Ext d r:=by
 unfold MP;obtain⟨v,c1,a1,a2,a3⟩:=Mh h (n:=4) (by omega);rw [show((4:Nat):Int)=4 from rfl]at a1;rw [a1];simp only [Aa];rw [Cx (by omega) (by omega),show(5:Int)+(v:Int)=((5+v:Nat):Int) by omega];obtain⟨d0,b1,b2,b3,b4,b5⟩:=gO (n:=5+v) (by omega);rw [b1];simp only [Aa];obtain⟨a,h1,d,cc,r,h2,h3,h4,h5,h6⟩:=Bf (body:=λs:Int×List Block×List Vol×List BI×Int×Int×Int×Int×List Int×Int×Int=>Gs s.1 s.2.1 s.2.2.1 s.2.2.2.1 s.2.2.2.2.1 s.2.2.2.2.2.1 s.2.2.2.2.2.2.1 s.2.2.2.2.2.2.2.1 s.2.2.2.2.2.2.2.2.1 s.2.2.2.2.2.2.2.2.2.1 s.2.2.2.2.2.2.2.2.2.2)
  (λ(o:Bc×Cf) i=>(i,o.1.Flash.Blocks,o.1.Store.Vols,o.1.Store.Arena.Knots,o.1.Store.Next,o.1.Seq,o.1.Tx,o.1.Base,o.2.b_,o.2.i_,o.2.h_)) 12
  (λi o=>Lw o.2/\(∃r,L8 o.1 r/\tV o.1 r/\D0 r<=1+21*i/\Da r<=1+4010*i/\IA o.1.Flash (20*i))/\o.1.Store.Next<=1+i)
  (λa=>∃d cc r,a=(d.Flash.Blocks,d.Store.Vols,d.Store.Arena.Knots,d.Store.Next,d.Seq,d.Tx,d.Base,Cf.b_ cc,cc.i_,cc.h_)/\Lw cc/\L8 d r/\d.Store.Next<=13/\Ext d r)
  (λo i hi hs=>by
   obtain⟨e,cu⟩:=o;obtain⟨k1,⟨r,k2,kx,kt,kq,kw⟩,k3⟩:=hs;simp only at k1 k2 k3 kx kw;have f:Bc.mk (Flash.mk e.Flash.Blocks) (Store.mk e.Store.Vols (Arena.mk e.Store.Arena.Knots) e.Store.Next) e.Seq e.Tx e.Base=e:=rfl;simp only [Gs];rw [f];obtain⟨w,c3,w1,w2,w3⟩:=Mh (Nl k1) (n:=12) (by omega);rw [show((12:Nat):Int)=12 from rfl]at w1;rw [w1];simp only [Aa];by_cases b:(i:Int)<(w:Int)
   ·rw [Ad b,Af];obtain⟨q,c4,q1,q2,q3⟩:=zQ w2 e k2.dev.st.len (λv hv=>kx.ids (v.Id,E9 e.Store.Arena.Knots v.Root) (AJ.2 ⟨v,hv,rfl⟩));rw [q1];simp only [Aa];obtain⟨d',steps,t,no,r',s1,s2,s3,s4,s5,s6,s7⟩:=wN k2 (λx hx=>by have:=kw x hx;omega) q;rw [s1];simp only [Aa];rw [ad1 (by omega)];exact .inl ⟨(d',c4),rfl,q2,⟨r',s2,kx.step q3 (by omega) s5 s6,by have:=s5.2.1;omega,by have:=s5.2.2;omega,λx hx=>by have:=s7 _ kw x hx;omega⟩,by show d'.Store.Next<=_;omega⟩
   rw [Ae b,Ac]
   exact .inr ⟨_,rfl,e,c3,r,rfl,w2,k2,by omega,⟨kx,by omega,by omega,λx hx=>by have:=kw x hx;omega⟩⟩)
  (λo hs=>by
   obtain⟨e,cu⟩:=o;obtain⟨k1,⟨r,k2,kx,kt,kq,kw⟩,k3⟩:=hs;simp only at k1 k2 k3 kx kw;simp only [Gs];obtain⟨w,c3,w1,w2,w3⟩:=Mh (Nl k1) (n:=12) (by omega);rw [show((12:Nat):Int)=12 from rfl]at w1;rw [show((12:Nat):Int)=12 from rfl,w1];simp only [Aa];rw [Ae (by omega:¬(12:Int)<(w:Int)),Ac]
   exact⟨_,rfl,e,c3,r,rfl,w2,k2,by omega,⟨kx,by omega,by omega,λx hx=>by have:=kw x hx;omega⟩⟩) (s:=(d0,c1)) ⟨a2,⟨[],b2,⟨λp hp=>(by rw [b3]at hp;cases hp),λy hy=>(by cases hy)⟩,by simp [D0],by simp [Da],λx hx=>by
    rw [b5]at hx;rw [Dy hx]
    exact EG _⟩,by show d0.Store.Next<=_;omega⟩
 have h1':Av (λs:Int×List Block×List Vol×List BI×Int×Int×Int×Int×List Int×Int×Int=>Gs s.1 s.2.1 s.2.2.1 s.2.2.2.1 s.2.2.2.2.1 s.2.2.2.2.2.1 s.2.2.2.2.2.2.1 s.2.2.2.2.2.2.2.1 s.2.2.2.2.2.2.2.2.1 s.2.2.2.2.2.2.2.2.2.1 s.2.2.2.2.2.2.2.2.2.2) (0,d0.Flash.Blocks,d0.Store.Vols,d0.Store.Arena.Knots,d0.Store.Next,d0.Seq,d0.Tx,d0.Base,c1.b_,c1.i_,c1.h_)=some a:=h1;rw [h1',h2];exact⟨d,cc,r,rfl,h3,h4,h5,h6⟩
theorem cZ (h:code.length<=1048576):∃d r,LM code=some d/\L8 d r/\d.Store.Next<=13/\Ext d r:=by
 unfold LM;obtain⟨c,c1,c2⟩:=AAP h;obtain⟨d,c',r,d1,d2,d3,d4⟩:=e8 c2;rw [c1];simp only [Aa];rw [d1];exact⟨d,r,rfl,d3,d4⟩
theorem Yo (h:Lv d r) (c:Int):∃u ok,Ln d.Flash c=some (u,ok)/\CO r c=(if ok=true then some u else none):=by
 obtain⟨u,ok,h1,h2⟩:=dB h.scan c;obtain⟨u',ok',k1,k2⟩:=W2 h.pages c;rw [h1]at k1
 injection k1 with k1
 injection k1 with e1 e2
 subst e1 e2;exact⟨u,ok,h2,k2⟩
theorem Ym (hr:Ge r):∃l,Av (λs:List Int×Int=>J5 r s.1 s.2) ([],0)=some l/\l.Nodup/\(∀x,x∈l↔∃y∈r,y.Page.Kind=2/\y.Page.Tx=x)/\l.length<=r.length:=by
 have c:=hr.len;obtain⟨l,h1,h2,h3,h4⟩:=Bf (body:=λs:List Int×Int=>J5 r s.1 s.2) (λ(o:List Int) i=>(o,i)) r.length (λi o=>o.Nodup/\(∀x,x∈o↔∃y∈r.take i,y.Page.Kind=2/\y.Page.Tx=x)/\o.length<=i) (λo=>o.Nodup/\(∀x,x∈o↔∃y∈r,y.Page.Kind=2/\y.Page.Tx=x)/\o.length<=r.length)
  (λo i hi ho=>by
   obtain⟨o1,o2,o3⟩:=ho;have hx:=Ab hi;have et:r.take (i+1)=r.take i++ [r[i]]:=by rw [Ap hi]
   refine .inl ?_;simp only [J5,AG,Ad hi,Af,AB,hx,Aa];rw [ad1 (by omega),VO o _ (by omega)]
   cases hk:(r[i].Page.Kind==2)with
   |false=>
    simp only [Ac,Aa];refine⟨o,rfl,o1,λx=>?_,by omega⟩;rw [o2,et];constructor
    ·rintro⟨y,y1,y2⟩;exact⟨y,A8 _ y1,y2⟩
    rintro⟨y,y1,y2,y3⟩;rw [Ai,Ay]at y1
    rcases y1 with y1|rfl
    ·exact⟨y,y1,y2,y3⟩
    rw [y2]at hk;simp at hk
   |true=>
    have hk':r[i].Page.Kind=2:=by simpa using hk
    simp only [Af,Aa]
    cases hc:o.contains r[i].Page.Tx with
    |true=>
     have hc':r[i].Page.Tx∈o:=by simpa using hc
     simp only [Ak,Ac];refine⟨o,rfl,o1,λx=>?_,by omega⟩;rw [o2,et];constructor
     ·rintro⟨y,y1,y2⟩;exact⟨y,A8 _ y1,y2⟩
     rintro⟨y,y1,y2,y3⟩;rw [Ai,Ay]at y1
     rcases y1 with y1|rfl
     ·exact⟨y,y1,y2,y3⟩
     rw [<-y3];exact(o2 _).1 hc'
    |false=>
     have hc':r[i].Page.Tx∉o:=by
      intro h;rw [List.contains_iff_mem.2 h]at hc;cases hc
     simp only [AH,Af];rw [Cq (by simp only [An];omega)];refine⟨_,rfl,?_,λx=>?_,by simp;omega⟩
     ·rw [Bo];exact⟨o1,by simp,λa ha b hb e=>by rw [Ay]at hb;rw [e,hb]at ha;exact hc' ha⟩
     rw [Ai,Ay,o2,et];constructor
     ·rintro(⟨y,y1,y2⟩|rfl)
      ·exact⟨y,A8 _ y1,y2⟩
      exact⟨r[i],AK _ (Ay.2 rfl),hk',rfl⟩
     rintro⟨y,y1,y2,y3⟩;rw [Ai,Ay]at y1
     rcases y1 with y1|rfl
     ·exact .inl ⟨y,y1,y2,y3⟩
     exact .inr y3.symm)
  (λo ho=>⟨o,by simp only [J5,AG,Aq,Aw,Ac],by rw [AL]at ho;exact ho⟩) (s:=[]) ⟨C0,by simp,by simp⟩
 exact⟨l,h1,h2,h3,h4⟩
theorem nC (hr:Ge r) (h1:l.Nodup) (h2:∀x,x∈l↔∃y∈r,y.Page.Kind=2/\y.Page.Tx=x):XH l=Dj r:=by
 obtain⟨n1,n2,n3⟩:=G8 r (λy hy=>(hr.tx y hy).1);refine VU ?_ n1 (λx=>?_)
 ·have hs:(XH l).Pairwise λx y=>x<=y:=by
   have:=List.pairwise_mergeSort (le:=λx y:Int=>decide (x<=y)) (λa b c h1 h2=>by simp at*;omega) (λa b=>by simp;omega) l;unfold XH;exact this.imp (λh=>by simpa using h)
  have hd:(XH l).Nodup:=by
   unfold XH;exact(List.mergeSort_perm l _).nodup_iff.2 h1
  unfold asc;exact(hs.and hd).imp (λh=>by have:=h.1;have:=h.2;omega)
 rw [n2,<-h2];unfold XH;rw [List.mem_mergeSort]
theorem YP (t:ByteArray) (ht:(L t).length<=20000):∀(n a:Nat) (c:List Dk),(L t).length-a<=n->a<=(L t).length->c.length<=a->Av (λs:List Dk×Int=>KP t s.1 s.2) (c,(a:Int))=Av (λs:List Dk×ByteArray×Int×Bool=>DG t s.1 s.2.1 s.2.2.1 s.2.2.2) (c,t,(a:Int),false)
 |n,a,c,hn,ha,ho=>by
  rw [AA,AA];simp only [DG,KP];rw [BJ];by_cases d:a<(L t).length
  ·rw [Ad (by omega:(a:Int)<((L t).length:Int))];simp only [Af,Aa,AH];rw [EM t d,ad1 (by omega)];obtain⟨r1,a1,a2,a3⟩:=Ii t ((a+1:Nat):Int) (by omega) ⟨by omega,by omega⟩;have f:oI r1.2.1:=by
    rcases a3 with⟨_,_,e⟩|⟨_,_,b,_,_,e,_,_,e2,_⟩
    ·rw [e];exact⟨by omega,by omega⟩
    rw [e];exact⟨by omega,by omega⟩
   obtain⟨r2,b1,b2,b3⟩:=Ii t r1.2.1 (by omega) f;rw [a2];simp only [Aa];rw [b2];simp only [Aa];have l1:Do (El.mk t ((a+1:Nat):Int) false)=some (if r1.2.2=true then(r1.1,El.mk t r1.2.1 false)else(0,El.mk t ((a+1:Nat):Int) true)):=by
    unfold Do;simp only;rw [a1];cases h:r1.2.2<;>simp [h]
   rw [l1]
   cases h1:r1.2.2 with
   |false=>
    simp only [BP,Ga,Aa,AH,Af];have l2:Do (El.mk t ((a+1:Nat):Int) true)=some (0,El.mk t ((a+1:Nat):Int) true):=by
     unfold Do;simp only;rw [a1];simp
    rw [l2];simp only [Aa,Af]
   |true=>
    simp only [BX,Aa,Ak,Ac];have l2:Do (El.mk t r1.2.1 false)=some (if r2.2.2=true then(r2.1,El.mk t r2.2.1 false)else(0,El.mk t r1.2.1 true)):=by
     unfold Do;simp only;rw [b1];cases h:r2.2.2<;>simp [h]
    rw [l2]
    cases h2:r2.2.2 with
    |false=>
     simp only [BP,Ga,Aa,AH,Af]
    |true=>
     simp only [BX,Aa,Ak,Ac];obtain⟨v,c1,c2,_⟩:=gF (Dk.mk (qu (IntKind.i64.wrap ((L t)[a].toNat:Int)) 16) (Int.tmod (IntKind.i64.wrap ((L t)[a].toNat:Int)) 16) r1.1 r2.1);rw [c1,c2];simp only [Aa]
     cases v with
     |false=>simp only [AH,Af]
     |true=>
      simp only [Ak,Ac];rw [Cq (by simp;omega)];simp only [Aa]
      rcases b3 with⟨e,_⟩|⟨_,aa,b,m,k1,k2,k3,k4,k5,_⟩
      ·rw [h2]at e;cases e
      rcases a3 with⟨e,_⟩|⟨_,aa',b',m',p1,p2,p3,p4,p5,_⟩
      ·rw [h1]at e;cases e
      rw [k2]
      match n,hn with
      |n+1,hn=>exact YP t ht n b _ (by omega) k5 (by simp;omega)
      |0,hn=>omega
  rw [Ae (by omega)];simp only [Ac,Aa]
theorem Yl (t:ByteArray) (ht:(L t).length<=20000):OT t=HS t:=by
 have h:=YP t ht (L t).length 0 [] (by omega) (by omega) (by simp);rw [show((0:Nat):Int)=0 from rfl]at h;unfold OT HS;rw [h]
def AAh:Page:=Page.mk 0 0 0 0 0 (bs [])
theorem Zh (r:List A4) (hl:r.length<=1048576) (t a c:Int) (h:(a=0/\c=0)\/(0<a/\0<c)):Qk r t a c=some (match P8 r t a c with|some y=>(y.Page,true)|none=>(AAh,false)):=by
 have hp:∀y:A4,(bif(y.Page.Kind==2)then(bif(y.Page.Tx==t)then(bif(y.Page.Part==a)then(bif(c==0)then(some true)else(some (y.Page.Count==c)))else(some false))else(some false))else(some false):Option Bool)=some (gU t a c y):=by
  intro y;unfold gU;cases y.Page.Kind==2<;>cases y.Page.Tx==t<;>cases y.Page.Part==a<;>simp only [Af,Ac,Bool.false_and,CJ]
  rcases h with⟨rfl,rfl⟩|⟨h1,h2⟩
  ·simp
  rw [show(c==0)=false by simp;omega];simp [h1]
 unfold Qk;obtain⟨b,h1,h2⟩:=Bf (body:=λs:Int=>Jx r t a c s) (λ(_:Unit) i=>i) r.length (λi _=>∀(j:Nat) x,j<i->r[j]?=some x->gU t a c x=false) (λb=>match P8 r t a c with|some y=>b= .inr (y.Page,true)|none=>b= .inl ())
  (λ_ i hi hs=>by
   have hx:=Ab hi;simp only [Jx,AG,Ad hi,Af,AB,hx,Aa];rw [hp,ad1 (by omega)];simp only [Aa]
   cases e:gU t a c r[i]with
   |true=>
    refine .inr ⟨_,rfl,?_⟩;unfold P8;rw [cI r _ hs hx e]
   |false=>
    refine .inl ⟨(),by simp only [Ac],λj x hj d=>?_⟩;by_cases q:j=i
    ·subst q;rw [hx]at d;injection d with d;rw [<-d];exact e
    exact hs j x (by omega) d)
  (λ_ hs=>⟨.inl (),by simp only [Jx,AG,Aq,Aw,Ac],by
   unfold P8
   rw [mS r _ (λj x hx=>hs j x (Ag.1 hx).1 hx)]⟩) (s:=()) (λj x hj=>by omega)
 have h1':Av (λs:Int=>Jx r t a c s) 0=some b:=h1;rw [h1']
 cases hf:P8 r t a c with
 |none=>rw [hf]at h2;simp only at h2;rw [h2];rfl
 |some y=>rw [hf]at h2;simp only at h2;rw [h2];rfl
theorem sG (r:List A4) (hr:Ge r) (t:Int) (v:Page×Bool) (hv:1<=v.1.Count/\v.1.Count<=9):∀(n:Nat) (a:Int) (text:ByteArray) (seq:Int),a+n=11->1<=a->a<=v.1.Count->(L text).length<=90*a.toNat->
  ∃b,Av (λs:ByteArray×Int×Int=>KK r t v s.1 s.2.1 s.2.2) (text,seq,a)=some b/\(match parts r t n a v.1.Count (L text) seq with
   |none=>b= .inr (Tx.mk 0 0 [],false)
   |some (x,q)=>∃u,b= .inl (u,q)/\L u=x/\(L u).length<=1000)
 |0,a,text,seq,hn,h1,hc,ht=>by omega
 |n+1,a,text,seq,hn,h1,hc,ht=>by
  rw [AA];simp only [KK,parts];by_cases e:a<v.1.Count
  ·rw [Ad e,Au (.inr e)];simp only [Af];rw [Zh r hr.len t a v.1.Count (.inr ⟨by omega,by omega⟩)];simp only [Aa]
   cases hf:P8 r t a v.1.Count with
   |none=>
      simp only [AH,Af];exact⟨_,rfl,rfl⟩
   |some y=>
    simp only [Ak,Ac];have hy:=Qu hf;have d:=hr.text y hy.1;have c:=mJ hy.2 (by omega);rw [Gd text y.Page.Text (by omega)];simp only [Aa];rw [Cx (by omega) (by omega),c];have es:M2 a seq y=(if y.Page.Seq<seq then y.Page.Seq else seq):=by
     unfold M2;by_cases q:y.Page.Seq<seq
     ·rw [Au (.inr q),Au q]
     rw [Ax (by rintro(h|h);omega;exact q h),Ax q]
    rw [es,<-DB];exact sG r hr t v hv n (a+1) _ _ (by omega) (by omega) (by omega) (by rw [DB,Ah];omega)
  rw [Ae e,Ax (by rintro(h|h);omega;exact e h)];simp only [Ac];exact⟨_,rfl,text,rfl,rfl,by omega⟩
theorem bR (r:List A4) (hr:Ge r) (t:Int):∃x ok,OO r t=some (x,ok)/\H1 r t=(if ok=true then some x else none)/\x.Recs.length<=20000:=by
 unfold OO H1;rw [Zh r hr.len t 0 0 (.inl ⟨rfl,rfl⟩)];simp only [Aa]
 have a:parts r t 11 0 0 [] 0=(match P8 r t 0 0 with
  |none=>none
  |some y=>parts r t 10 1 y.Page.Count (L y.Page.Text) y.Page.Seq):=by
  rw [show(11:Nat)=10+1 from rfl];unfold parts;rw [Au (.inl rfl)]
  cases P8 r t 0 0 with
  |none=>rfl
  |some y=>
   simp only [A5];have:M2 0 0 y=y.Page.Seq:=by unfold M2;rw [Au (.inl rfl)]
   rw [this];rfl
 rw [a]
 cases hf:P8 r t 0 0 with
 |none=>exact⟨_,_,rfl,rfl,by simp⟩
 |some y=>
  simp only [Ak,Ac];have hy:=Qu hf;have c:=hr.text y hy.1;have hc:=hr.cnt y hy.1;obtain⟨b,h1,h2⟩:=sG r hr t (y.Page,true) hc 10 1 y.Page.Text y.Page.Seq (by omega) (by omega) hc.1 (by omega);rw [h1];simp only [Aa]
  cases hp:parts r t 10 1 y.Page.Count (L y.Page.Text) y.Page.Seq with
  |none=>
   rw [hp]at h2;simp only at h2;rw [h2];exact⟨_,_,rfl,rfl,by simp⟩
  |some w=>
   obtain⟨x,q⟩:=w;rw [hp]at h2;obtain⟨u,rfl,rfl,h4⟩:=h2;simp only [BA];obtain⟨l,ok,r1,r2,r3⟩:=X8 u (by omega);rw [Yl u (by omega),r1,AAH,r2];simp only [Aa]
   cases ok with
   |true=>exact⟨_,_,rfl,rfl,r3⟩
   |false=>exact⟨_,_,rfl,rfl,r3⟩
theorem fH (r:List A4) (hr:Ge r):Tn r=some (Bx r):=by
 have c:=hr.len;have a:=G8 r (λy hy=>(hr.tx y hy).1);have d:=a.2.2;obtain⟨l,l1,l2,l3,l4⟩:=Ym hr;unfold Tn;rw [l1];simp only [Aa];unfold Wv;rw [Au (by omega),nC hr l2 l3];simp only [Aa];obtain⟨b,h1,h2⟩:=Bf (body:=λs:List Tx×Int=>J4 r (Dj r) s.1 s.2) (λ(o:List Tx) i=>(o,i)) (Dj r).length (λi o=>o=((Dj r).take i).filterMap (H1 r)) (λb=>b=Bx r)
  (λo i hi ho=>by
   have hx:=Ab hi;have et:(Dj r).take (i+1)=(Dj r).take i++ [(Dj r)[i]]:=Ap hi;have e:o.length<=i:=by
    rw [ho];have:=List.length_filterMap_le (H1 r) ((Dj r).take i);rw [AE]at this;omega
   simp only [J4,AG,Ad hi,Af,AB,hx,Aa];rw [ad1 (by omega)];obtain⟨z,ok,k1,k2,k3⟩:=bR r hr (Dj r)[i];rw [k1];simp only [Aa];refine .inl ?_
   cases ok with
   |true=>
    simp only [Af];rw [Cq (by simp only [An];omega)];refine⟨_,rfl,?_⟩;rw [et,J8,ho];simp only [PB,List.filterMap_nil,k2,BX]
   |false=>
    refine⟨o,rfl,?_⟩;rw [et,J8,ho]
    simp [k2])
  (λo ho=>⟨o,by simp only [J4,AG,Aq,Aw,Ac],by rw [ho,AL];rfl⟩) (s:=[]) rfl
 have h1':Av (λs:List Tx×Int=>J4 r (Dj r) s.1 s.2) ([],0)=some b:=h1;rw [h1',h2];rfl
theorem oE (x:Tx):Tj x=some (Zp x):=by
 unfold Tj Zp
 cases h:x.Recs with
 |nil=>rfl
 |cons q m=>
  rw [Ad (by rw [BW,Az];omega:ln (q::m)>0),show gi (q::m) 0=some q from AB (i:=0)];rfl
theorem Yw (h:CV s) (a:List Dk) (hr:a.length<=1048576):OX s a=Ku s a:=by
 have hl:=h.len;have f:=KS h.ar (by have:=h.few;omega);have d:=FH s f (by omega);have c:=Qm s f (by omega);unfold OX Ku;rw [d,c];simp only [Aa];obtain⟨b,h1,h2,_⟩:=Td (body:=λq:Int×List Vol×List BI×Int=>DH s a q.1 q.2.1 q.2.2.1 q.2.2.2) (body':=λq:Int×List Vol×List BI×Int=>Hz s a q.1 q.2.1 q.2.2.1 q.2.2.2) (λ(t:Store) i=>(i,t.Vols,t.Arena.Knots,t.Next)) a.length (λ_ t=>CV t) (λ_=>True)
  (λt i hi hP=>by
   have hx:=Ab hi;have g:Store.mk t.Vols (Arena.mk t.Arena.Knots) t.Next=t:=rfl;have e:=Xp hP a[i];simp only [DH,Hz,AG,Ad hi,Af,AB,hx,Aa];rw [g,kR hP];unfold KJ at e;split at e
   ·rw [e];simp only [Aa,AH,Af];rw [d,c];exact⟨rfl,.inr ⟨_,rfl,trivial⟩⟩
   obtain⟨u,u1,u2,_⟩:=e;rw [u1];simp only [Aa,Ak,Ac];rw [ad1 (by omega)]
   exact⟨by first|rfl|trivial,.inl ⟨u,rfl,u2⟩⟩)
  (λt _=>⟨by simp only [DH,Hz,AG,Aq,Aw,Ac],.inl (t.Vols,t.Arena.Knots,t.Next),by simp only [DH,AG,Aq,Aw,Ac],trivial⟩) (s:=s) h
 have e1:Av (λq:Int×List Vol×List BI×Int=>DH s a q.1 q.2.1 q.2.2.1 q.2.2.2) (0,s.Vols,s.Arena.Knots,s.Next)=some b:=h1;have e2:Av (λq:Int×List Vol×List BI×Int=>Hz s a q.1 q.2.1 q.2.2.1 q.2.2.2) (0,s.Vols,s.Arena.Knots,s.Next)=some b:=h2;rw [e1,e2]
theorem Xg (l:List Tx) (hl:l.length<=1048576) (hr:∀x∈l,x.Recs.length<=20000):Nf l=some (CZ l):=by
 unfold Nf;obtain⟨b,h1,h2⟩:=Bf (body:=λs:Int×Int=>GC l s.1 s.2) (λ(o:Int) i=>(o,i)) l.length (λi o=>o=(kA (l.take i):Int)) (λb=>b=(kA l:Int))
  (λo i hi ho=>by
   have hx:=Ab hi;have et:l.take (i+1)=l.take i++ [l[i]]:=Ap hi;have a:(l.take i).length=i:=by rw [AE];omega
   simp only [GC,AG,Ad hi,Af,AB,hx,Aa];rw [ad1 (by omega),oE];simp only [Aa];refine .inl ?_
   cases hb:Zp l[i]with
   |true=>exact⟨(i:Int),rfl,by rw [et,Pm,Au hb,a]⟩
   |false=>exact⟨o,rfl,by rw [et,Pm,Ax (by rw [hb];simp),ho]⟩)
  (λo ho=>⟨o,by simp only [GC,AG,Aq,Aw,Ac],by rw [ho,AL]⟩) (s:=0) rfl
 have h1':Av (λs:Int×Int=>GC l s.1 s.2) (0,0)=some b:=h1;rw [h1',h2];simp only [Aa];have d:=j9 l;have hd:dr l (kA l:Int) (ln l)=some (CZ l):=by
  unfold dr;rw [BW,Au (by omega),Ba,Ba,AP (by simp)];rfl
 rw [hd];simp only [Aa];obtain⟨b1,b2⟩:=QB l;obtain⟨c,q1,q2⟩:=Bf (body:=λs:List Tx×Int=>GB (CZ l) s.1 s.2) (λ(o:List Tx) i=>(o,i)) (CZ l).length (λi o=>o=(CZ l).take i) (λb=>b=CZ l)
  (λo i hi ho=>by
   have hx:=Ab hi;have e:=hr _ (b2 _ (AC hi));have et:(CZ l).take (i+1)=(CZ l).take i++ [(CZ l)[i]]:=Ap hi;have f:o.length<=1048576:=by rw [ho,AE];omega
   simp only [GB,AG,Ad hi,Af,AB,hx,Aa];rw [K9 (by omega)];simp only [Aa];rw [Cq (by simp only [An];omega)];simp only [Aa];rw [ad1 (by omega)]
   exact .inl ⟨_,rfl,by rw [et,<-ho]⟩)
  (λo ho=>⟨o,by simp only [GB,AG,Aq,Aw,Ac],by rw [ho,AL]⟩) (s:=[]) rfl
 have q1':Av (λs:List Tx×Int=>GB (CZ l) s.1 s.2) ([],0)=some c:=q1;rw [q1',q2];rfl
theorem bY (h:tK f r):Ra f=some (Da r-1):=by
 have a:=h.len;unfold Ra;rw [h.i];simp only [Aa];obtain⟨b,h1,h2⟩:=Bf (body:=λs:Int×Int=>I7 r s.1 s.2) (λ(o:Int) i=>(o,i)) r.length (λi o=>o=Da (r.take i)-1) (λb=>b=Da r-1)
  (λo i hi ho=>by
   have hx:=Ab hi;have et:r.take (i+1)=r.take i++ [r[i]]:=Ap hi;simp only [I7,AG,Ad hi,Af,AB,hx,Aa];rw [ad1 (by omega)];refine .inl ⟨_,rfl,?_⟩;rw [et,V7,ho];by_cases e:r[i].Page.Seq>=Da (r.take i)
   ·rw [Au (by omega),Au e];omega
   rw [Ax (by omega),Ax e])
  (λo ho=>⟨o,by simp only [I7,AG,Aq,Aw,Ac],by rw [ho,AL]⟩) (s:=0) (by simp [Da])
 have h1':Av (λs:Int×Int=>I7 r s.1 s.2) (0,0)=some b:=h1;rw [h1',h2];rfl
theorem jK (r:List A4) (hr:Ge r):Av (λs:Int×Int=>Hy r s.1 s.2) (0,1)=some (D0 r):=by
 have a:=hr.len;obtain⟨b,h1,h2⟩:=Bf (body:=λs:Int×Int=>Hy r s.1 s.2) (λ(o:Int) i=>(i,o)) r.length (λi o=>o=D0 (r.take i)) (λb=>b=D0 r)
  (λo i hi ho=>by
   have hx:=Ab hi;have ht:=hr.tx _ (AC hi);have et:r.take (i+1)=r.take i++ [r[i]]:=Ap hi;simp only [Hy,AG,Ad hi,Af,AB,hx,Aa];rw [ad1 (by omega),Cx (by omega) (by omega)];refine .inl ?_;by_cases e:r[i].Page.Kind=2
   ·rw [show(r[i].Page.Kind==2)=true by simpa using e];refine⟨_,rfl,?_⟩;rw [et,Q8,ho];by_cases e2:r[i].Page.Tx>=D0 (r.take i)
    ·rw [Au (by omega),Au ⟨e,e2⟩]
    rw [Ax (by omega),Ax λhh=>e2 hh.2]
   rw [show(r[i].Page.Kind==2)=false by simpa using e];refine⟨_,rfl,?_⟩
   rw [et,Q8,ho,Ax λhh=>e hh.1])
  (λo ho=>⟨o,by simp only [Hy,AG,Aq,Aw,Ac],by rw [ho,AL]⟩) (s:=1) rfl
 rw [<-h2];exact h1
theorem Xh (l:List Tx) (hl:l.length<=1048576) (hr:∀x∈l,x.Recs.length<=20000):Av (λs:Int×List Vol×List BI×Int×Int=>Gb l s.1 s.2.1 s.2.2.1 s.2.2.2.1 s.2.2.2.2) (0,[],[],1,0)=Av (λs:Int×List Vol×List BI×Int×Int=>Dt l s.1 s.2.1 s.2.2.1 s.2.2.2.1 s.2.2.2.2) (0,[],[],1,0):=by
 obtain⟨b,h1,h2,_⟩:=Td (body:=λs:Int×List Vol×List BI×Int×Int=>Dt l s.1 s.2.1 s.2.2.1 s.2.2.2.1 s.2.2.2.2) (body':=λs:Int×List Vol×List BI×Int×Int=>Gb l s.1 s.2.1 s.2.2.1 s.2.2.2.1 s.2.2.2.2) (λ(o:Store×Int) i=>(i,o.1.Vols,o.1.Arena.Knots,o.1.Next,o.2)) l.length (λ_ o=>CV o.1) (λ_=>True)
  (λo i hi hP=>by
   obtain⟨t,b0⟩:=o;simp only at hP;have hx:=Ab hi;have d:=hr _ (AC hi);have c:Store.mk t.Vols (Arena.mk t.Arena.Knots) t.Next=t:=rfl;simp only [Dt,Gb,AG,Ad hi,Af,AB,hx,Aa];rw [c,Yw hP _ (by omega),ad1 (by omega)];have a:=UY hP l[i].Recs (by omega);unfold OK at a;obtain⟨j,hj⟩:∃j,(bif((i:Int)==0)then(some l[i].Num)else(some b0):Option Int)=some j:=by
    cases((i:Int)==0)with
    |true=>exact⟨_,rfl⟩
    |false=>exact⟨_,rfl⟩
   rw [hj];simp only [Aa];split at a
   ·rw [a];exact⟨rfl,.inl ⟨(t,j),rfl,hP⟩⟩
   obtain⟨u,u1,u2,_⟩:=a;rw [u1]
   exact⟨rfl,.inl ⟨(u,j),rfl,u2⟩⟩)
  (λo _=>⟨by simp only [Dt,Gb,AG,Aq,Aw,Ac],(o.1.Vols,o.1.Arena.Knots,o.1.Next,o.2),by simp only [Dt,AG,Aq,Aw,Ac],trivial⟩) (s:=(Store.mk [] (Arena.mk []) 1,0)) YA
 have e1:Av (λs:Int×List Vol×List BI×Int×Int=>Dt l s.1 s.2.1 s.2.2.1 s.2.2.2.1 s.2.2.2.2) (0,[],[],1,0)=some b:=h1;have e2:Av (λs:Int×List Vol×List BI×Int×Int=>Gb l s.1 s.2.1 s.2.2.1 s.2.2.2.1 s.2.2.2.2) (0,[],[],1,0)=some b:=h2;rw [e1,e2]
theorem N0 (hf:BL f):K0 f=CP f:=by
 obtain⟨r,hs,_⟩:=tJ hf;have hr:=TT hs hf;obtain⟨g1,g2⟩:=Sd hr;obtain⟨b1,b2⟩:=QB (Bx r);have a:=Mn r;have b:Da r<=1000000001:=a.2.2 _ (by omega) (λy hy=>by have:=(hr.seq y hy).2;omega);unfold K0 CP;rw [jU,Oc hf,hs.s,hs.i,FR f hf.cap,cJ,FR f hf.cap,bY hs];unfold Ms OS;simp only [Aa,Ak,Ac];rw [SI r hr,jK r hr,PO r hr,fH r hr];simp only [Aa];rw [PN _ g1 g2,Xg _ g1 g2];simp only [Aa];rw [Xh (CZ (Bx r)) (by omega) (λx hx=>g2 x (b2 x hx)),Cx (by omega) (by omega),show Da r-1+1=Da r by omega]
theorem Zt {r:Int} (h:CV s) (hr:r∈B9 s):Rc s.Arena r=some (E9 s.Arena.Knots r):=by
 obtain⟨l,l1,l2,_⟩:=gR s.Arena (sW h) r;rw [Mw s.Arena (by have:=h.few;omega) h.ar (h.root r hr)]at l1;rw [l2,l1]
theorem Yk {a b:Store} (ha:CV a) (hb:CV b) (e:BK a=BK b) (n:a.Next=b.Next):Ng a b=some true:=by
 have f:=ha.len;have d:a.Vols.length=b.Vols.length:=by rw [<-Ls,<-Ls,e]
 unfold Ng;rw [show(ln a.Vols !=ln b.Vols)=false by rw [BW,BW,d];simp,show(a.Next !=b.Next)=false by rw [n];simp];simp only [Ac,Aa];obtain⟨q,h1,h2⟩:=Bf (body:=λs:Int=>GE a b s) (λ(_:Unit) i=>i) a.Vols.length (λ_ _=>True) (λq=>q= .inl ())
  (λ_ i hi _=>by
   have hx:=Ab hi;have hy:=Ab (show i<b.Vols.length by omega);have c:(BK a)[i]?=(BK b)[i]? :=by rw [e]
   unfold BK at c;rw [AN,AN,hx,hy]at c;simp only [B5,Aj,Bk]at c;obtain⟨e1,e2⟩:=c;simp only [GE,AG,Ad hi,Af,AB,hx,hy,Aa];rw [Zt hb (AJ.2 ⟨_,AC (show i<b.Vols.length by omega),rfl⟩),Zt ha (AJ.2 ⟨_,AC hi,rfl⟩),e1,e2];simp only [Aa,bne_self_eq_false,Ac];generalize hR:E9 b.Arena.Knots b.Vols[i].Root=R;have g:R.length=16:=by rw [<-hR];unfold E9;simp
   obtain⟨z,z1,z2⟩:=Bf (body:=λs:Int=>GD R R s) (λ(_:Unit) i=>i) R.length (λ_ _=>True) (λq=>q= .inl ())
    (λ_ k hk _=>by
     have hx:=Ab hk;simp only [GD,AG,Ad hk,Af,AB,hx,Aa,bne_self_eq_false,Ac];rw [ad1 (by omega)]
     exact .inl ⟨(),rfl,trivial⟩)
    (λ_ _=>⟨_,by simp only [GD,AG,Aq,Aw,Ac],rfl⟩) (s:=()) trivial
   have z1':Av (λs:Int=>GD R R s) 0=some z:=z1;rw [z1',z2];simp only [Aa,BA];rw [ad1 (by omega)]
   exact .inl ⟨(),rfl,trivial⟩)
  (λ_ _=>⟨_,by simp only [GE,AG,Aq,Aw,Ac],rfl⟩) (s:=()) trivial
 have h1':Av (λs:Int=>GE a b s) 0=some q:=h1;rw [h1',h2];rfl
theorem cA (h:Lv d r):OY d=some true:=by
 obtain⟨m,m1,m2,m3⟩:=Lq h.fl h.sr;obtain⟨e1,e2,e3⟩:=GY h m2 rfl;unfold OY;rw [N0 h.fl,m1];simp only [Aa,Af];rw [UP h.st,Yk m2.st h.st e1 e2];simp only [Aa,Af];rw [m2.seq,h.seq,m2.tx,h.tx,e3];simp
theorem tO {s:ByteArray} (hs:(L s).length<=64) (h:Dp s=some (z,true)):(L z).length<=(L s).length+1:=by
 unfold Dp at h;rw [BJ,Ae (by omega),Ac]at h;obtain⟨v1,_,h⟩:=Ar.1 h;obtain⟨v2,_,h⟩:=Ar.1 h;rw [Cx (by omega) (by omega),BJ]at h;by_cases e:((L s).length:Int)+1<=((L v2).length:Int)
 ·rw [Ad e,Af,Gd _ _ (by rw [DP];simp;omega)]at h;simp only [Aa,Aj,Bk,and_true]at h;rw [<-h,DB,DP];simp
 rw [Ae e,Ac]at h;simp only [Aj,Bk,and_true]at h;rw [<-h];omega
theorem packed (s:ByteArray) (hs:(L s).length<=60):∃z,Dp s=some (z,true)/\RE z=some s/\L z≠ []/\(L z).length<=90:=by
 obtain⟨z,h1,h2,h3⟩:=gC s (by omega);have:=tO (by omega) h1;exact⟨z,h1,by unfold RE;rw [h2],λe=>by rw [e]at h3;simp at h3,by omega⟩
def Rt (c:Int):Dk:=Dk.mk 4 1 0 c
theorem VE {c:Int} (h:1<=c/\c<=1000):∀x∈ [Rt c],Gk x=true:=λx hx=>by
 rw [Ay]at hx;subst hx;unfold Gk Rt;simp;omega
theorem WN {c:Int} (h:L8 d r) (hs:d.Seq<=999999900) (ht:d.Tx<=1000000000) (hc:1<=c/\c<=1000) (h1:L z≠ []) (h9:(L z).length<=90) (a:3<=Ju d.Flash):
  ∃steps T g,Dh d [Rt c] z=some (steps,true)/\1<=T.length/\T.length<=9/\MH T=G7 [Rt c]/\(∀t∈T,(L t).length<=90)/\FV d.Flash steps (C9 d c z++Cd (Fo d z) d.Tx T) g/\(∀p∈C9 d c z++Cd (Fo d z) d.Tx T,GS p):=by
 have hq:=h.dev.seqs;have b:1<=d.Seq:=by rw [h.dev.seq];exact(Mn r).2.1
 have e:1<=d.Tx:=by rw [h.dev.tx];exact(TC r).2.1
 obtain⟨steps',w1⟩:=gV h.dev.fl [Rt c] (by simp) (by simp) (VE hc) z ⟨b,hs⟩ ⟨e,ht⟩ (λ_=>⟨h9,λlast hl=>by
  have:last=Rt c:=by simpa using hl.symm
  subst this;unfold Rt;simp
  omega⟩) (by simpa using a)
 rcases Pn h.dev.fl hq [Rt c] (by simp) (by simp) (VE hc) z with w|⟨steps,T,g,last,k1,k2,k3,k4,k5,k6,k7,k8,k9⟩
 ·rw [w]at w1
  injection w1 with w1
  injection w1 with _ w1
  cases w1
 have:last=Rt c:=by simpa using k1.symm
 subst this;exact⟨steps,T,g,k2,k3,k4,k5,k6,k7,k9⟩
theorem Vr (hs:code.length<=1048576):KU code=some true:=by
 obtain⟨d,r,d1,d2,d3,d4⟩:=cZ hs;unfold KU;have hb:Wd code=some false:=by
  unfold Wd;rw [BW,Ae (by omega)]
 rw [hb];simp only [Aa,Ac];rw [d1];simp only [Aa];rw [tN d2.dev.fl];simp only [Aa];by_cases a:((Ju d.Flash:Nat):Int)<4
 ·rw [Ad a,Af,cA d2.dev];rfl
 rw [Ae a,Ac];obtain⟨z1,a1,a2,a3,a4⟩:=packed (bs [111,114,112,104,97,110]) (by rw [DP];simp);obtain⟨z2,b1,b2,b3,b4⟩:=packed (bs [110,101,119,101,114]) (by rw [DP];simp);rw [a1,b1];simp only [Aa];have l:=d2.dev.st.nx;have hc:1<=d.Store.Next/\d.Store.Next<=1000:=⟨l.1,by omega⟩;have v:=d4.sq;have w:=d4.tx;obtain⟨steps,T,g,w1,w2,w3,w4,w5,w6,w7⟩:=WN d2 (by rw [d2.dev.seq];omega) (by rw [d2.dev.tx];omega) hc a3 a4 (by omega);have ho:Dk.mk 4 1 0 d.Store.Next=Rt d.Store.Next:=rfl;rw [ho,w1];simp only [Aa];have e1:C9 d d.Store.Next z1=[Page.mk 1 d.Seq d.Store.Next 0 1 z1]:=by unfold C9;rw [Ax a3]
 have e:=(E6 w6).2;have n:(Cd (Fo d z1) d.Tx T).length=T.length:=by unfold Cd;rw [DL]
 rw [e1,BS,Az,n]at e
 have f:¬EB (BK d.Store) (Rt d.Store.Next).Chunk:=λhh=>by
  have h2:=(VI d2.dev.st hh).2;have h3:(Rt d.Store.Next).Chunk=d.Store.Next:=rfl;omega
 obtain⟨m,x,rx,c1,c2,c3,c4,c5,c6,_,c7,c8,c9,_⟩:=N1 (last:=Rt d.Store.Next) d2 (VE hc) w2 w3 w4 w5 w6 w7 (λ_=>f) 1 (by omega);obtain⟨s0,ss,rfl⟩:∃s0 ss,steps=s0::ss:=by
  cases steps with
  |nil=>simp at e
  |cons s ss=>exact⟨s,ss,rfl⟩
 have e0:dr (s0::ss) 0 1=some [s0]:=by
  unfold dr;rw [Au ⟨by omega,by omega,by rw [Az];omega⟩];rfl
 rw [e0];simp only [Aa];have c1':Steps d.Flash [s0] m:=by simpa using c1
 rw [PQ d2.dev.fl c1' (by simp)];simp only [Aa];have o:Flash.mk m.Blocks=m:=rfl;rw [o,N0 c2,c3];simp only [Aa];obtain⟨q1,q2,q3⟩:=GY d2.dev c4 (by rw [c9 (by omega)]);have gx:L8 x rx:=⟨c4,c7,by rw [q1];exact c8⟩;have h:rx=r++ [A4.mk s0.Block s0.Leaf (Page.mk 1 d.Seq d.Store.Next 0 1 z1)]:=by rw [c6,show(Rt d.Store.Next).Chunk=d.Store.Next from rfl,e1];rfl
 have i:x.Seq=d.Seq+1:=by rw [c4.seq,h,TK (by rw [d2.dev.seq];exact EG _)]
 have j:x.Tx=d.Tx:=by rw [c4.tx,h,Q8,Ax (by simp),d2.dev.tx]
 have z:Ju m+1=Ju d.Flash:=by
  obtain⟨t1,t2,t3,t4⟩:=(show FV d.Flash (s0::ss) (Page.mk 1 d.Seq d.Store.Next 0 1 z1::Cd (Fo d z1) d.Tx T) g by rw [e1]at w6;exact w6);have:=c1'.2;have hx:m=Ji d.Flash s0:=this;have:=YT d2.dev.fl t2;rw [hx];unfold Ji;rw [Au t1];exact this
 obtain⟨steps2,T2,g2,v1,v2,v3,v4,v5,v6,v7⟩:=WN (c:=d.Store.Next) gx (by rw [i,d2.dev.seq];omega) (by rw [j,d2.dev.tx];omega) hc b3 b4 (by rw [c5];omega);rw [v1];simp only [Aa];obtain⟨m2,y,ry,f1,f2,f3,f4,f5,f6,_⟩:=N1 (last:=Rt d.Store.Next) gx (VE hc) v2 v3 v4 v5 v6 v7 (λ_=>by rw [q1];exact f) steps2.length (A3 _);rw [AL]at f1;have b:=(E6 v6).2;have e2:C9 x d.Store.Next z2=[Page.mk 1 x.Seq d.Store.Next 0 1 z2]:=by unfold C9;rw [Ax b3]
 have k:(Cd (Fo x z2) x.Tx T2).length=T2.length:=by unfold Cd;rw [DL]
 rw [e2,BS,Az,k]at b;rw [PQ gx.dev.fl f1 (by omega)];simp only [Aa];rw [N0 f2,f3];simp only [Aa];obtain⟨u,ok,u1,u2⟩:=Yo f4 d.Store.Next;rw [u1];simp only [Aa,Af];rw [Vf c4.st d2.dev.st,Ad ⟨q1,q2⟩];simp only [Aa,Af];have t:=d2.dev.seqs;rw [Cx (by omega) (by omega),i,beq_self_eq_true,Af];have q:CO ry d.Store.Next=some (bs [110,101,119,101,114]):=by
  obtain⟨s2,ss2,rfl⟩:∃s0 ss,steps2=s0::ss:=by
   cases steps2 with
   |nil=>simp at b
   |cons s ss=>exact⟨s,ss,rfl⟩
  have:ry=(rx++ [A4.mk s2.Block s2.Leaf (Page.mk 1 x.Seq d.Store.Next 0 1 z2)])++(Cu ss2 (Cd (Fo x z2) x.Tx T2)).take ss2.length:=by
   rw [f6,show(Rt d.Store.Next).Chunk=d.Store.Next from rfl,e2,Ao];rfl
  rw [this];unfold CO;rw [Zd _ _ (λp hp=>by have:=Nb (Lk _ _ _ p hp);omega),Ll,Au ⟨rfl,rfl⟩];exact b2
 rw [q]at u2
 cases ok with
 |false=>cases u2
 |true=>
  rw [Au rfl]at u2
  injection u2 with u2
  subst u2;have:seq (bs [110,101,119,101,114]) (bs [110,101,119,101,114])=true:=by rw [ID];simp
  simp only [Af,this]
theorem fnOrphans_true (code:List Int) (hc:ol (oK .u8) code):KU code=some true:=by
 by_cases h:code.length<=1048576
 ·exact Vr h
 unfold KU;have hb:Wd code=some true:=by
  unfold Wd;rw [BW,Ad (by omega)]
 rw [hb];rfl
end Go.TI
