/- The law on moves. No condition; no program is in sight. -/
import Derived.Test.YtpafpcbnmplkfaaGreatMOD
set_option linter.unusedVariables false
set_option linter.unusedSimpArgs false
namespace Go.TI
open Go
def u32 (s:Int):Prop:=0<=s/\s<4294967296
theorem yE (s:Int) (hs:u32 s):∃v,Av (λs:Int×Int=>Ii s.1 s.2) (s,0)=some v/\Av (λs:Int×Int=>Iv s.1 s.2) (s,0)=some v/\u32 v:=
 Oc (body:=λs:Int×Int=>Ii s.1 s.2) (body':=λs:Int×Int=>Iv s.1 s.2) (λ(s:Int) i=>(s,i)) 8 (λ_ s=>u32 s) u32
  (λs i hi hs=>by
   simp only [Ii,Iv];rw [Ad (by omega:(i:Int)<8),Ae,Ae,an1 hs.1 hs.2,<-AFT hs.1 hs.2];refine⟨rfl,.inl ?_⟩;have hw:u32 (IntKind.u32.wrap (Int.tdiv s 2)):=by rw [IntKind.wrap_u32];constructor<;>omega
   cases Int.tmod s 2==1
   ·exact⟨_,by rw [Ac,ad1 (by omega)],hw⟩
   exact⟨_,by rw [Ae,ad1 (by omega)],AEw _ _⟩)
  (λs hs=>by
   simp only [Ii,Iv]
   exact⟨rfl,s,rfl,hs⟩) (s:=s) hs
theorem yD (s:Int) (t:ByteArray) (hs:u32 s) (ht:(L t).length<=9223372036854775806):∃v,QG s t=some v/\QW s t=some v/\u32 v:=by
 obtain⟨v,h1,h2,h3⟩:=Oc (body:=λs:Int×Int=>JD t s.1 s.2) (body':=λs:Int×Int=>JN t s.1 s.2) (λ(s:Int) i=>(s,i)) (L t).length (λ_ s=>u32 s) u32
  (λs i hi hs=>by
   obtain⟨v,h1,h2,h3⟩:=yE (xr s (IntKind.u32.wrap ((L t)[i]).toNat)) (AEw _ _);simp only [JD,JN];rw [Ad (by rw [BO];omega:(i:Int)<FJ t),Ae,Ae,Fo t hi,Aa,Aa,h1,h2]
   exact⟨rfl,.inl ⟨v,by rw [Aa,ad1 (by omega)],h3⟩⟩)
  (λs hs=>by
   simp only [JD,JN];rw [Af (by rw [BO];omega:¬((L t).length:Int)<FJ t),Ac,Ac]
   exact⟨rfl,s,rfl,hs⟩) (s:=s) hs
 unfold QG QW;rw [h1,h2];exact⟨v,rfl,rfl,h3⟩
theorem tE (t:ByteArray) (ht:(L t).length<=9223372036854775806):∃v,Nl t=some v/\Wt t=some v/\u32 v:=by
 obtain⟨v,h1,h2,h3⟩:=yD 4294967295 t ⟨by omega,by omega⟩ ht;unfold Nl Wt;rw [h1,h2];exact⟨v,rfl,rfl,h3⟩
def four (v:Int):ByteArray:=E9 [(IntKind.u8.wrap (Int.fdiv v (2^(min (24:Int).toNat IntKind.u32.bits)))),(IntKind.u8.wrap (Int.fdiv v (2^(min (16:Int).toNat IntKind.u32.bits)))),(IntKind.u8.wrap (Int.fdiv v (2^(min (8:Int).toNat IntKind.u32.bits)))),(IntKind.u8.wrap v)]
theorem Ti (v:Int):(L (four v)).length=4:=by rw [four,IW];rfl
theorem fA (t:ByteArray):HP t=JE t:=by
 unfold HP JE;by_cases h:(FJ t)>20000
 ·rw [Ad h];rfl
 rw [Af h,Ac,Ac];rw [BO]at h;obtain⟨v,h1,h2,_⟩:=tE t (by omega);rw [h1,h2];rfl
theorem Rl (t:ByteArray):(20000<(L t).length->JE t=some (bs [],false))/\((L t).length<=20000->∃v,Nl t=some v/\JE t=some (t++four v,true)):=by
 unfold JE;rw [BO];refine⟨λh=>by rw [Ad (by omega),Ae],λh=>?_⟩;obtain⟨v,h1,h2,_⟩:=tE t (by omega);rw [Af (by omega),Ac,h1];refine⟨v,rfl,?_⟩;have:Kp v=some (four v):=rfl;rw [Aa,this,Aa,Gn _ _ (by rw [Ti];omega),Aa]
theorem tC (t:ByteArray) (ht:(L t).length<=9223372036854775806):∃u ok,Kq t=some (u,ok)/\Pe t=some (u,ok)/\(ok=true->(L u).length<=20000/\∃v,Nl u=some v/\t=u++four v)/\(ok=false->u=bs []):=by
 unfold Kq Pe;have e4:sb (FJ t) 4=((L t).length:Int)-4:=by rw [BO,Cw (by omega) (by omega)]
 rw [e4];by_cases h4:(L t).length<4
 ·rw [Ad (by omega:((L t).length:Int)-4<0),Ad (by rw [BO];omega:FJ t<4)];exact⟨bs [],false,rfl,rfl,by simp,λ_=>rfl⟩
 rw [Af (by omega:¬((L t).length:Int)-4<0),Af (by rw [BO];omega:¬FJ t<4)];simp only [Ac];have en:((L t).length:Int)-4=(((L t).length-4:Nat):Int):=by omega
 rw [en,BO];have b:sub t 0 (((L t).length-4:Nat):Int)=some (t.extract 0 ((L t).length-4)):=F8 t (i:=0) (by omega) (by omega);have a:sub t (((L t).length-4:Nat):Int) ((L t).length:Int)=some (t.extract ((L t).length-4) (L t).length):=F8 t (by omega) (by omega);rw [b,a];simp only [Aa];have hu:(L (t.extract 0 ((L t).length-4))).length=(L t).length-4:=by rw [HZ];simp
 obtain⟨k1,k2⟩:=Rl (t.extract 0 ((L t).length-4));rw [fA];by_cases hb:20000<(L t).length-4
 ·rw [Ad (by omega:(((L t).length-4:Nat):Int)>20000),k1 (by omega)];exact⟨bs [],false,rfl,rfl,by simp,λ_=>rfl⟩
 obtain⟨v,h1,h2⟩:=k2 (by omega);rw [Af (by omega:¬(((L t).length-4:Nat):Int)>20000),h1,h2];have h3:Kp v=some (four v):=rfl;simp only [Ac,Aa,h3,Ao];have c:seq (t.extract ((L t).length-4) (L t).length) (four v)=seq (t.extract 0 ((L t).length-4)++four v) t:=by
  rw [PS,PS,DB,HZ,HZ,DG,A9,A9];have e1:List.take ((L t).length-((L t).length-4)) (List.drop ((L t).length-4) (L t))=(L t).drop ((L t).length-4):=Bb (by simp);have e2:List.take ((L t).length-4-0) (List.drop 0 (L t))=(L t).take ((L t).length-4):=by simp
  rw [e1,e2];constructor
  ·intro h;rw [<-h,Bu]
  intro h;have h':(L t).take ((L t).length-4)++L (four v)=(L t).take ((L t).length-4)++(L t).drop ((L t).length-4):=by rw [Bu];exact h
  exact(List.append_cancel_left h').symm
 rw [c]
 cases hs:seq (t.extract 0 ((L t).length-4)++four v) t with
 |false=>exact⟨bs [],false,rfl,rfl,by simp,λ_=>rfl⟩
 |true=>
  rw [J9,A9]at hs;exact⟨_,true,rfl,rfl,λ_=>⟨by omega,v,h1,hs.symm⟩,by simp⟩
theorem Iq (n:Nat) (h:n<=1099511627776):∃s,GW (n:Int)=some s/\L s=Cy n:=by
 unfold GW;obtain⟨m,o,h1,h2,h3,h4⟩:=eQ (body:=λs:Int×List Int=>HF s.1 s.2) (λ_ _=>rfl) n [] (by simpa using h);rw [h1,Aa];have:IntKind.u8.wrap (m:Int)=m:=by rw [IntKind.wrap_u8];omega
 rw [this,C6 (by simp only [Aj,Bm]at h3⊢;omega),Aa];refine⟨_,rfl,?_⟩;rw [IW,h4];simp
def AEB (t:ByteArray) (at_:Int) (r:Int×Int×Bool):Prop:=
 (r.2.2=false/\r.1=0/\r.2.1=0)\/(r.2.2=true/\∃(a b n:Nat),at_=a/\r.2.1=b/\r.1=n/\a<b/\b<=(L t).length/\n<=1000000000/\Cy n=((L t).drop a).take (b-a))
theorem WM (l:List UInt8) (a k:Nat) (h:a+k<l.length):(l.drop a).take (k+1)=(l.drop a).take k++ [l[a+k]]:=by
 rw [Ax (by simp;omega),Ss]
theorem kC (k:Nat) (h:k<5):(128:Nat)^k<=268435456:=by
 have:k<=4:=by omega
 calc 128^k<=128^4:=Nat.pow_le_pow_right (by omega) this
  _=268435456:=by decide
theorem Wh:∀ds:List UInt8,Fe ds<128^ds.length
 |[]=>by simp [Fe]
 |d::ds=>by
  have:=Wh ds;simp only [Fe,Ay,We];omega
theorem ADE (x k:Nat) (hx:x<128) (hk:k<5):shl .i64 (x:Int) (ml 7 (k:Int))=some ((x*128^k:Nat):Int):=by
 have h7:ml 7 (k:Int)=((7*k:Nat):Int):=by rw [Ob (by omega) (by omega)];omega
 unfold shl;rw [h7,A5 (by omega)];have e:(2:Int)^(min ((7*k:Nat):Int).toNat IntKind.i64.bits)=((128^k:Nat):Int):=by
  have hb:IntKind.i64.bits=64:=rfl;have h128:(128:Nat)^k=2^(7*k):=by rw [Nat.pow_mul]
  rw [hb,BA,Nat.min_eq_left (by omega),h128]
  norm_cast
 rw [e];have hp:=kC k hk;have hm:x*128^k<=128*268435456:=cL (by omega) hp;have ec:(x:Int)*((128^k:Nat):Int)=((x*128^k:Nat):Int):=by norm_cast
 rw [ec,NM (by omega) (by omega)]
theorem fO (x:Nat):Int.tmod (x:Int) 128=((x %128:Nat):Int):=rfl
theorem KF (t:ByteArray) (at_:Int) (ht:(L t).length<=4611686018427387904) (p:oI at_):∃r,Ji t at_=some r/\Mr t at_=some r/\AEB t at_ r:=by
 have fails:∀(at_:Int),(at_<0\/((L t).length:Int)<=at_)->oI at_->Mr t at_=some (0,0,false):=by
  intro at_ h p;unfold Mr;rw [A6];simp only [GV];rw [Ad (by omega:(0:Int)<5),Ae];by_cases h0:at_>=0
  ·rw [Ad h0,Ae,BO,Cw (by omega) (by omega),Af (by omega)];rfl
  rw [Af h0];rfl
 by_cases h5:0<=at_/\at_<(L t).length
 ·obtain⟨a,rfl⟩:=CZ h5.1;have ha:a<(L t).length:=by omega
  have key:∀(B1:Int×Int×Int->Option ((Int×Int×Int)⊕((Unit)⊕((Int×Int×Bool))))) (B2:Int×Int->Option ((Int×Int)⊕((Unit)⊕((Int×Int×Bool))))),(∀n sc i,B1 (n,sc,i)=DC t (a:Int) n sc i)->(∀n k,B2 (n,k)=GV t (a:Int) n k)->∀(m k:Nat),k+m=5->a+k<=(L t).length->(∀d∈((L t).drop a).take k,128<=d.toNat)->
    ∃r,(Av B1 (((Fe (((L t).drop a).take k):Nat):Int),((128^k:Nat):Int),((a+k:Nat):Int))=some r/\Av B2 (((Fe (((L t).drop a).take k):Nat):Int),(k:Int))=some r)/\(r= .inl ()\/∃q,r= .inr q/\AEB t (a:Int) q):=by
   intro B1 B2 u v m
   induction m with
   |zero=>
    intro k hk h6 hd;have f:k=5:=by omega
    subst f;refine⟨.inl (),⟨?_,?_⟩,.inl rfl⟩
    ·rw [A6];simp only [u,DC];rw [CC (by omega) (by omega),Af (by omega:¬((a+5:Nat):Int)<(a:Int)+5)];cases decide (((a+5:Nat):Int)<FJ t)<;>rfl
    rw [A6];simp only [v,GV];rw [Af (by omega:¬((5:Nat):Int)<5)];rfl
   |succ m ih=>
    intro k hk h6 hd;rw [A6,A6 B2];simp only [u,v,DC,GV];have f:k<5:=by omega
    rw [CC (b:=5) (by omega) (by omega),Ad (by omega:((a+k:Nat):Int)<(a:Int)+5),Ad (by omega:(k:Int)<5),Ad (by omega:(a:Int)>=0),BO,Cw (by omega) (by omega)];by_cases w:a+k<(L t).length
    ·rw [Ad (by omega:((a+k:Nat):Int)<((L t).length:Int)),Ad (by omega:(a:Int)<((L t).length:Int)-k)];have eak:ad (a:Int) (k:Int)=((a+k:Nat):Int):=by rw [CC (by omega) (by omega)];omega
     simp only [Ae,Aa,Fo t w,eak];have hx:=nW ((L t)[a+k]);have g:=WM (L t) a k w;have l:(((L t).drop a).take k).length=k:=by simp;omega
     have j:=Nd (((L t).drop a).take k) [(L t)[a+k]];rw [<-g,l]at j;have h7:=Wh (((L t).drop a).take k);rw [l]at h7;have hp:=kC k f;generalize a3:(L t)[a+k]=x at hx g j;simp only [Fe,Nat.mul_zero,Gr]at j;have hw:IntKind.i64.wrap (x.toNat:Int)=x.toNat:=NM (by omega) (by omega);have a1:x.toNat %128*128^k<=127*268435456:=cL (by omega) hp;have emul:ml ((x.toNat %128:Nat):Int) ((128^k:Nat):Int)=((x.toNat %128*128^k:Nat):Int):=by
      have ec:((x.toNat %128:Nat):Int)*((128^k:Nat):Int)=((x.toNat %128*128^k:Nat):Int):=by norm_cast
      rw [Ob (by rw [ec];omega) (by rw [ec];omega),ec]
     have enew:ad (((Fe (((L t).drop a).take k):Nat)):Int) ((x.toNat %128*128^k:Nat):Int)=((Fe (((L t).drop a).take (k+1)):Nat):Int):=by
      rw [CC (by omega) (by omega),j,yL (128^k)];omega
     rw [hw,fO,ADE _ k (by omega) f];simp only [Aa,emul,enew];by_cases o:x.toNat<128
     ·rw [Ad (by omega:(x.toNat:Int)<128),Af (by omega:¬(x.toNat:Int)>=128)];simp only [Ae,Ac];have ek1:ad ((a+k:Nat):Int) 1=((a+k+1:Nat):Int):=ad1 (by omega);have c:=eP (((L t).drop a).take k) x hd o;rw [<-g]at c;have h8:(((L t).drop a).take k≠ [])↔0<k:=by
       rw [<-Ib,l]
      rw [h8]at c;have y:sub t (a:Int) ((a+k+1:Nat):Int)=some (t.extract a (a+k+1)):=F8 t (by omega) (by omega);rw [ek1,y];by_cases a2:Fe (((L t).drop a).take (k+1))>1000000000
      ·rw [Ad (by omega:((Fe (((L t).drop a).take (k+1)):Nat):Int)>1000000000)];refine⟨.inr (0,0,false),⟨rfl,?_⟩,.inr ⟨_,rfl,.inl ⟨rfl,rfl,rfl⟩⟩⟩;cases(x.toNat:Int)==0
       ·rfl
       cases decide ((k:Int)>0)<;>rfl
      rw [Af (by omega:¬((Fe (((L t).drop a).take (k+1)):Nat):Int)>1000000000)];obtain⟨s,h9,a0⟩:=Iq (Fe (((L t).drop a).take (k+1))) (by omega);simp only [Ac,Aa,h9];have z:seq s (t.extract a (a+k+1))=decide (¬(x.toNat=0/\0<k)):=by
       rw [PS,a0,HZ,show a+k+1-a=k+1 by omega,DG,A9,A9];exact c
      rw [z];by_cases hz:x.toNat=0/\0<k
      ·rw [Af (λe=>e hz)];refine⟨.inr (0,0,false),⟨rfl,?_⟩,.inr ⟨_,rfl,.inl ⟨rfl,rfl,rfl⟩⟩⟩;have:((x.toNat:Int)==0)=true:=by rw [hz.1];rfl
       rw [this,Ad (by omega:(k:Int)>0)];rfl
      rw [Ad hz];refine⟨.inr (((Fe (((L t).drop a).take (k+1)):Nat):Int),((a+k+1:Nat):Int),true),⟨rfl,?_⟩,.inr ⟨_,rfl,.inr ⟨rfl,a,a+k+1,_,rfl,rfl,rfl,by omega,by omega,by omega,?_⟩⟩⟩
      ·by_cases h4:x.toNat=0
       ·have:((x.toNat:Int)==0)=true:=by rw [h4];rfl
        rw [this,Af (by omega:¬(k:Int)>0)];rfl
       have:((x.toNat:Int)==0)=false:=by simpa using h4
       rw [this];rfl
      rw [show a+k+1-a=k+1 by omega];exact c.2 hz
     rw [Af (by omega:¬(x.toNat:Int)<128),Ad (by omega:(x.toNat:Int)>=128)];simp only [Ae,Ac];have e1:ml ((128^k:Nat):Int) 128=((128^(k+1):Nat):Int):=by
      rw [Ob (by omega) (by omega),We];norm_cast
     have e2:ad ((a+k:Nat):Int) 1=((a+(k+1):Nat):Int):=ad1 (by omega);have e3:ad (k:Int) 1=((k+1:Nat):Int):=ad1 (by omega);rw [e1,e2,e3]
     exact ih (k+1) (by omega) (by omega) (by
      rw [g];intro d hd'
      rcases Ak.1 hd' with hd'|hd'
      ·exact hd d hd'
      simp at hd';subst hd';omega)
    rw [Af (by omega:¬((a+k:Nat):Int)<((L t).length:Int)),Af (by omega:¬(a:Int)<((L t).length:Int)-k)];exact⟨.inl (),⟨rfl,rfl⟩,.inl rfl⟩
  obtain⟨r,⟨h1,h2⟩,h3⟩:=key (λs=>DC t (a:Int) s.1 s.2.1 s.2.2) (λs=>GV t (a:Int) s.1 s.2) (λ_ _ _=>rfl) (λ_ _=>rfl) 5 0 rfl (by omega) (by simp);unfold Ji Mr;have hw:BZ (a:Int) 0 (FJ t)=some true:=by
   unfold BZ;rw [Ad (by omega:(a:Int)>=0),Ae,BO,Ad (by omega)]
  rw [hw];simp only [Aa,Ao,Ac];simp only [Iy,Fe,Nat.pow_zero,Gr]at h1 h2;rw [show((0:Nat):Int)=0 from rfl,show((1:Nat):Int)=1 from rfl]at h1;rw [show((0:Nat):Int)=0 from rfl]at h2;rw [h1,h2]
  rcases h3 with rfl|⟨q,rfl,h3⟩
  ·exact⟨_,rfl,rfl,.inl ⟨rfl,rfl,rfl⟩⟩
  exact⟨q,rfl,rfl,h3⟩
 have hf:=fails at_ (by omega) p;refine⟨(0,0,false),?_,hf,.inl ⟨rfl,rfl,rfl⟩⟩;unfold Ji;by_cases h0:0<=at_/\at_<=(L t).length
 ·have hw:BZ at_ 0 (FJ t)=some true:=by
   unfold BZ;rw [Ad (by omega:at_>=0),Ae,BO,Ad (by omega)]
  rw [hw];simp only [Aa,Ao,Ac];rw [A6];simp only [DC];rw [Af (by rw [BO];omega:¬at_<FJ t)];rfl
 have hw:BZ at_ 0 (FJ t)=some false:=by
  unfold BZ;by_cases h1:at_>=0
  ·rw [Ad h1,Ae,BO,Af (by omega)]
  rw [Af h1,Ac]
 rw [hw];rfl
end Go.TI
namespace Go.TI
open Go
theorem YU:Jt=BZ:=rfl
theorem Dy {α:Type} {l:List α} {i:Int} {x:α} (h:gi l i=some x):0<=i/\l[i.toNat]?=some x:=by
 unfold gi at h;split at h
 ·exact⟨by assumption,h⟩
 cases h
theorem Sg:Oi=FT:=by
 have h2:Mb=Ea:=by
  funext x y;unfold Mb Ea
  cases decide (y<ln x.Leaves)with
  |false=>rfl
  |true=>
   simp only [Ae]
   cases gi x.Leaves y with
   |none=>rfl
   |some z=>rfl
 funext f;unfold Oi FT;have:Mc f=Eb f:=by
  funext i;unfold Mc Eb;rw [h2];rfl
 rw [this];rfl
def L8 (f:Flash):Prop:=f.Blocks.length<=1048576/\∀b∈f.Blocks,b.Leaves.length<=1048576
theorem P8 (x a b:Int):BZ x a b=some (decide (a<=x)&&decide (x<=b)):=by
 unfold BZ;by_cases h:x>=a
 ·rw [Ad h,Ae,C8]
 rw [Af h,Ac,Bool.false_and]
theorem ADV (x:Leaf):∃v,Ml x=some v:=by
 unfold Ml;cases x.Is==0
 ·simp only [Ac];cases x.Is==1
  ·simp only [Ac];cases x.Is==2<;>exact⟨_,rfl⟩
  simp only [Ae,P8,Aa];exact⟨_,rfl⟩
 exact⟨_,rfl⟩
theorem Sq (f:Flash) (h:L8 f):∃v,FT f=some v/\(v=true->f.Blocks.length<=10/\∀b∈f.Blocks,b.Leaves.length=4):=by
 have key:=Bq (body:=λs:Int=>Eb f s) (λ(_:Unit) i=>i) f.Blocks.length (λi _=>∀j b,j<i->f.Blocks[j]?=some b->b.Leaves.length=4) (λr=>r= .inr false\/r= .inl ()/\∀b∈f.Blocks,b.Leaves.length=4)
  (λs i hi hs=>by
   obtain⟨x,hx⟩:∃x,f.Blocks[i]?=some x:=⟨_,Ab hi⟩;have hM:=h.1;have hL:=h.2 x (A8 hx);simp only [Eb,AH,Ad hi,Ae,AF,hx,Aa,P8];by_cases h4:x.Leaves.length=4
   ·have e1:(ln x.Leaves !=4)=false:=by simp [ln,h4]
    simp only [e1,Ac,Aa]
    cases hw:(decide (0<=x.Wear)&&decide (x.Wear<=1000000000))with
    |false=>exact .inr ⟨_,rfl,.inl rfl⟩
    |true=>
     simp only [Ao,Ac];obtain⟨r,h5,h6⟩:=Bq (body:=λs:Int=>Ea x s) (λ(_:Unit) i=>i) x.Leaves.length (λ_ _=>True) (λr=>r= .inl ()\/r= .inr (.inr (.inr false)))
      (λs k hk _=>by
       obtain⟨y,hy⟩:∃y,x.Leaves[k]?=some y:=⟨_,Ab hk⟩;obtain⟨v,hv⟩:=ADV y;simp only [Ea,AH,Ad hk,Ae,AF,hy,Aa,hv];have fin:∀j:Bool,(∃s':Unit,(bif j then some (.inr (.inr (.inr (.inr false))))else some (.inl (ad (k:Int) 1)):Option (Int⊕(Unit⊕(Int⊕(Unit⊕Bool)))))=some (.inl (((k+1:Nat)):Int))/\True)\/∃b,(bif j then some (.inr (.inr (.inr (.inr false))))else some (.inl (ad (k:Int) 1)):Option (Int⊕(Unit⊕(Int⊕(Unit⊕Bool)))))=some (.inr b)/\(b= .inl ()\/b= .inr (.inr (.inr false))):=by
        intro j
        cases j with
        |true=>exact .inr ⟨_,rfl,.inr rfl⟩
        |false=>exact .inl ⟨(),by rw [Ac,ad1 (by omega)],trivial⟩
       cases v with
       |false=>exact fin true
       |true=>
        simp only [Ao,Ac];by_cases a:0<k
        ·rw [Ad (by omega:(k:Int)>0),Ae,Cw (by omega) (by omega),Kh (by omega) (by omega),Aa];cases(x.Leaves[((k:Int)-1).toNat]'(by omega)).Is==0
         ·exact fin false
         exact fin (y.Is !=0)
        rw [Af (by omega:¬(k:Int)>0)]
        exact fin false)
      (λs _=>⟨_,by simp only [Ea,AH,As,Aw,Ac],.inl rfl⟩) (s:=()) trivial
     rw [h5,Aa]
     rcases h6 with rfl|rfl
     ·refine .inl ⟨(),by rw [BX,ad1 (by omega)],?_⟩;intro j b hj hb;by_cases e:j=i
      ·subst e;rw [hx]at hb;injection hb with hb;rw [<-hb];exact h4
      exact hs j b (by omega) hb
     exact .inr ⟨_,rfl,.inl rfl⟩
   have e1:(ln x.Leaves !=4)=true:=by simp [ln];omega
   simp only [e1,Ae,Aa]
   exact .inr ⟨_,rfl,.inl rfl⟩)
  (λs hs=>⟨_,by simp only [Eb,AH,As,Aw,Ac],.inr ⟨rfl,λb hb=>by
   obtain⟨j,hj,e⟩:=AG hb
   exact hs j b hj (by rw [<-e];exact Ab hj)⟩⟩) (s:=()) (λj b hj=>absurd hj (by omega))
 obtain⟨r,h1,h2⟩:=key;unfold FT;rw [h1,Aa]
 rcases h2 with rfl|⟨rfl,h2⟩
 ·exact⟨false,rfl,by simp⟩
 simp only [BX,P8,Aa];refine⟨_,rfl,λe=>⟨?_,h2⟩⟩;rw [An,A9,A9,Cf]at e;omega
end Go.TI
namespace Go.TI
open Go
theorem Rm (p:Page):∃v,JH p=some v/\Qt p=some v/\(v=true->(p.Kind=1\/p.Kind=2)/\(1<=p.Seq/\p.Seq<=1000000000)/\(1<=p.Tx/\p.Tx<=1000000000)/\(1<=p.Count/\p.Count<=9)/\(0<=p.Part/\p.Part<p.Count)/\FJ p.Text<=90):=by
 unfold JH Qt;rw [YU];simp only [P8,Aa];by_cases h1:1<=p.Seq/\p.Seq<=1000000000
 ·by_cases h2:1<=p.Tx/\p.Tx<=1000000000
  ·by_cases h3:1<=p.Count/\p.Count<=9
   ·have e:sb p.Count 1=p.Count-1:=Cw (by omega) (by omega);rw [e];by_cases h4:0<=p.Part/\p.Part<=p.Count-1
    ·by_cases h5:FJ p.Text>90
     ·refine⟨false,?_,?_,by simp⟩
      ·cases hk:(decide (1<=p.Kind)&&decide (p.Kind<=2))<;>simp [h1,h2,h3,h4,h5]
      simp [h1,h2,h3,h4,h5]
     by_cases k2:p.Kind=2
     ·exact⟨true,by simp [h1,h2,h3,h4,h5,k2],by simp [h1,h2,h3,h4,h5,k2],λ_=>⟨.inr k2,h1,h2,h3,⟨h4.1,by omega⟩,by omega⟩⟩
     by_cases k1:p.Kind=1
     ·exact⟨p.Count==1,by simp [h1,h2,h3,h4,h5,k1],by simp [h1,h2,h3,h4,h5,k1],λ_=>⟨.inl k1,h1,h2,h3,⟨h4.1,by omega⟩,by omega⟩⟩
     have hk:(decide (1<=p.Kind)&&decide (p.Kind<=2))=false:=by
      rw [C1,AZ,AZ];omega
     have e1:(p.Kind==1)=false:=by simpa using k1
     have e2:(p.Kind==2)=false:=by simpa using k2
     exact⟨false,by simp [hk],by simp [h1,h2,h3,h4,h5,e1,e2],by simp⟩
    have e4:(decide (0<=p.Part)&&decide (p.Part<=p.Count-1))=false:=by
     rw [C1,AZ,AZ];omega
    refine⟨false,?_,?_,by simp⟩
    ·cases hk:(decide (1<=p.Kind)&&decide (p.Kind<=2))<;>simp [h1,h2,h3,e4]
    simp [h1,h2,h3,e4]
   have e3:(decide (1<=p.Count)&&decide (p.Count<=9))=false:=by
    rw [C1,AZ,AZ];omega
   refine⟨false,?_,?_,by simp⟩
   ·cases hk:(decide (1<=p.Kind)&&decide (p.Kind<=2))<;>simp [h1,h2,e3]
   simp [h1,h2,e3]
  have e2:(decide (1<=p.Tx)&&decide (p.Tx<=1000000000))=false:=by
   rw [C1,AZ,AZ];omega
  refine⟨false,?_,?_,by simp⟩
  ·cases hk:(decide (1<=p.Kind)&&decide (p.Kind<=2))<;>simp [h1,e2]
  simp [h1,e2]
 have e1:(decide (1<=p.Seq)&&decide (p.Seq<=1000000000))=false:=by
  rw [C1,AZ,AZ];omega
 refine⟨false,?_,?_,by simp⟩
 ·cases hk:(decide (1<=p.Kind)&&decide (p.Kind<=2))<;>simp [e1]
 simp [e1]
def d7:Page:=Page.mk 0 0 0 0 0 (bs [])
theorem GU (u:ByteArray) (a:Int) (hu:(L u).length<=20000) (ha:oI a):EB (ED.mk u a true)=some (0,ED.mk u a true):=by
 obtain⟨r,h1,_,_⟩:=KF u a (by omega) ha;unfold EB;simp only [h1,Aa,Ae]
theorem Jo (u:ByteArray) (a:Int) (hu:(L u).length<=20000) {r:Int×Int×Bool} (h:Ji u a=some r):EB (ED.mk u a false)=some (bif r.2.2 then(r.1,ED.mk u r.2.1 false)else(0,ED.mk u a true)):=by
 unfold EB;simp only [h,Aa,Ac];cases r.2.2<;>rfl
theorem Ps (l:List UInt8) {a b:Nat} (h:a<=b):l.drop a=(l.drop a).take (b-a)++l.drop b:=by
 have:=(Bu (b-a) (l.drop a)).symm;rw [CE,show a+(b-a)=b by omega]at this;exact this
theorem Vl (p:Page) (u:ByteArray) (k:UInt8) (n1 n2 n3 n4:Nat) (hp:JH p=some true) (hk:p.Kind=(k.toNat:Int)) (h1:p.Seq=n1) (h2:p.Tx=n2) (h3:p.Part=n3) (h4:p.Count=n4)
  (b1:n1<=1000000000) (b2:n2<=1000000000) (b3:n3<=1000000000) (b4:n4<=1000000000) (hu:(L u).length<=20000) (e:L u=[k]++Cy n1++Cy n2++Cy n3++Cy n4++L p.Text):Es p=JE u:=by
 obtain⟨s1,q1,r1⟩:=Iq n1 (by omega);obtain⟨s2,q2,r2⟩:=Iq n2 (by omega);obtain⟨s3,q3,r3⟩:=Iq n3 (by omega);obtain⟨s4,q4,r4⟩:=Iq n4 (by omega);have hl:=BH List.length e;simp only [Ag,Aj]at hl;have hb:Jc p.Kind=some (E9 [IntKind.u8.wrap p.Kind]):=rfl;have a:L (E9 [IntKind.u8.wrap p.Kind])=[k]:=by
  rw [IW,hk,IntKind.wrap_u8];have:=nW k;have e2:((k.toNat:Int) %256).toNat=k.toNat:=by omega
  simp only [BV,yM,e2,UInt8.ofNat_toNat]
 unfold Es;rw [hp];simp only [Aa,Ao,Ac,hb,h1,h2,h3,h4,q1,q2,q3,q4];rw [Gn _ _ (by rw [a,r1];simp only [Aj];omega),Aa];rw [Gn _ _ (by rw [DB,a,r1,r2];simp only [Ag,Aj];omega),Aa];rw [Gn _ _ (by rw [DB,DB,a,r1,r2,r3];simp only [Ag,Aj];omega),Aa];rw [Gn _ _ (by rw [DB,DB,DB,a,r1,r2,r3,r4];simp only [Ag,Aj];omega),Aa];rw [Gn _ _ (by rw [DB,DB,DB,DB,a,r1,r2,r3,r4];simp only [Ag,Aj];omega),Aa];have:E9 [IntKind.u8.wrap p.Kind]++s1++s2++s3++s4++p.Text=u:=by
  apply HY;rw [DB,DB,DB,DB,DB,a,r1,r2,r3,r4,e]
 rw [this]
 cases JE u with
 |none=>rfl
 |some v=>rfl
theorem HX (t:ByteArray) (ht:(L t).length<=9223372036854775806):∃p ok,Fu t=some (p,ok)/\Pf t=some (p,ok)/\(ok=false->p=d7)/\(ok=true->JH p=some true):=by
 obtain⟨u,uok,k,m,n,o⟩:=tC t ht;unfold Fu Pf;rw [k,m];simp only [Aa];have o1:oI 1:=⟨by omega,by omega⟩
 cases uok with
 |false=>
  have:=o rfl;subst this;have hz:(L (bs [])).length<=20000:=by rw [Eg];simp
  simp only [AN,Ae,Aa,GU _ _ hz o1];exact⟨d7,false,rfl,rfl,λ_=>rfl,by simp⟩
 |true=>
  obtain⟨f,v,hv,q⟩:=n rfl;simp only [Ao,Ac,Aa];by_cases he:(L u).length<1
  ·have h:seq u (bs [])=true:=by
    rw [PS,A9,Eg];exact AB (by omega)
   rw [Ad (by rw [BO];omega:FJ u<1),h];simp only [Ae,GU _ _ f o1,Aa];exact⟨d7,false,rfl,rfl,λ_=>rfl,by simp⟩
  have h:seq u (bs [])=false:=by
   rw [PS,AZ,Eg];intro e;rw [e]at he;simp at he
  rw [Af (by rw [BO];omega:¬FJ u<1),h];simp only [Ac];have four_:∀(B:Int×Int×Int×Int×Int×Int->Option ((Int×Int×Int×Int×Int×Int)⊕((Int×Int×Int×Int×Int)⊕((Page×Bool))))),(∀x y a b c d,B (x,y,a,b,c,d)=E5 (u,true) x y a b c d)->
    ∃(a:Int) (m1 m2 m3 m4:Int) (bad:Bool),(∃c1 c2 c3,EB (ED.mk u 1 false)=some (m1,c1)/\EB c1=some (m2,c2)/\EB c2=some (m3,c3)/\EB c3=some (m4,ED.mk u a bad))/\
     Av B (1,0,0,0,0,0)=some (bif bad then .inr (d7,false)else .inl (a,m1,m2,m3,m4))/\(bad=false->∃(a1 a2 a3 a4 n1 n2 n3 n4:Nat),m1=n1/\m2=n2/\m3=n3/\m4=n4/\a=a4/\1<a1/\a1<a2/\a2<a3/\a3<a4/\a4<=(L u).length/\n1<=1000000000/\n2<=1000000000/\n3<=1000000000/\n4<=1000000000/\
      Cy n1=((L u).drop 1).take (a1-1)/\Cy n2=((L u).drop a1).take (a2-a1)/\Cy n3=((L u).drop a2).take (a3-a2)/\Cy n4=((L u).drop a3).take (a4-a3)):=by
   intro B hB;obtain⟨r1,p1,q1,w1⟩:=KF u 1 (by omega) o1;have g1:=Jo u 1 f p1;rw [A6,hB];unfold E5;rw [Ad (by omega:(0:Int)<4),Ae,q1,Aa]
   rcases w1 with⟨w1,w2,w3⟩|⟨w1,a0',a1,n1,z0,z1,z2,z3,z4,z5,z6⟩
   ·rw [w1]at g1⊢;exact⟨1,0,0,0,0,true,⟨_,_,_,g1,GU u 1 f o1,GU u 1 f o1,GU u 1 f o1⟩,rfl,by simp⟩
   have ea0:a0'=1:=by omega
   subst ea0;rw [w1]at g1⊢;have x1:oI r1.2.1:=⟨by omega,by omega⟩;simp only [Ao,Ac,Ae]at g1⊢;rw [show((0:Int)==0)=true from rfl,Ae,show ad 0 1=1 from ad1 (i:=0) (by omega)];simp only;obtain⟨r2,p2,q2,y1⟩:=KF u r1.2.1 (by omega) x1;have g2:=Jo u r1.2.1 f p2;rw [A6,hB];unfold E5;rw [Ad (by omega:(1:Int)<4),Ae,q2,Aa]
   rcases y1 with⟨y1,_,_⟩|⟨y1,b0,a2,n2,y2,y3,y4,y5,y6,y7,y8⟩
   ·rw [y1]at g2⊢;exact⟨r1.2.1,r1.1,0,0,0,true,⟨_,_,_,g1,g2,GU u _ f x1,GU u _ f x1⟩,rfl,by simp⟩
   have eb:b0=a1:=by omega
   subst eb;rw [y1]at g2⊢;have x2:oI r2.2.1:=⟨by omega,by omega⟩;simp only [Ao,Ac,Ae]at g2⊢;rw [show((1:Int)==0)=false from rfl,Ac,show((1:Int)==1)=true from rfl,Ae,show ad 1 1=2 from ad1 (i:=1) (by omega)];simp only;obtain⟨r3,p3,q3,k1⟩:=KF u r2.2.1 (by omega) x2;have g3:=Jo u r2.2.1 f p3;rw [A6,hB];unfold E5;rw [Ad (by omega:(2:Int)<4),Ae,q3,Aa]
   rcases k1 with⟨k1,_,_⟩|⟨k1,c0,a3,n3,k2,k3,k4,k5,k6,k7,k8⟩
   ·rw [k1]at g3⊢;exact⟨r2.2.1,r1.1,r2.1,0,0,true,⟨_,_,_,g1,g2,g3,GU u _ f x2⟩,rfl,by simp⟩
   have ec:c0=a2:=by omega
   subst ec;rw [k1]at g3⊢;have x3:oI r3.2.1:=⟨by omega,by omega⟩;simp only [Ao,Ac,Ae]at g3⊢;rw [show((2:Int)==0)=false from rfl,Ac,show((2:Int)==1)=false from rfl,Ac,show((2:Int)==2)=true from rfl,Ae,show ad 2 1=3 from ad1 (i:=2) (by omega)];simp only;obtain⟨r4,p4,q4,l1⟩:=KF u r3.2.1 (by omega) x3;have g4:=Jo u r3.2.1 f p4;rw [A6,hB];unfold E5;rw [Ad (by omega:(3:Int)<4),Ae,q4,Aa]
   rcases l1 with⟨l1,_,_⟩|⟨l1,d0,a4,n4,l2,l3,l4,l5,l6,l7,l8⟩
   ·rw [l1]at g4⊢;exact⟨r3.2.1,r1.1,r2.1,r3.1,0,true,⟨_,_,_,g1,g2,g3,g4⟩,rfl,by simp⟩
   have ed:d0=a3:=by omega
   subst ed;rw [l1]at g4⊢;simp only [Ao,Ac,Ae]at g4⊢;rw [show((3:Int)==0)=false from rfl,Ac,show((3:Int)==1)=false from rfl,Ac,show((3:Int)==2)=false from rfl,Ac,show((3:Int)==3)=true from rfl,Ae,show ad 3 1=4 from ad1 (i:=3) (by omega)];simp only;rw [A6,hB];unfold E5;rw [Af (by omega:¬(4:Int)<4),Ac];exact⟨r4.2.1,r1.1,r2.1,r3.1,r4.1,false,⟨_,_,_,g1,g2,g3,g4⟩,rfl,λ_=>⟨b0,c0,d0,a4,n1,n2,n3,n4,z2,y4,k4,l4,l3,z3,y5,k5,l5,l6,z5,y7,k7,l7,z6,y8,k8,l8⟩⟩
  obtain⟨a,m1,m2,m3,m4,bad,⟨c1,c2,c3,f1,f2,f3,f4⟩,f5,f6⟩:=four_ (λs:Int×Int×Int×Int×Int×Int=>E5 (u,true) s.1 s.2.1 s.2.2.1 s.2.2.2.1 s.2.2.2.2.1 s.2.2.2.2.2) (λ_ _ _ _ _ _=>rfl);rw [f5];simp only [f1,f2,f3,f4,Aa]
  cases bad with
  |true=>exact⟨d7,false,rfl,rfl,λ_=>rfl,by simp⟩
  |false=>
   obtain⟨a1,a2,a3,a4,n1,n2,n3,n4,rfl,rfl,rfl,rfl,rfl,i1,i2,i3,i4,i5,j1,j2,j3,j4,s1,s2,s3,s4⟩:=f6 rfl;simp only [Ac,Aa,BX];have r:sx u 0=some (((L u)[0]'(by omega)).toNat:Int):=Fo u (i:=0) (by omega);have j:sub u (a4:Int) (FJ u)=some (u.extract a4 (L u).length):=by rw [BO];exact F8 u (by omega) (by omega)
   rw [r,j];simp only [Aa];have hk:=nW ((L u)[0]'(by omega));have hw:IntKind.i64.wrap (((L u)[0]'(by omega)).toNat:Int)=((L u)[0]'(by omega)).toNat:=NM (by omega) (by omega);rw [hw];obtain⟨po,po1,po2,_⟩:=Rm (Page.mk (((L u)[0]'(by omega)).toNat:Int) n1 n2 n3 n4 (u.extract a4 (L u).length));rw [po2];simp only [Aa]
   cases po with
   |false=>
    have:Es (Page.mk (((L u)[0]'(by omega)).toNat:Int) n1 n2 n3 n4 (u.extract a4 (L u).length))=some (bs [],false):=by
     unfold Es;rw [po1];rfl
    rw [this];exact⟨d7,false,rfl,rfl,λ_=>rfl,by simp⟩
   |true=>
    have hT:L (u.extract a4 (L u).length)=(L u).drop a4:=by
     rw [HZ];exact Bb (by simp)
    have g:L u=[(L u)[0]'(by omega)]++Cy n1++Cy n2++Cy n3++Cy n4++L (u.extract a4 (L u).length):=by
     rw [hT,s1,s2,s3,s4];have h0:L u=[(L u)[0]'(by omega)]++(L u).drop 1:=by
      have:=Bh (l:=L u) (i:=0) (by omega);simpa using this
     have d1:=Ps (L u) (a:=1) (b:=a1) (by omega);have d2:=Ps (L u) (a:=a1) (b:=a2) (by omega);have d3:=Ps (L u) (a:=a2) (b:=a3) (by omega);have d4:=Ps (L u) (a:=a3) (b:=a4) (by omega);simp only [Aq];rw [<-d4,<-d3,<-d2,<-d1];exact h0
    rw [Vl _ u ((L u)[0]'(by omega)) n1 n2 n3 n4 po1 rfl rfl rfl rfl rfl j1 j2 j3 j4 f g];obtain⟨v',hv',hs'⟩:=(Rl u).2 f;rw [hv]at hv'
    injection hv' with hv'
    subst hv';rw [hs',Aa];have:seq (u++four v) t=true:=by rw [J9,A9];exact q.symm
    simp only [Ao,Ac,Aa,this];exact⟨_,true,rfl,rfl,by simp,λ_=>po1⟩
end Go.TI
namespace Go.TI
open Go
def nl (l:List Block):Nat:=(l.map λb=>b.Leaves.length).sum
def Qp (f:Flash) (y:Al):Prop:=∃b x,gi f.Blocks y.Block=some b/\gi b.Leaves y.Leaf=some x/\(x.Is==1)=true/\Fu x.Text=some (y.Page,true)
theorem Vj (f:Flash) (hf:L8 f) {i k:Nat} {b:Block} {x:Leaf} (hb:f.Blocks[i]?=some b) (hx:b.Leaves[k]?=some x):OG f i k=some (bif x.Is==1 then(x.Text,true)else(bs [],false)):=by
 have h1:=(Ah.1 hb).1;have h2:=(Ah.1 hx).1;have h3:=hf.1;have h4:=hf.2 b (A8 hb);unfold OG;rw [Cw (by rw [Cf];omega) (by rw [Cf];omega),P8,Cf,Ad (by omega:(0:Int)<=(i:Int)),Ad (by omega:(i:Int)<=(f.Blocks.length:Int)-1)];simp only [Aa,Jr,Ao,Ac,AF,hb];rw [Cw (by rw [Cf];omega) (by rw [Cf];omega),P8,Cf,Ad (by omega:(0:Int)<=(k:Int)),Ad (by omega:(k:Int)<=(b.Leaves.length:Int)-1)];simp only [Aa,Jr,Ao,Ac,hx]
 cases h:x.Is==1 with
 |true=>
  have:(x.Is !=1)=false:=by simp [bne,h]
  simp [this]
 |false=>
  have:(x.Is !=1)=true:=by simp [bne,h]
  simp [this]
theorem Si (f:Flash) (hf:L8 f) (hT:∀b∈f.Blocks,∀x∈b.Leaves,(L x.Text).length<=1048576) (hn:nl f.Blocks<=1048576):
  ∃X,Av (λs:List Al×Int=>Ey f s.1 s.2) ([],0)=some X/\Av (λs:Int×List Al=>Iw f s.1 s.2) (0,[])=some X/\X.length<=nl f.Blocks/\∀y∈X,Qp f y:=by
 refine Qm (body:=λs:List Al×Int=>Ey f s.1 s.2) (body':=λs:Int×List Al=>Iw f s.1 s.2) (λs i=>(s,i)) (λs i=>(i,s)) f.Blocks.length (λi out=>out.length<=((f.Blocks.take i).map λb=>b.Leaves.length).sum/\∀y∈out,Qp f y) (λX=>X.length<=nl f.Blocks/\∀y∈X,Qp f y) ?_ ?_ (s:=[]) ⟨by simp,by simp⟩
 ·intro out i hi ⟨a,c⟩;have hb:f.Blocks[i]?=some f.Blocks[i]:=Ab hi;have hm:f.Blocks[i]∈f.Blocks:=AJ _;have h:=PK (λb:Block=>b.Leaves.length) f.Blocks i hi;have j:=Nf (λb:Block=>b.Leaves.length) f.Blocks (i+1);unfold nl at hn;have l:=hf.1;refine .inl ?_;simp only [Ey,Iw,AH,Ad hi,Ae,AF,hb,Aa];obtain⟨u,q1,q2,q3⟩:=Qm (body:=λs:List Al×Int=>EW f (i:Int) s.1 s.2) (body':=λs:Int×List Al=>JO (i:Int) f.Blocks[i] s.1 s.2) (λs i=>(s,i)) (λs i=>(i,s)) f.Blocks[i].Leaves.length (λk u=>u.length<=out.length+k/\∀y∈u,Qp f y) (λu=>u.length<=out.length+f.Blocks[i].Leaves.length/\∀y∈u,Qp f y)
   (λu k hk hu=>by
    have hx:f.Blocks[i].Leaves[k]?=some f.Blocks[i].Leaves[k]:=Ab hk;have e:f.Blocks[i].Leaves[k]∈f.Blocks[i].Leaves:=AJ _;have m:=hf.2 _ hm
    have g:∀y:Al,ap 72 u [y]=some (u++ [y]):=λy=>C6 (by simp only [Aj];omega)
    refine .inl ?_;obtain⟨p,ok,r1,r2,r3,r4⟩:=HX f.Blocks[i].Leaves[k].Text (by have:=hT _ hm _ e;omega);simp only [EW,JO,AH,Ad hk,Ae,AF,hb,hx,Aa,Vj f hf hb hx,r2,g];have n:=hu.1
    cases d:f.Blocks[i].Leaves[k].Is==1 with
    |false=>
     obtain⟨p',ok',t1,_⟩:=HX (bs []) (by rw [Eg];simp);simp only [Ac,Aa,t1];refine⟨u,by rw [ad1 (by omega)],by cases ok<;>(simp only [Ae,Ac,Aa];rw [ad1 (by omega)]),by omega,hu.2⟩
    |true=>
     simp only [Ae,Aa,r1]
     cases ok with
     |false=>exact⟨u,by simp only [Ac];rw [ad1 (by omega)],by simp only [Ac,Aa];rw [ad1 (by omega)],by omega,hu.2⟩
     |true=>
      refine⟨u++ [Al.mk i k p],by simp only [Ae];rw [ad1 (by omega)],by simp only [Ae,Aa];rw [ad1 (by omega)],by simp only [Ag,Aj];omega,λy hy=>?_⟩
      rcases Ak.1 hy with hy|hy
      ·exact hu.2 y hy
      rw [A3]at hy;subst hy
      exact⟨_,_,by simp only [AF];exact hb,by simp only [AF];exact hx,d,r1⟩)
   (λu hu=>⟨u,by simp only [EW,AF,hb,Aa,AH,As,Aw,Ac],by simp only [JO,AH,As,Aw,Ac],hu⟩) (s:=out) ⟨by omega,c⟩
  rw [q1,q2];simp only [Aa];rw [ad1 (by omega)];exact⟨u,rfl,rfl,by omega,q3.2⟩
 intro out ⟨a,c⟩;refine⟨out,by simp only [Ey,AH,As,Aw,Ac],by simp only [Iw,AH,As,Aw,Ac],?_,c⟩;rw [AW]at a;exact a
theorem mO {γ:Type} {l:List γ} {i j:Int} {x y:γ} (h:gi l j=some y):∃z,gi (si l i x) j=some z:=by
 obtain⟨h1,h2⟩:=Dy h;have:=(Ah.1 h2).1;unfold gi;rw [A4 h1];exact⟨_,Ab (by simp only [si,Gj];exact this)⟩
theorem uA (l:List Al) (k:Int):JF l k=(Bk (MX BJ) 0 k l).map (Sum.map (λs=>(s.2,s.1)) id):=by
 unfold JF Bk gi2 y9
 cases hk:decide (k>0)with
 |false=>rfl
 |true=>
  simp only [Ae]
  cases h1:gi l (sb k 1)with
  |none=>cases h2:gi l k<;>simp
  |some x=>
   cases h2:gi l k with
   |none=>simp
   |some y=>
    simp only [Aa];have e:(decide (x.Page.Seq>y.Page.Seq))=MX BJ y x:=rfl;rw [e]
    cases MX BJ y x with
    |false=>rfl
    |true=>
     simp only [Ae,h1,h2,Aa];obtain⟨z,hz⟩:=mO (i:=k) (x:=x) h1;rw [hz];rfl
theorem ADy {γ:Type} {l l':List γ} {i j:Int} (h:y9 l i j=some l'):l'.length=l.length:=by
 unfold y9 at h;obtain⟨x,_,h⟩:=Ar.1 h;obtain⟨y,_,h⟩:=Ar.1 h
 injection h with h
 subst h;simp [si]
theorem AD6 {a:Int} {j:Int} {l r:List Al} (h:Av (λs:Int×List Al=>Bk (MX BJ) a s.1 s.2) (j,l)=some r):r.length=l.length:=by
 refine AAX (λs:Int×List Al=>s.2.length=l.length) (λr=>r.length=l.length) ?_ ?_ (s:=(j,l)) rfl h
 ·rintro⟨j,m⟩ s' hm hb;simp only [Bk]at hb;obtain⟨c,_,hb⟩:=Ar.1 hb
  cases c with
  |false=>cases hb
  |true=>
   simp only [Ae]at hb;obtain⟨m',h1,hb⟩:=Ar.1 hb
   injection hb with hb
   injection hb with hb
   subst hb;exact(ADy h1).trans hm
 rintro⟨j,m⟩ b hm hb;simp only [Bk]at hb;obtain⟨c,_,hb⟩:=Ar.1 hb
 cases c with
 |false=>
  simp only [Ac]at hb
  injection hb with hb
  injection hb with hb
  subst hb;exact hm
 |true=>
  simp only [Ae]at hb;obtain⟨m',h1,hb⟩:=Ar.1 hb;cases hb
theorem yG (f:Flash) (hf:L8 f) (hT:∀b∈f.Blocks,∀x∈b.Leaves,(L x.Text).length<=1048576) (hn:nl f.Blocks<=1048576):
  ∃r,FP f=some r/\Ix f=some r/\r.length<=nl f.Blocks/\(∀y∈r,Qp f y)/\srt BJ r:=by
 obtain⟨X,h1,h2,h3,h4⟩:=Si f hf hT hn;obtain⟨r,h5,h6,h7⟩:=cZ BJ X (by omega);obtain⟨r',h8,h9,h10⟩:=Ir BJ [] X [] (by simp only [Bm];omega);have hr:r'=r:=O6 BJ h9 h6 (λk=>by rw [h7 k,<-h10 k]);subst hr;refine⟨r',?_,?_,?_,?_,h6⟩
 ·unfold FP;rw [h1,Aa];simp only [A7,Az,Bm,KG]at h8;unfold BT at h8;rw [show ad ((0:Nat):Int) 1=1 from rfl]at h8;have hc:Av (λs:List Al×Int=>JG s.1 s.2) (X,1)=Av (λs:Int×List Al=>Bp (MX BJ) ((0:Nat):Int) (X.length:Int) s.1 s.2) (1,X):=by
   refine rA (body:=λs:Int×List Al=>Bp (MX BJ) ((0:Nat):Int) (X.length:Int) s.1 s.2) (body':=λs:List Al×Int=>JG s.1 s.2) (λs=>(s.2,s.1)) (λs=>s.2.length=X.length) ?_ ?_ (1,X) rfl
   ·rintro⟨j,m⟩ hm;simp only at hm;simp only [JG,Bp,Cf,hm]
    cases decide (j<(X.length:Int))with
    |false=>rfl
    |true=>
     simp only [Ae];rw [wI (body:=λs:Int×List Al=>Bk (MX BJ) ((0:Nat):Int) s.1 s.2) (body':=λs:List Al×Int=>JF s.1 s.2) (λs=>(s.2,s.1)) (λs=>uA s.2 s.1) (j,m)];cases Av (λs:Int×List Al=>Bk (MX BJ) ((0:Nat):Int) s.1 s.2) (j,m)<;>rfl
   rintro⟨j,m⟩ s' hm hb;simp only [Bp]at hb
   cases hc:decide (j<(X.length:Int))with
   |false=>rw [hc,Ac]at hb;cases hb
   |true=>
    rw [hc,Ae]at hb;obtain⟨m',h1,hb⟩:=Ar.1 hb
    injection hb with hb
    injection hb with hb
    subst hb;exact(AD6 h1).trans hm
  rw [hc];exact h8
 ·unfold Ix;rw [h2,Aa,h5];rfl
 ·rw [<-h7.len];exact h3
 exact λy hy=>h4 y ((h7.mem).1 hy)
end Go.TI
namespace Go.TI
open Go
section
variable {α β σ S:Type}
theorem SX {body:S->Option (S⊕List α)} (mkS:List α->Int->S) (g:Nat->α->α) (l0:List α)
  (h1:∀(i:Nat) (l:List α) x,l.length=l0.length->l[i]?=some x->l0[i]?=some x->body (mkS l (i:Nat))=some (.inl (mkS (l.set i (g i x)) ((i+1:Nat):Int))))
  (h2:∀l:List α,l.length=l0.length->body (mkS l (l0.length:Nat))=some (.inr l)):Av body (mkS l0 0)=some (l0.mapIdx g):=by
 obtain⟨b,h3,h4⟩:=Bq (body:=body) mkS l0.length (λi l=>l.length=l0.length/\∀j,l[j]?=if j<i then(l0[j]?).map (g j)else l0[j]?) (λb=>b=l0.mapIdx g)
  (λl i hi hs=>by
   obtain⟨hl,hs⟩:=hs;have a:l0[i]?=some l0[i]:=Ab hi;have hx:l[i]?=some l0[i]:=by rw [hs,A5 (As _),a]
   refine .inl ⟨_,h1 i l _ hl hx a,by rw [Gj,hl],λj=>?_⟩;rw [Cz];by_cases e:i=j
   ·subst e;rw [A4 rfl,A4 (by omega),A4 (by omega),a];rfl
   rw [A5 e,hs];by_cases h:j<i
   ·rw [A4 h,A4 (by omega)]
   rw [A5 h,A5 (by omega)])
  (λl hs=>⟨l,h2 l hs.1,by
   apply Df;intro j;rw [hs.2,JU];by_cases h:j<l0.length
   ·rw [A4 h]
   rw [A5 h,Dv (by omega)]
   rfl⟩) (s:=l0) ⟨rfl,λj=>by rw [A5 (by omega)]⟩
 rw [h3,h4]
end
abbrev Ks:=List Cb
def dk:Cb:=Cb.mk true []
def Ct (K:Ks) (i:Int):Cb:=(gi K i).getD dk
def ML (k:Cb) (j:Nat):Int:=(k.Kids[j]?).getD 0
def Oe (K:Ks) (i:Nat) (leaf:Bool) (n:Int):Bool:=bif leaf then decide (0<=n)else(n== -1||(decide (0<=n/\n<=(i:Int)-1)&&(Ct K n).Leaf))
def Dz (K:Ks):Bool:=K.zipIdx.all λz=>z.1.Kids.length==4&&z.1.Kids.all (Oe K z.2 z.1.Leaf)
def Ep (K:Ks) (r:Int):Bool:=r== -1||(decide (0<=r/\r<(K.length:Int))&&!(Ct K r).Leaf)
def Q4 (K:Ks) (root:Int) (s:Nat):Int:=if root<0 then 0 else if ML (Ct K root) (s/4)<0 then 0 else ML (Ct K (ML (Ct K root) (s/4))) (s %4)
def Fi (K:Ks) (root:Int):List Int:=(List.range 16).map (Q4 K root)
theorem Qn {K:Ks} {i:Nat} (h:i<K.length):Ct K (i:Int)=K[i]:=by
 unfold Ct;rw [AF,Ab h];rfl
theorem N0 {K:Ks} {i:Int} (h0:0<=i) (h:i<(K.length:Int)):gi K i=some (Ct K i):=by
 unfold Ct;rw [Kh h0 h];rfl
theorem EE (x a b:Int):BZ x a b=some (decide (a<=x/\x<=b)):=by
 rw [P8];congr 1;rw [DG];simp
theorem HV {K:Ks}:Dz K=true↔∀i:Nat,i<K.length->(Ct K (i:Int)).Kids.length=4/\∀n∈(Ct K (i:Int)).Kids,Oe K i (Ct K (i:Int)).Leaf n=true:=by
 unfold Dz;rw [I1];constructor
 ·intro h i hi;have:=h (K[i],i) (by rw [List.mem_zipIdx_iff_getElem?];exact Ab hi);rw [An,I1]at this;rw [Qn hi];exact⟨by simpa using this.1,this.2⟩
 intro h z hz;rw [List.mem_zipIdx_iff_getElem?]at hz;obtain⟨a,hz⟩:=Ah.1 hz;have:=h z.2 a;rw [Qn a,hz]at this;rw [An,I1];exact⟨by simpa using this.1,this.2⟩
theorem LV (a:Arena) (ha:a.Knots.length<=1048576):G4 a=some (Dz a.Knots):=by
 unfold G4;have h:=Yx (body:=λs:Int=>Ed a s) a.Knots (λi k=>k.Kids.length==4&&k.Kids.all (Oe a.Knots i k.Leaf)) (.inr false) (.inl ()) (by omega)
  (λi k hk=>by
   have hi:=(Ah.1 hk).1;simp only [Ed,AH,Ad hi,Ae,AF,hk,Aa];by_cases h4:k.Kids.length=4
   ·have e1:(ln k.Kids !=4)=false:=by simp [ln,h4]
    have e2:(k.Kids.length==4)=true:=by simp [h4]
    simp only [e1,Ac,e2,C8];have q:=Yx (body:=λs:Int=>Ec a (i:Int) k s) k.Kids (λ_ n=>Oe a.Knots i k.Leaf n) (.inr (.inr (.inr false))) (.inl ()) (by omega)
     (λj n hn=>by
      have hj:=(Ah.1 hn).1;simp only [Ec];rw [Ad (by omega:(j:Int)<4),Ae,AF,hn];simp only [Aa,Oe]
      cases hl:k.Leaf with
      |true=>
       simp only [Ae,Ao,Ac];by_cases h0:n<0
       ·rw [Ad h0,Af (by omega:¬0<=n)];rfl
       rw [Af h0,Ad (by omega:0<=n)];simp only [Ac,Aa,Ae];rw [ad1 (by omega)]
      |false=>
       simp only [Ac,AN,Ae];by_cases h1:n= -1
       ·subst h1;simp only [bne_self_eq_false,Ac,Aa,BEq.rfl,Bool.true_or,Ae];rw [ad1 (by omega)]
       have e3:(n != -1)=true:=by simp [h1]
       have e4:(n== -1)=false:=by simp [h1]
       rw [e3,e4];simp only [Ae,Oz];rw [Cw (by omega) (by omega),EE];simp only [Aa];by_cases h2:0<=n/\n<=(i:Int)-1
       ·rw [Ad h2];simp only [Ao,Ac];rw [N0 h2.1 (by omega)];simp only [Aa,C8]
        cases(Ct a.Knots n).Leaf with
        |true=>simp only [Ao,Ac,Ae];rw [ad1 (by omega)]
        |false=>rfl
       rw [Af h2];rfl)
     (by simp only [Ec];rw [Af (by omega:¬((k.Kids.length:Nat):Int)<4),Ac])
    rw [q];have hz:(k.Kids.zipIdx.all λz=>Oe a.Knots i k.Leaf z.1)=k.Kids.all (Oe a.Knots i k.Leaf):=by
     rw [show(λz:Int×Nat=>Oe a.Knots i k.Leaf z.1)=(Oe a.Knots i k.Leaf)∘Prod.fst from rfl,<-List.all_map];congr 1;simp
    simp only [Aa];rw [hz]
    cases k.Kids.all (Oe a.Knots i k.Leaf)with
    |true=>simp only [Ae,BX];rw [ad1 (by omega)]
    |false=>rfl
   have e1:(ln k.Kids !=4)=true:=by simp [ln];omega
   have e2:(k.Kids.length==4)=false:=by simp [h4]
   simp only [e1,Ae,e2,Bool.false_and,Ac])
  (by simp only [Ed,AH,As,Aw,Ac])
 rw [h];unfold Dz;simp only [Aa];cases(a.Knots.zipIdx.all λz=>z.1.Kids.length==4&&z.1.Kids.all (Oe a.Knots z.2 z.1.Leaf))<;>rfl
theorem LP (a:Arena) (ha:a.Knots.length<=1048576) (r:Int):Hf a r=some (Ep a.Knots r):=by
 unfold Hf Ep
 cases hr:(r== -1)with
 |true=>rfl
 |false=>
  simp only [Ac,Oz];rw [Cf,Cw (by omega) (by omega),EE];simp only [Aa];by_cases h:0<=r/\r<(a.Knots.length:Int)
  ·rw [Ad h,Ad (by omega:0<=r/\r<=(a.Knots.length:Int)-1)];simp only [Ae,C8];rw [N0 h.1 h.2];rfl
  rw [Af h,Af (by omega:¬(0<=r/\r<=(a.Knots.length:Int)-1))];rfl
theorem CI {K:Ks} {r:Int} (h:Ep K r=true):r= -1\/(0<=r/\r<(K.length:Int)/\(Ct K r).Leaf=false):=by
 unfold Ep at h;simp only [CN,Ci,An,A9,Dg]at h
 rcases h with h|h
 ·exact .inl h
 exact .inr ⟨h.1.1,h.1.2,h.2⟩
theorem I6 {K:Ks} (hK:Dz K=true) {r:Int} (h0:0<=r) (h1:r<(K.length:Int)):(Ct K r).Kids.length=4/\∀j,j<4->(Ct K r).Kids[j]?=some (ML (Ct K r) j)/\Oe K r.toNat (Ct K r).Leaf (ML (Ct K r) j)=true:=by
 have:=HV.1 hK r.toNat (by omega);rw [show((r.toNat:Nat):Int)=r by omega]at this;refine⟨this.1,λj hj=>?_⟩;have a:j<(Ct K r).Kids.length:=by omega
 have e:(Ct K r).Kids[j]?=some (ML (Ct K r) j):=by unfold ML;rw [Ab a];rfl
 exact⟨e,this.2 _ (A8 e)⟩
theorem Hw {K:Ks} (hK:Dz K=true) {r:Int} (h0:0<=r) (h1:r<(K.length:Int)) (hl:(Ct K r).Leaf=false) {j:Nat} (hj:j<4):ML (Ct K r) j= -1\/(0<=ML (Ct K r) j/\ML (Ct K r) j<r/\(Ct K (ML (Ct K r) j)).Leaf=true):=by
 have:=((I6 hK h0 h1).2 j hj).2;rw [hl]at this;simp only [Oe,Ac,CN,Ci,An,A9]at this
 rcases this with h|⟨⟨h2,h3⟩,h4⟩
 ·exact .inl h
 exact .inr ⟨h2,by omega,h4⟩
theorem ACz {K:Ks} (hK:Dz K=true) {r:Int} (h0:0<=r) (h1:r<(K.length:Int)) (hl:(Ct K r).Leaf=true) {j:Nat} (hj:j<4):0<=ML (Ct K r) j:=by
 have:=((I6 hK h0 h1).2 j hj).2;rw [hl]at this;simpa [Oe]using this
theorem qu4 {s:Nat} (h:s<16):qu (s:Int) 4=((s/4:Nat):Int):=by
 unfold qu;rw [show Int.tdiv (s:Int) 4=((s/4:Nat):Int) by rw [Int.tdiv_eq_ediv_of_nonneg (by omega)];omega];exact NM (by omega) (by omega)
theorem AEy {s:Nat}:Int.tmod (s:Int) 4=((s %4:Nat):Int):=by
 rw [JV (by omega)];omega
theorem UB (a:Arena) (hK:Dz a.Knots=true) {r:Int} (hr:Ep a.Knots r=true) {s:Nat} (hs:s<16):M8 a r (s:Int)=some (Q4 a.Knots r s):=by
 unfold M8 Q4
 rcases CI hr with rfl|⟨h0,h1,hl⟩
 ·rfl
 rw [Af (by omega:¬r<0),A5 (by omega),Ac,N0 h0 h1];simp only [Aa];rw [qu4 hs,AF,((I6 hK h0 h1).2 (s/4) (by omega)).1];simp only [Aa]
 rcases Hw hK h0 h1 hl (show s/4<4 by omega)with e|⟨e1,e2,e3⟩
 ·rw [e];rfl
 rw [Af (by omega),A5 (by omega),Ac,N0 e1 (by omega)];simp only [Aa];rw [AEy,AF,((I6 hK e1 (by omega)).2 (s %4) (by omega)).1];rfl
theorem XO (a:Arena) (ha:a.Knots.length<=1048576) (hK:Dz a.Knots=true) {r:Int} (hr:Ep a.Knots r=true) {s:Nat} (hs:s<16):OJ a r (s:Int)=some (Q4 a.Knots r s):=by
 unfold OJ;rw [LV a ha,LP a ha,EE,hK,hr];simp only [Aa,Ao,Ac];rw [Ad (by omega:0<=(s:Int)/\(s:Int)<=15)];simp only [Ao,Ac];rw [UB a hK hr hs]
 try rfl
theorem OP (a:Arena) (ha:a.Knots.length<=1048576) (hK:Dz a.Knots=true) {r:Int} (hr:Ep a.Knots r=true):IN a r=some (Fi a.Knots r):=by
 unfold IN;obtain⟨b,h1,h2⟩:=Bq (body:=λs:List Int×Int=>GS a r s.1 s.2) (λ(o:List Int) i=>(o,i)) 16 (λi o=>o=(List.range i).map (Q4 a.Knots r)) (λb=>b=Fi a.Knots r)
  (λo i hi ho=>by
   refine .inl ⟨_,?_,rfl⟩;simp only [GS];rw [Ad (by omega:(i:Int)<16),Ae,XO a ha hK hr hi];simp only [Aa];rw [C6 (by rw [ho];simp;omega)];simp only [Aa]
   rw [ad1 (by omega),ho,Gi,CA,List.map_singleton])
  (λo ho=>⟨_,by simp only [GS];rw [Af (by omega:¬((16:Nat):Int)<16),Ac],ho⟩) (s:=[]) rfl
 have h1':Av (λs:List Int×Int=>GS a r s.1 s.2) ([],0)=some b:=h1;rw [h1',h2];rfl
end Go.TI
namespace Go.TI
open Go
theorem Px {α:Type} {by_:Nat} {l:List α} (h:l.length*by_<=140737488355328):ap by_ [] l=some l:=by
 rw [C6 (by simpa using h),A7]
def AFt (K:Ks):Prop:=K.length<=1048576/\∀k∈K,k.Kids.length<=1048576
theorem Tq {K:Ks} (hK:Dz K=true) (h:K.length<=1048576):AFt K:=by
 refine⟨h,λk hk=>?_⟩;obtain⟨i,hi,rfl⟩:=AG hk;have:=(HV.1 hK i hi).1;rw [Qn hi]at this;omega
theorem SE (a:Arena) (h:AFt a.Knots):Mk a=some a:=by
 unfold Mk;have h1:=Yw (body:=λs:Int×List Cb=>JA a s.1 s.2) a.Knots (λk=>k)
  (λi k out hk ho=>by
   have hi:=(Ah.1 hk).1;have hm:=h.2 k (A8 hk);have:=h.1;simp only [JA,AH,Ad hi,Ae,AF,hk,Aa];rw [Px (by omega)];simp only [Aa];rw [C6 (by simp;omega)];simp only [Aa]
   rw [ad1 (by omega)])
  (λout=>by simp only [JA,AH,As,Aw,Ac])
 rw [h1];simp only [Aa,List.map_id']
theorem LO (s:Store) (h:AFt s.Arena.Knots) (hv:s.Vols.length<=1048576):EM s=some s:=by
 unfold EM;rw [Px (by omega),SE _ h];rfl
def P6 (K:Ks) (r:Int) (s:Nat) (n:Int):List Int:=(if r<0 then [0,0,0,0]else if ML (Ct K r) (s/4)<0 then [0,0,0,0]else(Ct K (ML (Ct K r) (s/4))).Kids).set (s %4) n
def S0 (K:Ks) (r:Int) (s:Nat):List Int:=(if r<0 then [-1,-1,-1,-1]else(Ct K r).Kids).set (s/4) (K.length:Int)
def K0 (K:Ks) (r:Int) (s:Nat) (n:Int):Ks:=K++ [Cb.mk true (P6 K r s n),Cb.mk false (S0 K r s)]
theorem mk4:mk 8 (0:Int) 4=some [0,0,0,0]:=by rw [show(4:Int)=((4:Nat):Int)from rfl,Ys (by omega) (by omega)];rfl
theorem ACI {k:Cb} {j:Nat} (h:j<k.Kids.length):gi k.Kids (j:Int)=some (ML k j):=by
 unfold ML;rw [AF,Ab h];rfl
theorem vD (a:Arena) (ha:a.Knots.length<=1048000) (hK:Dz a.Knots=true) {r:Int} (hr:Ep a.Knots r=true) {s:Nat} (hs:s<16) {n:Int} (hn:0<=n):
  Wl a r (s:Int) n=some (Arena.mk (K0 a.Knots r s n),(a.Knots.length:Int)+1):=by
 unfold Wl;rw [SE _ (Tq hK (by omega)),LV a (by omega),LP a (by omega),EE,hK,hr];simp only [Aa,Ao,Ac];rw [Ad (by omega:0<=(s:Int)/\(s:Int)<=15),Af (by omega:¬n<0)];simp only [Ao,Ac,Aa];rw [mk4];simp only [Aa];have fin:∀(lf tp:List Int),lf.length=4->tp.length=4->K0 a.Knots r s n=a.Knots++ [Cb.mk true (lf.set (s %4) n),Cb.mk false (tp.set (s/4) (a.Knots.length:Int))]->
   ((gi lf (Int.tmod (s:Int) 4)).bind λx4=>(gi tp (qu (s:Int) 4)).bind λx5=>(ap 32 a.Knots [(Cb.mk true (si lf (Int.tmod (s:Int) 4) n)),(Cb.mk false (si tp (qu (s:Int) 4) (ln a.Knots)))]).bind λq4=>some ((Arena.mk q4),(sb (ln q4) 1)))=some (Arena.mk (K0 a.Knots r s n),(a.Knots.length:Int)+1):=by
  intro lf tp h1 h2 h3;rw [qu4 hs,AEy,AF,AF,Ab (by omega),Ab (by omega)];simp only [Aa];rw [C6 (by simp;omega),H7,H7,Cf,<-h3];simp only [Aa];rw [Cf,h3,Ag,Cw (by simp;omega) (by simp;omega)];simp only [Ay,Bm];congr 2;omega
 rcases CI hr with rfl|⟨h0,h1,hl⟩
 ·rw [Af (by omega:¬(-1:Int)>=0)];simp only [Ac,Aa];exact fin _ _ rfl rfl rfl
 rw [Ad (by omega:r>=0),Ae,N0 h0 h1];have h4:=(I6 hK h0 h1).1;simp only [Aa];rw [Px (by omega)];simp only [Aa];rw [qu4 hs,ACI (by omega:s/4<(Ct a.Knots r).Kids.length)];simp only [Aa];rw [<-qu4 hs]
 rcases Hw hK h0 h1 hl (show s/4<4 by omega)with e|⟨e1,e2,e3⟩
 ·rw [Af (by omega:¬ML (Ct a.Knots r) (s/4)>=0)];simp only [Ac,Aa];exact fin _ _ rfl h4 (by unfold K0 P6 S0;simp only [A5 (show¬r<0 by omega),A4 (show ML (Ct a.Knots r) (s/4)<0 by omega)])
 rw [Ad (by omega:ML (Ct a.Knots r) (s/4)>=0),Ae,N0 e1 (by omega)];have h5:=(I6 hK e1 (by omega)).1;simp only [Aa];rw [Px (by omega)];simp only [Aa];exact fin _ _ h5 h4 (by unfold K0 P6 S0;simp only [A5 (show¬r<0 by omega),A5 (show¬ML (Ct a.Knots r) (s/4)<0 by omega)])
def Pk (K:Ks) (r:Int) (i:Nat):Bool:=decide (0<=r)&&(decide (r=(i:Int))||(Ct K r).Kids.any λn=>decide (n=(i:Int)))
theorem kL {α:Type} (n:Nat) (f:Nat->α) (g:Nat->α->α):((List.range n).map f).mapIdx g=(List.range n).map λi=>g i (f i):=by
 apply Df;intro j;rw [JU,Bf,Bf];by_cases h:j<n
 ·rw [PF h];rfl
 rw [Dv (by simpa using h)];rfl
theorem QN {α:Type} (n:Nat) (f:Nat->α) (i:Nat) (x:α) (g:Nat->α) (h:∀j,j<n->g j=if j=i then x else f j):((List.range n).map f).set i x=(List.range n).map g:=by
 apply Df;intro j;rw [Cz,Bf,Bf];by_cases hj:j<n
 ·rw [PF hj];simp only [Bv,h j hj,Bo,Cj];by_cases e:i=j
  ·rw [A4 e,A4 (by omega),A4 e.symm]
  rw [A5 e,A5 (ET e)]
 rw [Dv (by simpa using hj)];simp only [Option.map_none,Bo,Cj];split
 ·rw [A5 (by omega)]
 rfl
theorem Kz {α:Type} {n:Nat} {f:Nat->α} {i:Nat} (h:i<n):((List.range n).map f)[i]?=some (f i):=by
 rw [Bf,PF h];rfl
theorem nZ {l:List Int} {m:Nat} {x:Int} (h:l[m]?=some x) (p:Int->Bool):(l.take (m+1)).any p=((l.take m).any p||p x):=by
 rw [EI,h,List.any_append];simp
theorem oT (a:Arena) (ha:a.Knots.length<=1048576) (hK:Dz a.Knots=true) {r:Int} (hr:Ep a.Knots r=true):SD a r=some ((List.range a.Knots.length).map (Pk a.Knots r)):=by
 unfold SD;rw [Cf,Ys (by omega) (by omega)];simp only [Aa]
 rcases CI hr with rfl|⟨h0,h1,hl⟩
 ·simp only [show decide ((-1:Int)<0)=true from rfl,Ae];congr 1;rw [show(Pk a.Knots (-1))=λ_=>false from rfl,LI,Cj]
 rw [Af (by omega:¬r<0),Ac];obtain⟨m,rfl⟩:∃m:Nat,r=(m:Int):=⟨r.toNat,by omega⟩;rw [AF,List.getElem?_replicate,A4 (by omega)];simp only [Aa];rw [H7];obtain⟨h4,hk⟩:=I6 hK h0 h1;obtain⟨b,q1,q2⟩:=Bq (body:=λs:List Bool×Int=>Jb a (m:Int) s.1 s.2) (λ(o:List Bool) i=>(o,i)) 4
  (λi o=>o=(List.range a.Knots.length).map λ(j:Nat)=>decide ((m:Int)=(j:Int))||((Ct a.Knots (m:Int)).Kids.take i).any λn=>decide (n=(j:Int)))
  (λb=>b=(List.range a.Knots.length).map (Pk a.Knots (m:Int)))
  (λo i hi ho=>by
   obtain⟨e,_⟩:=hk i hi;simp only [Jb];rw [Ad (by omega:(i:Int)<4),Ae,N0 h0 h1];simp only [Aa];rw [AF,e];simp only [Aa]
   rcases Hw hK h0 h1 hl hi with e1|⟨e1,e2,e3⟩
   ·rw [e1,Af (by omega:¬(-1:Int)>=0),Ac,ad1 (by omega)];refine .inl ⟨o,rfl,?_⟩;rw [ho];apply CX;intro j hj;rw [nZ e,e1,Af (by omega:¬(-1:Int)=(j:Int)),Oy]
   obtain⟨c,hc⟩:∃c:Nat,ML (Ct a.Knots (m:Int)) i=(c:Int):=⟨(ML (Ct a.Knots (m:Int)) i).toNat,by omega⟩;rw [hc,Ad (by omega:(c:Int)>=0),Ae]
   try simp only [Aa]
   rw [ho,AF,Kz (by omega)];simp only [Aa];rw [H7,ad1 (by omega)];refine .inl ⟨_,rfl,?_⟩;apply QN;intro j hj;rw [nZ e,hc];by_cases d:j=c
   ·subst d;simp
   rw [A5 d,Af (by omega:¬(c:Int)=(j:Int)),Oy])
  (λo ho=>⟨_,by simp only [Jb];rw [Af (by omega:¬((4:Nat):Int)<4),Ac],by
   rw [ho];apply CX;intro j hj;rw [Bb (by omega)];unfold Pk
   rw [Ad h0,C8]⟩) (s:=(List.replicate a.Knots.length false).set m true) (by
   rw [<-Cj (n:=a.Knots.length),<-LI,Cj];apply QN;intro j hj;simp only [Iy,List.any_nil,Oy];by_cases e:j=m
   ·subst e;simp
   rw [A5 e,Af (by omega)])
 have q1':Av (λs:List Bool×Int=>Jb a (m:Int) s.1 s.2) ((List.replicate a.Knots.length false).set m true,0)=some b:=q1;rw [q1',q2];rfl
end Go.TI
namespace Go.TI
open Go
def DQ (K:Ks) (R:List Int) (i:Nat):Bool:=R.any λr=>Pk K r i
def dU (K:Ks) (R:List Int) (i:Nat):Nat:=((List.range i).filter (DQ K R)).length
def QM (K:Ks) (R:List Int) (n:Int):Int:=if 0<=n then(dU K R n.toNat:Int)else n
def tU (K:Ks) (R:List Int) (i:Nat):Cb:=Cb.mk (Ct K (i:Int)).Leaf (bif(Ct K (i:Int)).Leaf then(Ct K (i:Int)).Kids else(Ct K (i:Int)).Kids.map (QM K R))
def Vq (K:Ks) (R:List Int):Ks:=((List.range K.length).filter (DQ K R)).map (tU K R)
theorem OZ {α:Type} (l:List α) (f:α->α):l.mapIdx (λ_ x=>f x)=l.map f:=by
 apply Df;intro j;rw [JU,Bf]
theorem QA {K:Ks} {R:List Int} {r:Int} (hr:r∈R) (h0:0<=r):DQ K R r.toNat=true:=by
 unfold DQ;rw [CY];exact⟨r,hr,by unfold Pk;rw [Ad h0,Ad (by omega:r=(r.toNat:Int))];rfl⟩
theorem nV {K:Ks} {R:List Int} (hK:Dz K=true) (hR:∀r∈R,Ep K r=true) {i:Nat} (hu:DQ K R i=true) (hl:(Ct K (i:Int)).Leaf=false):(i:Int)∈R:=by
 unfold DQ at hu;rw [CY]at hu;obtain⟨r,hr,h⟩:=hu;unfold Pk at h;simp only [An,CN,A9,CY]at h;obtain⟨h0,h⟩:=h
 rcases h with h|⟨n,hn,h⟩
 ·rw [<-h];exact hr
 rcases CI (hR r hr)with e|⟨_,h1,a⟩
 ·omega
 obtain⟨h4,hk⟩:=I6 hK h0 h1;obtain⟨j,hj,b⟩:=AG hn;have e:=(hk j (by omega)).1;rw [Ab hj,b]at e
 injection e with e
 rcases Hw hK h0 h1 a (show j<4 by omega)with k1|⟨_,_,k3⟩
 ·omega
 rw [<-e,h,hl]at k3;cases k3
theorem WH {K:Ks} {R:List Int} {r n:Int} (hr:r∈R) (h0:0<=r) (hn:n∈(Ct K r).Kids) (h1:0<=n):DQ K R n.toNat=true:=by
 unfold DQ;rw [CY];refine⟨r,hr,?_⟩;unfold Pk;rw [Ad h0,C8,CN,CY];exact .inr ⟨n,hn,by rw [A9];omega⟩
theorem AF1 {K:Ks} {R:List Int} (i:Nat):dU K R i<=i:=by
 have:=BI (DQ K R) (List.range i);rw [Cj]at this;exact this
theorem ZV (a:Arena) (ha:a.Knots.length<=1048576) (R:List Int) (hc:R.length<=1048576) (hR:∀r∈R,Ep a.Knots r=true):Av (λs:Bool×Int=>FO a R s.1 s.2) (true,0)=some true:=by
 obtain⟨b,h1,h2⟩:=Bq (body:=λs:Bool×Int=>FO a R s.1 s.2) (λ(o:Bool) i=>(o,i)) R.length (λ_ o=>o=true) (λb=>b=true)
  (λo i hi ho=>by
   have hx:=Ab hi;simp only [FO,AH,Ad hi,Ae,Aa,ho,AF,hx];rw [LP a ha,hR _ (AJ hi)];simp only [Aa];rw [ad1 (by omega)]
   exact .inl ⟨true,rfl,rfl⟩)
  (λo ho=>⟨o,by simp only [FO,AH,As,Aw,Ac,Aa],ho⟩) (s:=true) rfl
 rw [h2]at h1;exact h1
theorem gU (a:Arena) (ha:a.Knots.length<=1048576) (hK:Dz a.Knots=true) (R:List Int) (hc:R.length<=1048576) (hR:∀r∈R,Ep a.Knots r=true):
  Av (λs:List Bool×Int=>FN a R s.1 s.2) (List.replicate a.Knots.length false,0)=some ((List.range a.Knots.length).map (DQ a.Knots R)):=by
 obtain⟨b,h1,h2⟩:=Bq (body:=λs:List Bool×Int=>FN a R s.1 s.2) (λ(o:List Bool) i=>(o,i)) R.length (λi o=>o=(List.range a.Knots.length).map λ(j:Nat)=>(R.take i).any λr=>Pk a.Knots r j) (λb=>b=(List.range a.Knots.length).map (DQ a.Knots R))
  (λo i hi ho=>by
   have hx:=Ab hi;simp only [FN,AH,Ad hi,Ae,Aa,AF,hx];rw [oT a ha hK (hR _ (AJ hi))];simp only [Aa];have d:o.length=a.Knots.length:=by rw [ho];simp
   have q:=SX (body:=λs:List Bool×Int=>GX ((List.range a.Knots.length).map (Pk a.Knots R[i])) s.1 s.2) (λl i=>(l,i)) (λk x=>x||Pk a.Knots R[i] k) o
    (λk l x hl c e=>by
     have hk:k<a.Knots.length:=by have:=(Ah.1 c).1;omega
     simp only [GX,AH];rw [Ad (by simpa using hk),Ae,AF,c];simp only [Aa]
     cases x with
     |true=>simp only [Ae,Bool.true_or];rw [H7,ad1 (by omega)]
     |false=>
      simp only [Ac,Oz];rw [AF,Kz hk];simp only [Aa]
      rw [H7,ad1 (by omega)])
    (λl hl=>by simp only [GX,AH];rw [d,Af (by simp),Ac])
   rw [q];simp only [Aa];rw [ad1 (by omega),ho,kL];refine .inl ⟨_,rfl,?_⟩;apply CX;intro j hj;rw [EI,hx,List.any_append]
   simp)
  (λo ho=>⟨o,by simp only [FN,AH,As,Aw,Ac],by rw [ho,Bb (by omega)];rfl⟩) (s:=List.replicate a.Knots.length false) (by
   simp only [Iy,List.any_nil]
   rw [LI,Cj])
 rw [<-h2];exact h1
def vX (K:Ks) (R:List Int) (i:Nat):List Int:=(List.range K.length).map λ(j:Nat)=>if j<i/\DQ K R j=true then(dU K R j:Int)else 0
theorem ZW (a:Arena) (ha:a.Knots.length<=1048576) (hK:Dz a.Knots=true) (R:List Int) (hR:∀r∈R,Ep a.Knots r=true):
  Av (λs:List Int×Int×List Cb=>FM a ((List.range a.Knots.length).map (DQ a.Knots R)) s.1 s.2.1 s.2.2) (List.replicate a.Knots.length 0,0,[])=some (vX a.Knots R a.Knots.length,Vq a.Knots R):=by
 obtain⟨b,h1,h2⟩:=Bq (body:=λs:List Int×Int×List Cb=>FM a ((List.range a.Knots.length).map (DQ a.Knots R)) s.1 s.2.1 s.2.2) (λ(o:List Int×List Cb) i=>(o.1,i,o.2)) a.Knots.length
  (λi o=>o=(vX a.Knots R i,((List.range i).filter (DQ a.Knots R)).map (tU a.Knots R))) (λb=>b=(vX a.Knots R a.Knots.length,Vq a.Knots R))
  (λo i hi ho=>by
   subst ho;simp only [FM,AH,Ad hi,Ae];rw [AF,Kz hi];simp only [Aa]
   cases hu:DQ a.Knots R i with
   |false=>
    simp only [AN,Ae];rw [ad1 (by omega)];refine .inl ⟨(vX a.Knots R i,((List.range i).filter (DQ a.Knots R)).map (tU a.Knots R)),rfl,?_⟩;congr 1
    ·unfold vX;apply CX;intro j hj;by_cases e:j=i
     ·subst e;rw [A5 (by omega),A5 (by rw [hu];simp)]
     by_cases h:j<i/\DQ a.Knots R j=true
     ·rw [A4 h,A4 ⟨by omega,h.2⟩]
     rw [A5 h,A5 (λh3=>h ⟨by omega,h3.2⟩)]
    rw [Gi,AQ,B9 (by rw [hu];simp)];simp
   |true=>
    simp only [Ao,Ac];have h0:(0:Int)<=(i:Int):=by omega
    have d:(i:Int)<(a.Knots.length:Int):=by omega
    rw [N0 h0 d];obtain⟨h4,hk⟩:=I6 hK h0 d;simp only [Aa];rw [Px (by omega)];simp only [Aa];have inner:Av (λs:Int×List Int=>FL (vX a.Knots R i) ((Ct a.Knots (i:Int)).Leaf,(Ct a.Knots (i:Int)).Kids) s.1 s.2) (0,(Ct a.Knots (i:Int)).Kids)=some (tU a.Knots R i).Kids:=by
     unfold tU
     cases hl:(Ct a.Knots (i:Int)).Leaf with
     |true=>rw [A6];rfl
     |false=>
      have q:=SX (body:=λs:Int×List Int=>FL (vX a.Knots R i) (false,(Ct a.Knots (i:Int)).Kids) s.1 s.2) (λl k=>(k,l)) (λ_ x=>QM a.Knots R x) (Ct a.Knots (i:Int)).Kids
       (λk l x t f g=>by
        have m:k<4:=by have:=(Ah.1 g).1;omega
        have ex:x=ML (Ct a.Knots (i:Int)) k:=by have:=(hk k m).1;rw [g]at this;injection this
        simp only [FL];rw [Ad (by omega:(k:Int)<4)];simp only [Ae,Aa,AN];rw [AF,f];simp only [Aa]
        rcases Hw hK h0 d hl m with e|⟨e1,e2,e3⟩
        ·rw [Af (by omega:¬x>=0),Ac,ad1 (by omega)];have:QM a.Knots R x=x:=by unfold QM;rw [A5 (by omega)]
         rw [this,show l.set k x=l from by
          apply Df;intro j;rw [Cz];split
          ·rename_i e5;subst e5;rw [A4 (Ah.1 f).1,f]
          rfl]
        rw [Ad (by omega:x>=0),Ae];obtain⟨c,hc⟩:∃c:Nat,x=(c:Int):=⟨x.toNat,by omega⟩;have u:x∈(Ct a.Knots (i:Int)).Kids:=A8 g;have n:=WH (nV hK hR hu hl) h0 u (by omega);rw [hc]at n;rw [hc,AF];unfold vX;rw [Kz (by omega)];simp only [Aa];rw [A4 ⟨by omega,n⟩,H7,ad1 (by omega)];unfold QM;rw [A4 (by omega)]
        rfl)
       (λl t=>by
        simp only [FL];rw [h4,Af (by omega:¬((4:Nat):Int)<4)]
        rfl)
      rw [OZ]at q;exact q
    rw [inner];simp only [Aa];have v:gi (vX a.Knots R i) (i:Int)=some 0:=by
     unfold vX;rw [AF,Kz hi,A5 (by omega)]
    rw [v];simp only [Aa];have w:=AF1 (K:=a.Knots) (R:=R) i;have p:(((List.range i).filter (DQ a.Knots R)).map (tU a.Knots R)).length=dU a.Knots R i:=by rw [Bo];rfl
    rw [C6 (by rw [p];simp;omega)];simp only [Aa];rw [ad1 (by omega),Cf,p,H7];refine .inl ⟨(_,_),rfl,?_⟩;congr 1
    ·unfold vX;apply QN;intro j hj;by_cases e:j=i
     ·subst e;rw [A4 ⟨by omega,hu⟩,A4 rfl]
     rw [A5 e];by_cases h:j<i/\DQ a.Knots R j=true
     ·rw [A4 h,A4 ⟨by omega,h.2⟩]
     rw [A5 h,A5 (λh3=>h ⟨by omega,h3.2⟩)]
    rw [Gi,AQ,BG hu,En,CA]
    rfl)
  (λo ho=>⟨o,by simp only [FM,AH,As,Aw,Ac],ho⟩) (s:=(List.replicate a.Knots.length 0,[])) (by
   unfold vX;simp only [Nat.not_lt_zero,false_and,GB];rw [LI,Cj]
   rfl)
 rw [<-h2];exact h1
theorem u0 (a:Arena) (ha:a.Knots.length<=1048576) (R:List Int) (hc:R.length<=1048576) (hR:∀r∈R,Ep a.Knots r=true):
  Av (λs:List Int×Int=>FK (vX a.Knots R a.Knots.length,Vq a.Knots R) s.1 s.2) (R,0)=some (R.map (QM a.Knots R)):=by
 have q:=SX (body:=λs:List Int×Int=>FK (vX a.Knots R a.Knots.length,Vq a.Knots R) s.1 s.2) (λl k=>(l,k)) (λ_ x=>QM a.Knots R x) R
  (λk l x f b d=>by
   have hk:=(Ah.1 d).1;have g:=(Ah.1 b).1;simp only [FK,AH,Ad g,Ae,AF,b,Aa]
   rcases CI (hR x (A8 d))with e|⟨e1,e2,e3⟩
   ·rw [Af (by omega:¬x>=0),Ac,ad1 (by omega)];have:QM a.Knots R x=x:=by unfold QM;rw [A5 (by omega)]
    rw [this,show l.set k x=l from by
     apply Df;intro j;rw [Cz];split
     ·rename_i e5;subst e5
      first
       |rw [A4 g,b]
       |exact b.symm
     rfl]
   rw [Ad (by omega:x>=0),Ae];obtain⟨c,h⟩:∃c:Nat,x=(c:Int):=⟨x.toNat,by omega⟩;have i:=QA (K:=a.Knots) (A8 d) e1;rw [h]at i;rw [h,AF];unfold vX;rw [Kz (by omega)];simp only [Aa];rw [A4 ⟨by omega,i⟩,H7,ad1 (by omega)];unfold QM;rw [A4 (by omega)]
   rfl)
  (λl f=>by simp only [FK,Cf,f];rw [Af (by omega),Ac])
 rw [OZ]at q;exact q
theorem Xx (a:Arena) (ha:a.Knots.length<=1048576) (hK:Dz a.Knots=true) (R:List Int) (hc:R.length<=1048576) (hR:∀r∈R,Ep a.Knots r=true):
  JC a R=some (Arena.mk (Vq a.Knots R),R.map (QM a.Knots R)):=by
 unfold JC;rw [Px (by omega),LV a ha,hK];simp only [Aa];rw [ZV a ha R hc hR];simp only [Aa,Ao,Ac];rw [Cf,Ys (by omega) (by omega)];simp only [Aa];rw [gU a ha hK R hc hR];simp only [Aa];rw [Ys (by omega) (by omega)];simp only [Aa];rw [ZW a ha hK R hR];simp only [Aa];rw [u0 a ha R hc hR];rfl
end Go.TI
namespace Go.TI
open Go
theorem YS (p:Nat->Bool) {i:Nat} (hp:p i=true):∀{n:Nat},i<n->((List.range n).filter p)[((List.range i).filter p).length]?=some i
 |0,h=>by omega
 |n+1,h=>by
  rw [Gi,AQ];by_cases e:i=n
  ·subst e;rw [AU (A0 _),Q9,BG hp];rfl
  have h2:=YS p hp (show i<n by omega);have h3:=(Ah.1 h2).1;rw [AS h3,h2]
theorem sK (p:Nat->Bool) {i:Nat} (hp:p i=true) {n:Nat} (h:i<n):((List.range i).filter p).length<((List.range n).filter p).length:=(Ah.1 (YS p hp h)).1
theorem sJ (p:Nat->Bool):∀{n j:Nat},j<((List.range n).filter p).length->∃i,i<n/\p i=true/\((List.range i).filter p).length=j
 |0,j,h=>by simp at h
 |n+1,j,h=>by
  rw [Gi,AQ,Ag]at h;by_cases e:j<((List.range n).filter p).length
  ·obtain⟨i,h1,h2,h3⟩:=sJ p e;exact⟨i,by omega,h2,h3⟩
  by_cases hp:p n=true
  ·rw [BG hp]at h;simp at h;exact⟨n,by omega,hp,by omega⟩
  rw [B9 hp]at h;simp at h;omega
section
variable {K:Ks} {R:List Int}
theorem fP:(Vq K R).length=dU K R K.length:=by unfold Vq dU;rw [Bo]
theorem QC {i:Nat} (hu:DQ K R i=true) (hi:i<K.length):Ct (Vq K R) (dU K R i:Nat)=tU K R i/\dU K R i<(Vq K R).length:=by
 have h:=sK (DQ K R) hu hi;have h2:dU K R i<(Vq K R).length:=by rw [fP];exact h
 refine⟨?_,h2⟩;unfold Ct;rw [AF];unfold Vq;rw [Bf];have:=YS (DQ K R) hu hi;rw [show dU K R i=((List.range i).filter (DQ K R)).length from rfl,this];rfl
theorem ABD {j:Nat} (hj:j<(Vq K R).length):∃i,i<K.length/\DQ K R i=true/\dU K R i=j:=by
 rw [fP]at hj;exact sJ (DQ K R) hj
theorem AF0 {i j:Nat} (hu:DQ K R i=true) (h:i<j):dU K R i<dU K R j:=sK _ hu h
theorem WO (i:Nat):(tU K R i).Leaf=(Ct K (i:Int)).Leaf:=rfl
theorem zB (hK:Dz K=true) {i:Nat} (hi:i<K.length):(tU K R i).Kids.length=4:=by
 have:=(HV.1 hK i hi).1;unfold tU
 cases(Ct K (i:Int)).Leaf with
 |true=>exact this
 |false=>simp only [Ac,Bo];exact this
theorem zC {i j:Nat} (hl:(Ct K (i:Int)).Leaf=false) (hj:j<(Ct K (i:Int)).Kids.length):ML (tU K R i) j=QM K R (ML (Ct K (i:Int)) j):=by
 unfold ML tU;rw [hl];simp only [Ac];rw [Bf,Ab hj];rfl
theorem Ru {i:Nat} (hl:(Ct K (i:Int)).Leaf=true):(tU K R i).Kids=(Ct K (i:Int)).Kids:=by
 unfold tU;rw [hl];rfl
theorem QK {n:Int} (h:n<0):QM K R n=n:=by unfold QM;rw [A5 (by omega)]
theorem QL (n:Nat):QM K R (n:Int)=(dU K R n:Int):=by unfold QM;rw [A4 (by omega)];rfl
theorem AE1 (hK:Dz K=true) (hR:∀r∈R,Ep K r=true):Dz (Vq K R)=true:=by
 rw [HV];intro j hj;obtain⟨i,hi,hu,rfl⟩:=ABD hj;rw [(QC hu hi).1];refine⟨zB hK hi,λn hn=>?_⟩;have h0:(0:Int)<=(i:Int):=by omega
 have h1:(i:Int)<(K.length:Int):=by omega
 obtain⟨h4,hk⟩:=I6 hK h0 h1;rw [WO]
 cases hl:(Ct K (i:Int)).Leaf with
 |true=>
  rw [Ru hl]at hn;have:=(HV.1 hK i hi).2 n hn;rw [hl]at this;simpa [Oe]using this
 |false=>
  obtain⟨m,hm,b⟩:=AG hn;rw [zB hK hi]at hm;have e:n=QM K R (ML (Ct K (i:Int)) m):=by
   rw [<-zC hl (by omega),<-b];unfold ML;rw [Ab];rfl
  rcases Hw hK h0 h1 hl hm with k1|⟨k1,k2,k3⟩
  ·rw [k1,QK (by omega)]at e;subst e;rfl
  obtain⟨c,hc⟩:∃c:Nat,ML (Ct K (i:Int)) m=(c:Int):=⟨_,(B6 k1).symm⟩;rw [hc]at e k2 k3;rw [QL]at e;have a:=WH (nV hK hR hu hl) h0 (A8 (hk m hm).1) (by omega);rw [hc]at a;have d:c<K.length:=by omega
  have f:dU K R c<dU K R i:=AF0 (by simpa using a) (by omega);subst e;simp only [Oe,Ac,CN,Ci,An,A9];refine .inr ⟨by omega,?_⟩;rw [(QC (by simpa using a) d).1,WO];exact k3
theorem AB1 (hR:∀r∈R,Ep K r=true) {r:Int} (hr:r∈R):Ep (Vq K R) (QM K R r)=true:=by
 rcases CI (hR r hr)with e|⟨h0,h1,hl⟩
 ·rw [e,QK (by omega)];rfl
 obtain⟨c,rfl⟩:∃c:Nat,r=(c:Int):=⟨_,(B6 h0).symm⟩;have a:=QA (K:=K) hr h0;rw [BA]at a;obtain⟨g1,g2⟩:=QC a (by omega);rw [QL];unfold Ep;rw [Ad (by omega),g1,WO,hl];simp
theorem zL (hK:Dz K=true) (hR:∀r∈R,Ep K r=true) {r:Int} (hr:r∈R):Fi (Vq K R) (QM K R r)=Fi K r:=by
 unfold Fi;apply CX;intro s hs;rw [GF]at hs;unfold Q4
 rcases CI (hR r hr)with e|⟨h0,h1,hl⟩
 ·rw [e,QK (by omega),A4 (by omega),A4 (by omega)]
 obtain⟨c,rfl⟩:∃c:Nat,r=(c:Int):=⟨_,(B6 h0).symm⟩;have a:=QA (K:=K) hr h0;rw [BA]at a;obtain⟨g1,g2⟩:=QC a (by omega);obtain⟨h4,hk⟩:=I6 hK h0 h1;rw [QL,g1,zC hl (by omega)];simp only [A5 (show¬((dU K R c:Nat):Int)<0 by omega),A5 (show¬((c:Nat):Int)<0 by omega)]
 rcases Hw hK h0 h1 hl (show s/4<4 by omega)with k1|⟨k1,k2,k3⟩
 ·rw [k1,QK (by omega)];rfl
 obtain⟨d,hd⟩:∃d:Nat,ML (Ct K (c:Int)) (s/4)=(d:Int):=⟨_,(B6 k1).symm⟩;have b:=WH hr h0 (A8 (hk (s/4) (by omega)).1) k1;rw [hd]at b k2 k3;rw [hd,QL];simp only [A5 (show¬((dU K R d:Nat):Int)<0 by omega),A5 (show¬((d:Nat):Int)<0 by omega)];rw [(QC (by simpa using b) (by omega)).1];unfold ML;rw [Ru k3]
theorem ADz (hK:Dz K=true) (hR:∀r∈R,Ep K r=true) {j:Nat} (hj:j<(Vq K R).length):DQ (Vq K R) (R.map (QM K R)) j=true:=by
 obtain⟨i,hi,hu,rfl⟩:=ABD hj;have hu':=hu;unfold DQ at hu';rw [CY]at hu';obtain⟨r,hr,h⟩:=hu';unfold Pk at h;simp only [An,CN,A9,CY]at h;obtain⟨h0,h⟩:=h;unfold DQ;rw [CY];refine⟨QM K R r,AO.2 ⟨r,hr,rfl⟩,?_⟩;obtain⟨c,rfl⟩:∃c:Nat,r=(c:Int):=⟨_,(B6 h0).symm⟩;rw [QL];unfold Pk;simp only [An,CN,A9,CY];refine⟨by omega,?_⟩
 rcases h with h|⟨n,hn,h⟩
 ·have:c=i:=by omega
  subst this;exact .inl rfl
 right
 rcases CI (hR _ hr)with e|⟨_,h1,hl⟩
 ·omega
 have a:=QA (K:=K) hr h0;rw [BA]at a;rw [(QC a (by omega)).1];refine⟨(dU K R i:Int),?_,rfl⟩;unfold tU;rw [hl];simp only [Ac,AO];exact⟨n,hn,by rw [h,QL]⟩
theorem MK {X:Ks} {i:Int} (h0:0<=i) (h:i<(K.length:Int)):Ct (K++X) i=Ct K i:=by
 obtain⟨c,rfl⟩:∃c:Nat,i=(c:Int):=⟨_,(B6 h0).symm⟩;unfold Ct;rw [AF,AF,AS (by omega)]
theorem ABY {X:Ks} {r:Int} (h:Ep K r=true):Ep (K++X) r=true:=by
 rcases CI h with e|⟨h0,h1,hl⟩
 ·rw [e];rfl
 unfold Ep;rw [MK h0 h1,hl,Ad (by rw [Ag];omega)];simp
theorem zH {X:Ks} (hK:Dz K=true) {r:Int} (h:Ep K r=true):Fi (K++X) r=Fi K r:=by
 unfold Fi;apply CX;intro s hs;rw [GF]at hs;unfold Q4
 rcases CI h with e|⟨h0,h1,hl⟩
 ·rw [e];rfl
 rw [MK h0 h1];simp only [A5 (show¬r<0 by omega)]
 rcases Hw hK h0 h1 hl (show s/4<4 by omega)with k1|⟨k1,k2,k3⟩
 ·rw [k1];rfl
 rw [MK k1 (by omega)]
theorem eH (hK:Dz K=true) {r:Int} (hr:Ep K r=true) {s:Nat} (hs:s<16) (n:Int):(P6 K r s n).length=4:=by
 unfold P6;rw [Gj]
 rcases CI hr with e|⟨h0,h1,hl⟩
 ·rw [A4 (by omega)];rfl
 rw [A5 (by omega)]
 rcases Hw hK h0 h1 hl (show s/4<4 by omega)with k1|⟨k1,k2,k3⟩
 ·rw [A4 (by omega)];rfl
 rw [A5 (by omega)];exact(I6 hK k1 (by omega)).1
theorem nY (hK:Dz K=true) {r:Int} (hr:Ep K r=true) (s:Nat):(S0 K r s).length=4:=by
 unfold S0;rw [Gj]
 rcases CI hr with e|⟨h0,h1,hl⟩
 ·rw [A4 (by omega)];rfl
 rw [A5 (by omega)];exact(I6 hK h0 h1).1
theorem TX {r:Int} {s:Nat} {n:Int}:Ct (K0 K r s n) (K.length:Int)=Cb.mk true (P6 K r s n):=by
 unfold Ct K0;rw [AF,AU (A0 _),Q9];rfl
theorem TW {r:Int} {s:Nat} {n:Int}:Ct (K0 K r s n) ((K.length:Int)+1)=Cb.mk false (S0 K r s):=by
 unfold Ct K0;rw [show(K.length:Int)+1=((K.length+1:Nat):Int)from rfl,AF,AU (by omega),show K.length+1-K.length=1 by omega];rfl
theorem AFb (hK:Dz K=true) {r:Int} (hr:Ep K r=true) {s:Nat} (hs:s<16) {n:Int} (hn:0<=n):Dz (K0 K r s n)=true:=by
 rw [HV];intro j hj;have a:(K0 K r s n).length=K.length+2:=by unfold K0;simp
 rw [a]at hj;by_cases h:j<K.length
 ·have hk:Ct (K0 K r s n) (j:Int)=Ct K (j:Int):=MK (by omega) (by omega);rw [hk];obtain⟨h4,h5⟩:=HV.1 hK j h;refine⟨h4,λm hm=>?_⟩;have:=h5 m hm
  cases hl:(Ct K (j:Int)).Leaf with
  |true=>rw [hl]at this;exact this
  |false=>
   rw [hl]at this;simp only [Oe,Ac,CN,Ci,An,A9]at this⊢
   rcases this with e|⟨e1,e2⟩
   ·exact .inl e
   refine .inr ⟨e1,?_⟩;rw [show Ct (K0 K r s n) m=Ct K m from MK e1.1 (by omega)];exact e2
 by_cases e:j=K.length
 ·subst e;rw [TX];refine⟨eH hK hr hs n,λm hm=>?_⟩;simp only [Oe,Ae,A9];unfold P6 at hm
  rcases Dl hm with hm|hm
  ·rcases CI hr with e|⟨h0,h1,hl⟩
   ·rw [A4 (by omega)]at hm;simp at hm;omega
   rw [A5 (by omega)]at hm
   rcases Hw hK h0 h1 hl (show s/4<4 by omega)with k1|⟨k1,k2,k3⟩
   ·rw [A4 (by omega)]at hm;simp at hm;omega
   rw [A5 (by omega)]at hm;have hq:=HV.1 hK (ML (Ct K r) (s/4)).toNat (by omega);rw [B6 k1,k3]at hq;have:=hq.2 m hm;simpa [Oe]using this
  omega
 have:j=K.length+1:=by omega
 subst this;rw [show((K.length+1:Nat):Int)=(K.length:Int)+1 from rfl,TW];refine⟨nY hK hr s,λm hm=>?_⟩;simp only [Oe,Ac,CN,Ci,An,A9];unfold S0 at hm
 rcases Dl hm with hm|hm
 ·rcases CI hr with e|⟨h0,h1,hl⟩
  ·rw [A4 (by omega)]at hm;simp at hm;omega
  rw [A5 (by omega)]at hm;obtain⟨q,hq,rfl⟩:=AG hm;obtain⟨h4,hk⟩:=I6 hK h0 h1;have e5:=(hk q (by omega)).1;rw [Ab hq]at e5
  injection e5 with e5
  rw [e5]
  rcases Hw hK h0 h1 hl (show q<4 by omega)with k1|⟨k1,k2,k3⟩
  ·exact .inl k1
  refine .inr ⟨by omega,?_⟩;rw [show Ct (K0 K r s n) (ML (Ct K r) q)=Ct K (ML (Ct K r) q)from MK k1 (by omega)];exact k3
 refine .inr ⟨by omega,?_⟩;rw [hm,TX]
theorem AAI {r:Int} {s:Nat} {n:Int}:Ep (K0 K r s n) ((K.length:Int)+1)=true:=by
 unfold Ep;rw [TW,Ad (by unfold K0;simp;omega)];simp
theorem zN (hK:Dz K=true) {r:Int} (hr:Ep K r=true) {s:Nat} (hs:s<16) {n:Int}:Fi (K0 K r s n) ((K.length:Int)+1)=(Fi K r).set s n:=by
 unfold Fi;symm;apply QN;intro t ht;unfold Q4;rw [TW];simp only [A5 (show¬((K.length:Int)+1)<0 by omega)];have a:=nY hK hr s;have b:=eH hK hr hs n;by_cases hq:t/4=s/4
 ·have e1:ML (Cb.mk false (S0 K r s)) (t/4)=(K.length:Int):=by
   unfold ML S0;rw [hq,Cz,A4 rfl];unfold S0 at a;rw [Gj]at a;rw [A4 (by rw [a];omega)];rfl
  rw [e1,A5 (by omega),TX];have e2:ML (Cb.mk true (P6 K r s n)) (t %4)=if t %4=s %4 then n else(if r<0 then 0 else if ML (Ct K r) (s/4)<0 then 0 else ML (Ct K (ML (Ct K r) (s/4))) (t %4)):=by
   unfold ML P6;unfold P6 at b;rw [Gj]at b;rw [Cz];by_cases e:s %4=t %4
   ·rw [A4 e,A4 (by rw [b];omega),A4 e.symm];rfl
   rw [A5 e,A5 (ET e)];have zero:([0,0,0,0]:List Int)[t %4]?.getD 0=0:=by
    have:t %4<4:=by omega
    generalize t %4=q at this
    match q,this with
    |0,_=>rfl
    |1,_=>rfl
    |2,_=>rfl
    |3,_=>rfl
   by_cases c1:r<0
   ·rw [A4 c1,A4 c1];exact zero
   rw [A5 c1,A5 c1];unfold ML;by_cases c2:((Ct K r).Kids[s/4]?).getD 0<0
   ·rw [A4 c2,A4 c2];exact zero
   rw [A5 c2,A5 c2]
  rw [e2,hq];by_cases e:t=s
  ·rw [A4 e,A4 (by rw [e])]
  rw [A5 e,A5 (by omega)]
 rw [A5 (show¬t=s by intro e;rw [e]at hq;exact hq rfl)];have e1:ML (Cb.mk false (S0 K r s)) (t/4)=if r<0 then-1 else ML (Ct K r) (t/4):=by
  unfold ML S0;rw [Cz,A5 (ET hq)];by_cases c1:r<0
  ·rw [A4 c1,A4 c1];have:t/4<4:=by omega
   generalize t/4=q at this
   match q,this with
   |0,_=>rfl
   |1,_=>rfl
   |2,_=>rfl
   |3,_=>rfl
  rw [A5 c1,A5 c1]
 rw [e1]
 rcases CI hr with e|⟨h0,h1,hl⟩
 ·rw [e];rfl
 simp only [A5 (show¬r<0 by omega)]
 rcases Hw hK h0 h1 hl (show t/4<4 by omega)with k1|⟨k1,k2,k3⟩
 ·rw [k1];rfl
 rw [show Ct (K0 K r s n) (ML (Ct K r) (t/4))=Ct K (ML (Ct K r) (t/4))from MK k1 (by omega)]
end
end Go.TI
namespace Go.TI
open Go
def Lu (n:Nat) (p:Nat->Bool):Nat:=((List.range n).filter p).length
theorem K9 (n:Nat) (p:Nat->Bool):Lu (n+1) p=Lu n p+(if p n=true then 1 else 0):=by
 unfold Lu;rw [Gi,AQ,Ag];by_cases h:p n=true
 ·rw [A4 h,BG h];rfl
 rw [A5 h,B9 h];rfl
theorem Wy (p q:Nat->Bool):∀n,Lu n (λj=>p j||q j)<=Lu n p+Lu n q
 |0=>by simp [Lu]
 |n+1=>by
  have:=Wy p q n;rw [K9,K9,K9];cases p n<;>cases q n<;>simp<;>omega
theorem YZ (x:Int):∀n,Lu n (λj=>decide (x=(j:Int)))<=1/\(x>=(n:Int)->Lu n (λj=>decide (x=(j:Int)))=0)
 |0=>by simp [Lu]
 |n+1=>by
  obtain⟨h1,h2⟩:=YZ x n;rw [K9];by_cases h:x=(n:Int)
  ·have:=h2 (by omega);rw [A4 (by simpa using h)];exact⟨by omega,λh3=>by omega⟩
  rw [A5 (by simpa using h)];exact⟨by omega,λh3=>by rw [h2 (by omega)]⟩
theorem ACU (l:List Int) (n:Nat):Lu n (λj=>l.any λx=>decide (x=(j:Int)))<=l.length:=by
 induction l with
 |nil=>simp [Lu]
 |cons x l ih=>
  simp only [List.any_cons,Ay];have:=Wy (λj=>decide (x=(j:Int))) (λj=>l.any λx=>decide (x=(j:Int))) n;have:=(YZ x n).1;omega
theorem AEg {n:Nat} {p q:Nat->Bool} (h:∀j,j<n->p j=true->q j=true):Lu n p<=Lu n q:=by
 induction n with
 |zero=>simp [Lu]
 |succ n ih=>
  have:=ih (λj hj=>h j (by omega));rw [K9,K9];by_cases e:p n=true
  ·rw [A4 e,A4 (h n (by omega) e)];omega
  rw [A5 e];omega
theorem sS {n:Nat} {p:Nat->Bool} (h:∀j,j<n->p j=true):Lu n p=n:=by
 induction n with
 |zero=>rfl
 |succ n ih=>rw [K9,A4 (h n (by omega)),ih (λj hj=>h j (by omega))]
section
variable {K:Ks} {R:List Int}
theorem AD8 (hK:Dz K=true) {r:Int} (hr:Ep K r=true) (n:Nat):Lu n (Pk K r)<=5:=by
 have h1:=Wy (λj=>decide (r=(j:Int))) (λj=>(Ct K r).Kids.any λn=>decide (n=(j:Int))) n;have h2:=(YZ r n).1;have h3:=ACU (Ct K r).Kids n
 have h4:Lu n (Pk K r)<=Lu n (λj=>decide (r=(j:Int))||(Ct K r).Kids.any λn=>decide (n=(j:Int))):=AEg λj _ h=>by
  unfold Pk at h;rw [An]at h;exact h.2
 rcases CI hr with e|⟨h0,hl,_⟩
 ·have:Lu n (Pk K r)=Lu n (λ_=>false):=by rw [e];rfl
  rw [this];unfold Lu;rw [BN.2 (by simp)];simp
 have:=(I6 hK h0 hl).1;omega
theorem WI (hK:Dz K=true) (n:Nat):∀(R:List Int),(∀r∈R,Ep K r=true)->Lu n (DQ K R)<=5*R.length
 |[],_=>by simp [Lu,DQ]
 |r::R,h=>by
  have h1:=WI hK n R (λx hx=>h x (by simp [hx]));have h2:=AD8 hK (h r (by simp)) n;have h3:=Wy (Pk K r) (DQ K R) n;have h4:Lu n (DQ K (r::R))=Lu n (λj=>Pk K r j||DQ K R j):=rfl;rw [h4,Ay];omega
theorem AAs (hK:Dz K=true) (hR:∀r∈R,Ep K r=true):(Vq K R).length<=5*R.length:=by
 rw [fP];exact WI hK _ R hR
end
def Cr (s:Store):List Int:=s.Vols.map Vol.Root
structure Us (s:Store):Prop where
 len:s.Vols.length<=3
 ar:Dz s.Arena.Knots=true
 nx:1<=s.Next/\s.Next<=1000000000
 ids:∀v∈s.Vols,1<=v.Id/\v.Id<=9
 asc:(s.Vols.map Vol.Id).Pairwise (·<·)
 root:∀r∈Cr s,Ep s.Arena.Knots r=true
 lt:∀r∈Cr s,∀x∈Fi s.Arena.Knots r,x<s.Next
 few:s.Arena.Knots.length<=1000
structure Em (s:Store):Prop extends Us s where
 used:∀i,i<s.Arena.Knots.length->DQ s.Arena.Knots (Cr s) i=true
theorem Em.small {s:Store} (h:Em s):s.Arena.Knots.length<=15:=by
 have h1:=WI h.ar s.Arena.Knots.length (Cr s) h.root;rw [sS h.used]at h1;have:(Cr s).length=s.Vols.length:=by unfold Cr;rw [Bo]
 have:=h.len;omega
def Cd (s:Store):List (Int×List Int):=s.Vols.map λv=>(v.Id,Fi s.Arena.Knots v.Root)
def L3 (s:Store):Store:=Store.mk (s.Vols.map λv=>Vol.mk v.Id (QM s.Arena.Knots (Cr s) v.Root)) (Arena.mk (Vq s.Arena.Knots (Cr s))) s.Next
theorem OT (s:Store):Cr (L3 s)=(Cr s).map (QM s.Arena.Knots (Cr s)):=by
 unfold Cr L3;simp only [EJ];rfl
theorem zA {s:Store} (h:Us s):Em (L3 s):=by
 have b:(Cr s).length=s.Vols.length:=by unfold Cr;rw [Bo]
 refine⟨⟨by unfold L3;simpa using h.len,AE1 h.ar h.root,h.nx,?_,?_,?_,?_,?_⟩,?_⟩
 ·intro v hv;unfold L3 at hv;simp only [AO]at hv;obtain⟨w,hw,rfl⟩:=hv;exact h.ids w hw
 ·have:((L3 s).Vols.map Vol.Id)=s.Vols.map Vol.Id:=by unfold L3;simp only [EJ];rfl
  rw [this];exact h.asc
 ·intro r hr;rw [OT]at hr;obtain⟨q,hq,rfl⟩:=AO.1 hr;exact AB1 h.root hq
 ·intro r hr;rw [OT]at hr;obtain⟨q,hq,rfl⟩:=AO.1 hr;have:=zL h.ar h.root hq;intro x hx;have a:x∈Fi s.Arena.Knots q:=by rw [<-this];exact hx
  exact h.lt q hq x a
 ·have:=AAs h.ar h.root;have:=h.len;show(Vq s.Arena.Knots (Cr s)).length<=1000;omega
 intro i hi;rw [OT];exact ADz h.ar h.root hi
theorem cX {s:Store} (h:Us s):Cd (L3 s)=Cd s:=by
 unfold Cd;show(s.Vols.map λv=>Vol.mk v.Id (QM s.Arena.Knots (Cr s) v.Root)).map _=_;rw [EJ];apply CX;intro v hv;have:=zL h.ar h.root (show v.Root∈Cr s from AO.2 ⟨v,hv,rfl⟩);show(v.Id,Fi (Vq s.Arena.Knots (Cr s)) (QM s.Arena.Knots (Cr s) v.Root))=_;rw [this]
theorem Rw (s:Store) (hv:s.Vols.length<=1048576):M7 s=some (Cr s):=by
 unfold M7;obtain⟨b,h1,h2⟩:=Bq (body:=λq:List Int×Int=>He s q.1 q.2) (λ(o:List Int) i=>(o,i)) s.Vols.length (λi o=>o=(s.Vols.take i).map Vol.Root) (λb=>b=Cr s)
  (λo i hi ho=>by
   have hx:=Ab hi;simp only [He,AH,Ad hi,Ae,AF,hx,Aa];rw [C6 (by rw [ho];simp;omega)];simp only [Aa];rw [ad1 (by omega)]
   exact .inl ⟨_,rfl,by rw [ho,EI,hx,CA];rfl⟩)
  (λo ho=>⟨o,by simp only [He,AH,As,Aw,Ac],by rw [ho,Bb (A0 _)];rfl⟩) (s:=[]) rfl
 have h1':Av (λq:List Int×Int=>He s q.1 q.2) ([],0)=some b:=h1;rw [h1',h2];rfl
theorem Rv {s:Store} (h:Us s):GP s=some (L3 s):=by
 have hl:=h.len;have hf:=h.few;have d:(Cr s).length=s.Vols.length:=by unfold Cr;rw [Bo]
 unfold GP;rw [Rw s (by omega)];simp only [Aa];rw [Xx _ (by omega) h.ar _ (by omega) h.root];simp only [Aa];rw [Px (by omega)];simp only [Aa];have q:=SX (body:=λq:Int×List Vol=>IA ((Cr s).map (QM s.Arena.Knots (Cr s)),Vq s.Arena.Knots (Cr s)) q.1 q.2) (λl i=>(i,l)) (λ_ v=>Vol.mk v.Id (QM s.Arena.Knots (Cr s) v.Root)) s.Vols
  (λi l x a b c=>by
   have hi:=(Ah.1 b).1;simp only [IA,AH,Ad hi,Ae];have:gi ((Cr s).map (QM s.Arena.Knots (Cr s))) (i:Int)=some (QM s.Arena.Knots (Cr s) x.Root):=by
    rw [AF,Bf];unfold Cr;rw [Bf,c];rfl
   rw [this,AF,b];simp only [Aa]
   rw [H7,ad1 (by omega)])
  (λl a=>by simp only [IA,Cf,a];rw [Af (by omega),Ac])
 rw [OZ]at q;rw [q];rfl
theorem ABC {s:Store} (h:Em s):L3 s=s:=by
 have c:∀i,i<=s.Arena.Knots.length->dU s.Arena.Knots (Cr s) i=i:=λi hi=>sS (λj hj=>h.used j (by omega))
 have a:∀n:Int,n<(s.Arena.Knots.length:Int)->QM s.Arena.Knots (Cr s) n=n:=λn hn=>by
  unfold QM;split
  ·rw [c _ (by omega)];omega
  rfl
 have b:∀r∈Cr s,QM s.Arena.Knots (Cr s) r=r:=λr hr=>by
  rcases CI (h.root r hr)with e|⟨h0,h1,_⟩
  ·rw [e,QK (by omega)]
  exact a r h1
 have d:Vq s.Arena.Knots (Cr s)=s.Arena.Knots:=by
  unfold Vq;rw [Gp.2 (λi hi=>h.used i (by simpa using hi))];apply Df;intro i;rw [Bf];by_cases hi:i<s.Arena.Knots.length
  ·rw [PF hi,Ab hi];simp only [Bv];congr 1;have h0:(0:Int)<=(i:Int):=by omega
   have h1:(i:Int)<(s.Arena.Knots.length:Int):=by omega
   unfold tU
   cases hl:(Ct s.Arena.Knots (i:Int)).Leaf with
   |true=>
    simp only [Ae];rw [<-hl,Qn hi]
   |false=>
    simp only [Ac];have:(Ct s.Arena.Knots (i:Int)).Kids.map (QM s.Arena.Knots (Cr s))=(Ct s.Arena.Knots (i:Int)).Kids:=by
     conv=>rhs;rw [<-Sr (Ct s.Arena.Knots (i:Int)).Kids]
     apply CX;intro n hn;obtain⟨q,hq,rfl⟩:=AG hn;obtain⟨h4,hk⟩:=I6 h.ar h0 h1;have e5:=(hk q (by omega)).1;rw [Ab hq]at e5
     injection e5 with e5
     rw [e5]
     rcases Hw h.ar h0 h1 hl (show q<4 by omega)with k1|⟨k1,k2,k3⟩
     ·rw [k1,QK (by omega)];rfl
     exact a _ (by omega)
    rw [this,<-hl,Qn hi]
  rw [Dv (by simpa using hi),Dv (by omega)];rfl
 unfold L3;rw [d];have:(s.Vols.map λv=>Vol.mk v.Id (QM s.Arena.Knots (Cr s) v.Root))=s.Vols:=by
  conv=>rhs;rw [<-Sr s.Vols]
  apply CX;intro v hv;rw [b _ (AO.2 ⟨v,hv,rfl⟩)];rfl
 rw [this]
theorem Zc {K:Ks} {r:Int} {s:Nat} (hs:s<16):Q4 K r s∈Fi K r:=AO.2 ⟨s,by simpa using hs,rfl⟩
theorem Qg {l:List Int} (h:l.Pairwise (·<·)) {i j:Nat} {x y:Int} (a:i<j) (hx:l[i]?=some x) (hy:l[j]?=some y):x<y:=by
 obtain⟨h1,rfl⟩:=Ah.1 hx;obtain⟨h2,rfl⟩:=Ah.1 hy;exact Dk.1 h i j h1 h2 a
theorem UG {s:Store} (h:Em s):NV s=some true:=by
 have hl:=h.len;have hf:=h.few;have d:(Cr s).length=s.Vols.length:=by unfold Cr;rw [Bo]
 unfold NV;rw [Cf,Af (by omega),Ac,LV _ (by omega),h.ar,EE,Ad h.nx];simp only [Aa,Ao,Ac];obtain⟨b,h1,h2⟩:=Bq (body:=λq:Int=>Ik s q) (λ(_:Unit) i=>i) s.Vols.length (λ_ _=>True) (λb=>b= .inl ())
  (λ_ i hi _=>by
   have hx:=Ab hi;have hm:s.Vols[i]∈s.Vols:=AJ hi;have hr:s.Vols[i].Root∈Cr s:=AO.2 ⟨_,hm,rfl⟩;simp only [Ik,AH,Ad hi,Ae,AF,hx,Aa];rw [EE,Ad (h.ids _ hm),LP _ (by omega),h.root _ hr];simp only [Aa,Ao,Ac];have a:(bif(decide ((i:Int)>0))then((gi s.Vols (sb (i:Int) 1)).bind λx2=>bif(decide (x2.Id>=s.Vols[i].Id))then(some true)else(some false))else(some false):Option Bool)=some false:=by
    by_cases h0:i=0
    ·rw [Af (by omega:¬(i:Int)>0),Ac]
    rw [Ad (by omega:(i:Int)>0),Ae,Cw (by omega) (by omega),show(i:Int)-1=((i-1:Nat):Int) by omega,AF,Ab (by omega)];simp only [Aa];have:=Qg h.asc (show i-1<i by omega) (x:=s.Vols[i-1].Id) (y:=s.Vols[i].Id) (by rw [Bf,Ab (by omega)];rfl) (by rw [Bf,Ab (by omega)];rfl);rw [Af (by omega),Ac]
   rw [a];simp only [Aa,Ac];obtain⟨c,q1,q2⟩:=Bq (body:=λq:Int=>Ij s s.Vols[i] q) (λ(_:Unit) i=>i) 16 (λ_ _=>True) (λb=>b= .inl ())
    (λ_ k hk _=>by
     simp only [Ij];rw [Ad (by omega:(k:Int)<16),Ae,UB _ h.ar (h.root _ hr) hk];simp only [Aa];have:=h.lt _ hr _ (Zc hk);rw [Af (by omega),Ac,ad1 (by omega)]
     exact .inl ⟨(),rfl,trivial⟩)
    (λ_ _=>⟨_,by simp only [Ij];rw [Af (by omega:¬((16:Nat):Int)<16),Ac],rfl⟩) (s:=()) trivial
   have q1':Av (λq:Int=>Ij s s.Vols[i] q) 0=some c:=q1;rw [q1',q2];simp only [Aa,BX];rw [ad1 (by omega)]
   exact .inl ⟨(),rfl,trivial⟩)
  (λ_ _=>⟨_,by simp only [Ik,AH,As,Aw,Ac],rfl⟩) (s:=()) trivial
 have h1':Av (λq:Int=>Ik s q) 0=some b:=h1;rw [h1',h2];simp only [Aa,BX];rw [Rw s (by omega)];simp only [Aa];rw [Xx _ (by omega) h.ar _ (by omega) h.root];simp only [Aa];have:Vq s.Arena.Knots (Cr s)=s.Arena.Knots:=by
  have:=ABC h;unfold L3 at this;have:=BH (λz=>z.Arena.Knots) this;exact this
 rw [this];simp
end Go.TI
namespace Go.TI
open Go
abbrev Vs:=List (Int×List Int)
def Mf (l:Vs) (id:Int):Option (List Int):=(l.find? λp=>p.1==id).map Prod.snd
def AA6 (l:Vs) (id:Int) (row:List Int):Vs:=(l.filter λp=>decide (p.1<id))++ [(id,row)]++l.filter λp=>decide (p.1>id)
def AGV (l:Vs) (id:Int):Vs:=l.filter λp=>p.1 !=id
def uJ (l:Vs) (id:Int) (s:Nat) (n:Int):Vs:=l.map λp=>if p.1=id then(p.1,p.2.set s n)else p
def Im (r:C3):Bool:=decide (0<=r.Arg/\r.Arg<=1000000000)&&(bif r.Kind==1 then r.Vol==0&&r.Chunk==0 else decide (2<=r.Kind/\r.Kind<=5)&&decide (1<=r.Vol/\r.Vol<=9)&&(r.Kind==4||r.Chunk==0)&&
 (bif r.Kind==2 then decide (r.Arg<=9)else bif r.Kind==3 then r.Arg==0 else bif r.Kind==4 then decide (r.Arg<16)&&decide (1<=r.Chunk/\r.Chunk<=1000000000)else decide (r.Arg<16)))
def Sw:List Int:=List.replicate 16 0
def El (l:Vs) (nx:Int) (r:C3):Option (Vs×Int):=
 if Im r=false then none
 else if r.Kind=1 then some ([],if r.Arg=0 then 1 else r.Arg)
 else if r.Kind=2 then
  if(0<r.Arg/\Mf l r.Arg=none)\/Mf l r.Vol≠none\/l.length=3 then none
  else some (AA6 l r.Vol (if 0<r.Arg then(Mf l r.Arg).getD Sw else Sw),nx)
 else if Mf l r.Vol=none\/r.Chunk=1000000000 then none
 else if r.Kind=3 then some (AGV l r.Vol,nx)
 else some (uJ l r.Vol r.Arg.toNat r.Chunk,max nx (r.Chunk+1))
theorem QH (r:C3):Nn r=some (Im r):=by
 unfold Nn Im;simp only [EE,Aa]
 cases decide (0<=r.Arg/\r.Arg<=1000000000)with
 |false=>rfl
 |true=>
  simp only [Ao,Ac,C8]
  cases r.Kind==1 with
  |true=>
   simp only [Ae];cases r.Vol==0<;>rfl
  |false=>
   simp only [Ac]
   cases decide (2<=r.Kind/\r.Kind<=5)with
   |false=>rfl
   |true=>
    cases decide (1<=r.Vol/\r.Vol<=9)with
    |false=>rfl
    |true=>
     have e1:(r.Kind !=4)=!(r.Kind==4):=rfl;have e2:(r.Chunk !=0)=!(r.Chunk==0):=rfl;rw [e1,e2];cases r.Kind==4<;>cases r.Chunk==0<;>cases r.Kind==2<;>cases r.Kind==3<;>cases decide (r.Arg<16)<;>rfl
theorem IP (s:Store) (hv:s.Vols.length<=1048576) (id:Int):(GQ s id=some (-1)/\∀v∈s.Vols,v.Id≠id)\/∃k:Nat,∃v,GQ s id=some (k:Int)/\s.Vols[k]?=some v/\v.Id=id/\∀j w,j<k->s.Vols[j]?=some w->w.Id≠id:=by
 unfold GQ;obtain⟨b,h1,h2⟩:=Bq (body:=λq:Int=>Kn s id q) (λ(_:Unit) i=>i) s.Vols.length (λi _=>∀j w,j<i->s.Vols[j]?=some w->w.Id≠id)
  (λb=>(b= .inl ()/\∀v∈s.Vols,v.Id≠id)\/∃k:Nat,∃v,b= .inr (k:Int)/\s.Vols[k]?=some v/\v.Id=id/\∀j w,j<k->s.Vols[j]?=some w->w.Id≠id)
  (λ_ i hi hs=>by
   have hx:=Ab hi;simp only [Kn,AH,Ad hi,Ae,AF,hx,Aa]
   cases e:(s.Vols[i].Id==id)with
   |true=>exact .inr ⟨_,rfl,.inr ⟨i,_,rfl,hx,by simpa using e,hs⟩⟩
   |false=>
    simp only [Ac];rw [ad1 (by omega)];refine .inl ⟨(),rfl,λj w hj hw=>?_⟩;by_cases e2:j=i
    ·subst e2;rw [hx]at hw
     injection hw with hw
     rw [<-hw];simpa using e
    exact hs j w (by omega) hw)
  (λ_ hs=>⟨_,by simp only [Kn,AH,As,Aw,Ac],.inl ⟨rfl,λv hv=>by
   obtain⟨j,hj,rfl⟩:=AG hv
   exact hs j _ hj (Ab hj)⟩⟩) (s:=()) (λj w hj=>by omega)
 have h1':Av (λq:Int=>Kn s id q) 0=some b:=h1;rw [h1']
 rcases h2 with⟨rfl,h2⟩|⟨k,v,rfl,h2⟩
 ·exact .inl ⟨rfl,h2⟩
 exact .inr ⟨k,v,rfl,h2⟩
theorem Ok {s:Store} {id:Int}:(∀v∈s.Vols,v.Id≠id)↔Mf (Cd s) id=none:=by
 unfold Mf Cd;rw [Option.map_eq_none_iff,Fl];constructor
 ·intro h p hp;obtain⟨v,hv,rfl⟩:=AO.1 hp;simpa using h v hv
 intro h v hv;have:=h _ (AO.2 ⟨v,hv,rfl⟩);simpa using this
theorem AEl {s:Store} (h:(s.Vols.map Vol.Id).Pairwise (·<·)) {v w:Vol} (hv:v∈s.Vols) (hw:w∈s.Vols) (e:v.Id=w.Id):v=w:=by
 obtain⟨i,hi,rfl⟩:=AG hv;obtain⟨j,hj,rfl⟩:=AG hw;have gi:(s.Vols.map Vol.Id)[i]?=some s.Vols[i].Id:=by rw [Bf,Ab hi];rfl
 have gj:(s.Vols.map Vol.Id)[j]?=some s.Vols[j].Id:=by rw [Bf,Ab hj];rfl
 rcases MZ i j with h1|h1|h1
 ·have:=Qg h h1 gi gj;omega
 ·subst h1;rfl
 have:=Qg h h1 gj gi;omega
theorem Oj {s:Store} (h:(s.Vols.map Vol.Id).Pairwise (·<·)) {v:Vol} (hv:v∈s.Vols):Mf (Cd s) v.Id=some (Fi s.Arena.Knots v.Root):=by
 unfold Mf;have hm:(v.Id,Fi s.Arena.Knots v.Root)∈Cd s:=AO.2 ⟨v,hv,rfl⟩
 cases hf:(Cd s).find? λp=>p.1==v.Id with
 |none=>
  rw [Fl]at hf;have:=hf _ hm;simp at this
 |some p=>
  have h1:=List.find?_some hf;have h2:=List.mem_of_find?_eq_some hf;obtain⟨w,hw,rfl⟩:=AO.1 h2;have:w=v:=AEl h hw hv (by simpa using h1);rw [this];rfl
theorem Ov (s:Store):(Cd s).length=s.Vols.length:=by unfold Cd;rw [Bo]
theorem qI (K:Ks):Fi K (-1)=Sw:=by
 unfold Fi Sw;rw [<-Cj (n:=16),<-LI,Cj];apply CX;intro s hs;rfl
theorem xY (s:Store) (p:Int->Bool) (t:Store) (hk:t.Arena=s.Arena) (hv:t.Vols=s.Vols.filter λv=>p v.Id):Cd t=(Cd s).filter λq=>p q.1:=by
 unfold Cd;rw [hk,hv,List.filter_map];rfl
theorem eJ {body:List Vol×Int->Option ((List Vol×Int)⊕List Vol)} (l:List Vol) (p:Vol->Bool) (o:List Vol) (hM:l.length+o.length<=1048576)
  (h1:∀(i:Nat) v (out:List Vol),l[i]?=some v->out.length<=1048576->body (out,(i:Int))=some (.inl (bif p v then out++ [v]else out,((i+1:Nat):Int)))) (h2:∀out,body (out,(l.length:Int))=some (.inr out)):
  Av body (o,0)=some (o++l.filter p):=by
 obtain⟨b,h3,h4⟩:=Bq (body:=body) (λ(q:List Vol) i=>(q,i)) l.length (λi q=>q=o++(l.take i).filter p) (λb=>b=o++l.filter p)
  (λq i hi hq=>by
   have hx:=Ab hi;refine .inl ⟨_,h1 i _ q hx ?_,?_⟩
   ·rw [hq,Ag];have:=BI p (l.take i);rw [AD]at this;omega
   rw [hq,EI,hx,AQ]
   cases e:p l[i]with
   |true=>simp [e]
   |false=>simp [e])
  (λq hq=>⟨q,h2 q,by rw [hq,Bb (A0 _)]⟩) (s:=o) (by simp)
 rw [h3,h4]
theorem ACF {K:Ks} {R R':List Int} (h:∀r∈R,r∈R') {i:Nat} (hu:DQ K R i=true):DQ K R' i=true:=by
 unfold DQ at hu⊢;rw [CY]at hu⊢;obtain⟨r,hr,h2⟩:=hu;exact⟨r,h r hr,h2⟩
theorem uG {l:List Vol} (h:(l.map Vol.Id).Pairwise (·<·)) (v:Vol):(((l.filter λw=>decide (w.Id<v.Id))++ [v]++l.filter λw=>decide (w.Id>v.Id)).map Vol.Id).Pairwise (·<·):=by
 rw [Jv]at h;rw [Jv,Aq,AX];refine⟨h.filter _,?_,?_⟩
 ·rw [Cq,Cs];exact⟨λw hw=>by simpa using(AK.1 hw).2,h.filter _⟩
 intro a ha b hb;have h1:a.Id<v.Id:=by simpa using(AK.1 ha).2
 rw [Cq,By]at hb
 rcases hb with rfl|hb
 ·exact h1
 have:b.Id>v.Id:=by simpa using(AK.1 hb).2
 omega
theorem AAv (l:List Vol) (id:Int):(l.filter λw=>decide (w.Id<id)).length+(l.filter λw=>decide (w.Id>id)).length<=l.length:=by
 induction l with
 |nil=>simp
 |cons v l ih=>
  simp only [List.filter_cons,Ay];by_cases h1:v.Id<id
  ·rw [A4 (by simpa using h1),A5 (by simp;omega),Ay];omega
  rw [A5 (by simpa using h1)];split
  ·rw [Ay];omega
  omega
def Pb (s:Store) (r:C3) (o:Option (Store×Bool)):Prop:=match El (Cd s) s.Next r with
 |none=>o=some (s,false)
 |some (l,nx)=>∃t,o=some (t,true)/\Em t/\Cd t=l/\t.Next=nx
theorem ABd {s:Store} (h:Em s) {r:C3} (hr:Im r=true) (hk:r.Kind=2):Pb s r (M6 s r):=by
 have hl:=h.len;have c:=Tq h.ar (by have:=h.few;omega);have a:=LO s c (by omega);have hb:Im r=true:=hr;unfold Im at hr;rw [hk]at hr;simp at hr;unfold Pb El;rw [hb,hk];simp only [IK,GB,Cc,show¬((2:Int)=1) by omega];unfold M6;have root:(Mf (Cd s) r.Arg=none/\0<r.Arg/\(bif(decide (r.Arg>0))then((GQ s r.Arg).bind λv1=>bif(decide (v1<0))then((EM s).bind λv2=>some (.inr (v2,false)))else((gi s.Vols v1).bind λx1=>some (.inl x1.Root)))else(some (.inl (-1))):Option ((Int)⊕((Store×Bool))))=some (.inr (s,false)))\/
   (¬(0<r.Arg/\Mf (Cd s) r.Arg=none)/\∃q,Ep s.Arena.Knots q=true/\(q= -1\/q∈Cr s)/\Fi s.Arena.Knots q=(if 0<r.Arg then(Mf (Cd s) r.Arg).getD Sw else Sw)/\(bif(decide (r.Arg>0))then((GQ s r.Arg).bind λv1=>bif(decide (v1<0))then((EM s).bind λv2=>some (.inr (v2,false)))else((gi s.Vols v1).bind λx1=>some (.inl x1.Root)))else(some (.inl (-1))):Option ((Int)⊕((Store×Bool))))=some (.inl q)):=by
  by_cases h0:0<r.Arg
  ·rw [Ad (by omega:r.Arg>0)];simp only [Ae]
   rcases IP s (by omega) r.Arg with⟨h1,h2⟩|⟨k,v,h1,h2,h3,_⟩
   ·left;rw [h1,a];exact⟨Ok.1 h2,h0,rfl⟩
   right;rw [h1];have hm:=A8 h2;have hg:=Oj h.asc hm;rw [h3]at hg;refine⟨λhh=>(by rw [hg]at hh;cases hh.2),v.Root,h.root _ (AO.2 ⟨v,hm,rfl⟩),.inr (AO.2 ⟨v,hm,rfl⟩),?_,?_⟩
   ·rw [A4 h0,hg];rfl
   simp only [Aa];rw [Af (by omega),Ac,AF,h2];rfl
  right;rw [Af (by omega:¬r.Arg>0),A5 h0];exact⟨λhh=>h0 hh.1,-1,rfl,.inl rfl,qI _,rfl⟩
 rcases root with⟨g1,g2,g3⟩|⟨g1,q,g2,g3,g4,g5⟩
 ·rw [g3,A4 (.inl ⟨g2,g1⟩)];rfl
 rw [g5];simp only [Aa,BX]
 rcases IP s (by omega) r.Vol with⟨h1,h2⟩|⟨k,v,h1,h2,h3,_⟩
 ·rw [h1];simp only [Aa];rw [Af (by omega),Ac,Cf];have g:Mf (Cd s) r.Vol=none:=Ok.1 h2;by_cases h3:s.Vols.length=3
  ·rw [h3,A4 (.inr (.inr (by rw [Ov,h3])))];simp only [Aa];rw [a];rfl
  have e3:((s.Vols.length:Int)==3)=false:=by simp;omega
  rw [e3,A5 (by
   rintro(hh|hh|hh)
   ·exact g1 hh
   ·exact hh g
   rw [Ov]at hh;exact h3 hh)]
  simp only [Aa,Ac];rw [a];simp only [Aa];have k1:=eJ (body:=λq:List Vol×Int=>Lc s r q.1 q.2) s.Vols (λv=>decide (v.Id<r.Vol)) [] (by simp;omega)
   (λi v out hv ho=>by
    have hi:=(Ah.1 hv).1;simp only [Lc,AH,Ad hi,Ae,AF,hv,Aa];rw [ad1 (by omega)]
    cases decide (v.Id<r.Vol)with
    |true=>simp only [Ae];rw [C6 (by simp;omega)];rfl
    |false=>rfl)
   (λout=>by simp only [Lc,AH,As,Aw,Ac])
  rw [A7]at k1;rw [k1];simp only [Aa];have j:=AAv s.Vols r.Vol;rw [C6 (by simp;omega)];simp only [Aa];have k2:=eJ (body:=λq:List Vol×Int=>Lb s r q.1 q.2) s.Vols (λv=>decide (v.Id>r.Vol)) ((s.Vols.filter λv=>decide (v.Id<r.Vol))++ [Vol.mk r.Vol q]) (by simp;omega)
   (λi v out hv ho=>by
    have hi:=(Ah.1 hv).1;simp only [Lb,AH,Ad hi,Ae,AF,hv,Aa];rw [ad1 (by omega)]
    cases decide (v.Id>r.Vol)with
    |true=>simp only [Ae];rw [C6 (by simp;omega)];rfl
    |false=>rfl)
   (λout=>by simp only [Lb,AH,As,Aw,Ac])
  rw [k2];simp only [Aa];have d:((s.Vols.filter λv=>decide (v.Id<r.Vol))++ [Vol.mk r.Vol q]++s.Vols.filter λv=>decide (v.Id>r.Vol)).length<=3:=by simp only [Ag,Ay,Bm];omega
  have f:∀x∈Cr s,x∈(Cr (Store.mk ((s.Vols.filter λv=>decide (v.Id<r.Vol))++ [Vol.mk r.Vol q]++s.Vols.filter λv=>decide (v.Id>r.Vol)) s.Arena s.Next)):=by
   intro x hx;obtain⟨v,hv,rfl⟩:=AO.1 hx;refine AO.2 ⟨v,?_,rfl⟩;have:=h2 v hv;simp only [Ak,AK,A3];by_cases e:v.Id<r.Vol
   ·exact .inl (.inl ⟨hv,by simpa using e⟩)
   exact .inr ⟨hv,by simp;omega⟩
  have b:∀x∈(Cr (Store.mk ((s.Vols.filter λv=>decide (v.Id<r.Vol))++ [Vol.mk r.Vol q]++s.Vols.filter λv=>decide (v.Id>r.Vol)) s.Arena s.Next)),x= -1\/x∈Cr s:=by
   intro x hx;obtain⟨v,hv,rfl⟩:=AO.1 hx;simp only [Ak,AK,A3]at hv
   rcases hv with(hv|rfl)|hv
   ·exact .inr (AO.2 ⟨v,hv.1,rfl⟩)
   ·exact g3
   exact .inr (AO.2 ⟨v,hv.1,rfl⟩)
  refine⟨_,rfl,⟨⟨d,h.ar,h.nx,?_,uG h.asc (Vol.mk r.Vol q),?_,?_,h.few⟩,?_⟩,?_,rfl⟩
  ·intro v hv;simp only [Ak,AK,A3]at hv
   rcases hv with(hv|rfl)|hv
   ·exact h.ids v hv.1
   ·show 1<=r.Vol/\r.Vol<=9;omega
   exact h.ids v hv.1
  ·intro x hx
   rcases b x hx with e|e
   ·rw [e];rfl
   exact h.root x e
  ·intro x hx
   rcases b x hx with e|e
   ·intro y hy;rw [e]at hy;change y∈Fi s.Arena.Knots (-1)at hy;rw [qI]at hy;have:=Ei hy;have:=h.nx;show y<s.Next;omega
   exact h.lt x e
  ·intro i hi;exact ACF f (h.used i hi)
  rw [<-g4];unfold AA6 Cd;simp only [CA,BV,yM,List.filter_map];rfl
 rw [h1];simp only [Aa];rw [Ad (by omega),Ae];have hg:=Oj h.asc (A8 h2);rw [h3]at hg;rw [A4 (.inr (.inl (by rw [hg];simp)))];simp only [Aa,Ae];rw [a];rfl
theorem cF {l:List Vol} (h:(l.map Vol.Id).Pairwise (·<·)) {k:Nat} {v:Vol} (hv:l[k]?=some v):l.take k++l.drop (k+1)=l.filter λw=>w.Id !=v.Id:=by
 rw [Jv]at h;have hk:=(Ah.1 hv).1;have e:l=l.take k++v::l.drop (k+1):=by
  have h2:=Bh hk;rw [(Ah.1 hv).2]at h2;rw [<-h2,Bu]
 rw [e,AX]at h;obtain⟨h1,h2,h3⟩:=h;rw [Cs]at h2
 conv=>rhs;rw [e]
 rw [AQ,B9 (by simp)];congr 1
 ·symm;rw [Gp];intro w hw;have:=h3 w hw v (by simp);simp;omega
 symm;rw [Gp];intro w hw;have:=h2.1 w hw;simp;omega
theorem ACP {s:Store} (h:Em s) (r:C3):Pb s r (Wm s r):=by
 have hl:=h.len;have g:=Tq h.ar (by have:=h.few;omega);have a:=LO s g (by omega);unfold Wm;rw [UG h,QH];simp only [Aa,Ao,Ac]
 cases hb:Im r with
 |false=>
  simp only [AN,Ae];rw [a];unfold Pb El;rw [hb];rfl
 |true=>
  simp only [Ao,Ac];have hr:=hb;unfold Im at hr
  cases k1:(r.Kind==1)with
  |true=>
   have e1:r.Kind=1:=by simpa using k1
   rw [e1]at hr;simp at hr;unfold Pb El;rw [hb,e1];simp only [IK,GB,Cc,Ae];have:(bif(r.Arg==0)then(some 1)else(some r.Arg):Option (Int))=some (if r.Arg=0 then 1 else r.Arg):=by
    by_cases e:r.Arg=0
    ·rw [A4 e,e];rfl
    rw [A5 e,show(r.Arg==0)=false by simpa using e];rfl
   rw [this];refine⟨_,rfl,⟨⟨by simp,rfl,?_,by simp,by simp,by simp [Cr],by simp [Cr],by simp⟩,by simp⟩,rfl,rfl⟩;show 1<=(if r.Arg=0 then 1 else r.Arg)/\(if r.Arg=0 then 1 else r.Arg)<=1000000000;split<;>omega
  |false=>
   simp only [Ac];have n1:r.Kind≠1:=by simpa using k1
   rw [k1]at hr
   cases k2:(r.Kind==2)with
   |true=>
    simp only [Ae];have:=ABd h hb (by simpa using k2);have e:((M6 s r).bind λv4=>some (v4.1,v4.2))=M6 s r:=by cases M6 s r<;>rfl
    rw [e];exact this
   |false=>
    simp only [Ac];have n2:r.Kind≠2:=by simpa using k2
    rw [k2]at hr;have hv:1<=r.Vol/\r.Vol<=9:=by simp at hr;omega
    unfold Pb El;rw [hb];simp only [IK,GB,A5 n1,A5 n2]
    rcases IP s (by omega) r.Vol with⟨h1,h2⟩|⟨k,v,h1,h2,h3,_⟩
    ·rw [h1];simp only [Aa];rw [Ad (by omega),Ae,A4 (.inl (Ok.1 h2))];simp only [Aa,Ae];rw [a];rfl
    rw [h1];simp only [Aa];rw [Af (by omega),Ac];simp only [Aa];have hm:=A8 h2;have i:=(Ah.1 h2).1;have hg:=Oj h.asc hm;rw [h3]at hg
    cases hc:(r.Chunk==1000000000)with
    |true=>
     simp only [Ae];rw [A4 (.inr (by simpa using hc)),a];rfl
    |false=>
     simp only [Ac];have m:r.Chunk≠1000000000:=by simpa using hc
     rw [A5 (by
      rintro(hh|hh)
      ·rw [hg]at hh;cases hh
      exact m hh),a]
     simp only [Aa]
     cases k3:(r.Kind==3)with
     |true=>
      have e3:r.Kind=3:=by simpa using k3
      rw [A4 e3];simp only [Ae];rw [Cf,ad1 (by omega)];have d1:dr s.Vols 0 (k:Int)=some (s.Vols.take k):=by
       unfold dr;rw [A4 ⟨by omega,by omega,by omega⟩];simp
      have d2:dr s.Vols ((k+1:Nat):Int) (s.Vols.length:Int)=some (s.Vols.drop (k+1)):=by
       unfold dr;rw [A4 ⟨by omega,by omega,by omega⟩,BA,BA,Bb (by simp)]
      rw [d1,d2];simp only [Aa];rw [Px (by simp;omega)];simp only [Aa];rw [C6 (by simp;omega),cF h.asc h2,h3];simp only [Aa];have hR:Us (Store.mk (s.Vols.filter λw=>w.Id !=r.Vol) s.Arena s.Next):=by
       refine⟨?_,h.ar,h.nx,λv hv=>h.ids v (AK.1 hv).1,?_,?_,?_,h.few⟩
       ·have:=BI (λw:Vol=>w.Id !=r.Vol) s.Vols;show(s.Vols.filter λw=>w.Id !=r.Vol).length<=3;omega
       ·have:=h.asc;rw [Jv]at this⊢;exact this.filter _
       ·intro x hx;obtain⟨w,hw,rfl⟩:=AO.1 hx;exact h.root _ (AO.2 ⟨w,(AK.1 hw).1,rfl⟩)
       intro x hx;obtain⟨w,hw,rfl⟩:=AO.1 hx;exact h.lt _ (AO.2 ⟨w,(AK.1 hw).1,rfl⟩)
      rw [Rv hR];refine⟨_,rfl,zA hR,?_,rfl⟩;rw [cX hR];exact xY s (λid=>id !=r.Vol) _ rfl rfl
     |false=>
      have n3:r.Kind≠3:=by simpa using k3
      rw [A5 n3];simp only [Ac];rw [k3]at hr;have ha:0<=r.Arg/\r.Arg<16/\0<=r.Chunk/\r.Chunk<=1000000000:=by
       cases k4:(r.Kind==4)with
       |true=>rw [k4]at hr;simp at hr;omega
       |false=>rw [k4]at hr;simp at hr;omega
      obtain⟨t,ht⟩:∃t:Nat,r.Arg=(t:Int):=⟨_,(B6 ha.1).symm⟩;rw [AF,h2];simp only [Aa];have c:=h.root _ (AO.2 ⟨v,hm,rfl⟩);rw [ht,vD _ (by have:=h.few;omega) h.ar c (by omega) ha.2.2.1];simp only [Aa];rw [H7];have h0:=h.small;have hR:Us (Store.mk (s.Vols.set k (Vol.mk v.Id ((s.Arena.Knots.length:Int)+1))) (Arena.mk (K0 s.Arena.Knots v.Root t r.Chunk)) (max s.Next (r.Chunk+1))):=by
       have d:∀w∈s.Vols.set k (Vol.mk v.Id ((s.Arena.Knots.length:Int)+1)),w∈s.Vols\/w=Vol.mk v.Id ((s.Arena.Knots.length:Int)+1):=λw hw=>Dl hw
       refine⟨by simpa using hl,AFb h.ar c (by omega) ha.2.2.1,?_,?_,?_,?_,?_,?_⟩
       ·have:=h.nx;show 1<=max s.Next (r.Chunk+1)/\max s.Next (r.Chunk+1)<=1000000000;omega
       ·intro w hw
        rcases d w hw with hw|rfl
        ·exact h.ids w hw
        exact h.ids v hm
       ·have:(s.Vols.set k (Vol.mk v.Id ((s.Arena.Knots.length:Int)+1))).map Vol.Id=s.Vols.map Vol.Id:=by
         rw [List.map_set];show(s.Vols.map Vol.Id).set k v.Id=_;apply Df;intro j;rw [Cz];split
         ·rename_i e;subst e;rw [Bo,A4 i,Bf,h2];rfl
         rfl
        rw [this];exact h.asc
       ·intro x hx;obtain⟨w,hw,rfl⟩:=AO.1 hx
        rcases d w hw with hw|rfl
        ·exact ABY (h.root _ (AO.2 ⟨w,hw,rfl⟩))
        exact AAI
       ·intro x hx y hy;obtain⟨w,hw,rfl⟩:=AO.1 hx;show y<max s.Next (r.Chunk+1)
        rcases d w hw with hw|rfl
        ·have o:=h.root _ (AO.2 ⟨w,hw,rfl⟩);have f:y∈Fi s.Arena.Knots w.Root:=by rw [<-zH (X:=[Cb.mk true (P6 s.Arena.Knots v.Root t r.Chunk),Cb.mk false (S0 s.Arena.Knots v.Root t)]) h.ar o];exact hy
         have:=h.lt _ (AO.2 ⟨w,hw,rfl⟩) y f;omega
        have f:y∈(Fi s.Arena.Knots v.Root).set t r.Chunk:=by rw [<-zN (s:=t) (n:=r.Chunk) h.ar c (by omega)];exact hy
        rcases Dl f with f|rfl
        ·have:=h.lt _ (AO.2 ⟨v,hm,rfl⟩) y f;omega
        omega
       show(K0 s.Arena.Knots v.Root t r.Chunk).length<=1000;unfold K0;simp;omega
      have l:Cd (Store.mk (s.Vols.set k (Vol.mk v.Id ((s.Arena.Knots.length:Int)+1))) (Arena.mk (K0 s.Arena.Knots v.Root t r.Chunk)) (max s.Next (r.Chunk+1)))=uJ (Cd s) r.Vol t r.Chunk:=by
       unfold Cd uJ;simp only [EJ];apply Df;intro j;rw [Bf,Bf,Cz];by_cases e:k=j
       ·subst e;rw [A4 rfl,A4 i,h2];simp only [Bv,Function.comp];rw [A4 h3,zN h.ar c (by omega)]
       rw [A5 e]
       cases hj:s.Vols[j]? with
       |none=>rfl
       |some w=>
        have p:=A8 hj;have u:w.Id≠r.Vol:=by
         intro e2;have gi:(s.Vols.map Vol.Id)[k]?=some v.Id:=by rw [Bf,h2];rfl
         have gj:(s.Vols.map Vol.Id)[j]?=some w.Id:=by rw [Bf,hj];rfl
         rcases MZ k j with q|q|q
         ·have:=Qg h.asc q gi gj;omega
         ·exact e q
         have:=Qg h.asc q gj gi;omega
        simp only [Bv,Function.comp];rw [A5 u];have:=zH (X:=[Cb.mk true (P6 s.Arena.Knots v.Root t r.Chunk),Cb.mk false (S0 s.Arena.Knots v.Root t)]) h.ar (h.root _ (AO.2 ⟨w,p,rfl⟩));unfold K0;rw [this]
      have z:∀b:Bool,b=decide (r.Chunk>=s.Next)->(bif b then((GP (Store.mk (s.Vols.set k (Vol.mk v.Id ((s.Arena.Knots.length:Int)+1))) (Arena.mk (K0 s.Arena.Knots v.Root t r.Chunk)) (ad r.Chunk 1))).bind λv11=>some (v11,true))else((GP (Store.mk (s.Vols.set k (Vol.mk v.Id ((s.Arena.Knots.length:Int)+1))) (Arena.mk (K0 s.Arena.Knots v.Root t r.Chunk)) s.Next)).bind λv12=>some (v12,true)))=(GP (Store.mk (s.Vols.set k (Vol.mk v.Id ((s.Arena.Knots.length:Int)+1))) (Arena.mk (K0 s.Arena.Knots v.Root t r.Chunk)) (max s.Next (r.Chunk+1)))).bind λv=>some (v,true):=by
       intro b hb;have:=h.nx;by_cases e:r.Chunk>=s.Next
       ·rw [hb,Ad e,Ae,CC (by omega) (by omega),show max s.Next (r.Chunk+1)=r.Chunk+1 by omega]
       rw [hb,Af e,Ac,show max s.Next (r.Chunk+1)=s.Next by omega]
      rw [z _ rfl,Rv hR];refine⟨_,rfl,zA hR,?_,rfl⟩;rw [cX hR,l,BA]
end Go.TI
