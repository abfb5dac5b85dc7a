/- Cleaning that is cut. No condition; no program is in sight. -/
import Derived.Test.YtpafpcbnmplkfaaGreatCCD
set_option linter.unusedVariables false
set_option linter.unusedSimpArgs false
namespace Go.TI
open Go
def u32 (s:Int):Prop:=0<=s/\s<4294967296
theorem AAY (s:Int) (hs:u32 s):∃v,Aw (λs:Int×Int=>It s.1 s.2) (s,0)=some v/\Aw (λs:Int×Int=>I7 s.1 s.2) (s,0)=some v/\u32 v:=
 MP (body:=λs:Int×Int=>It s.1 s.2) (body':=λs:Int×Int=>I7 s.1 s.2) (λ(s:Int) i=>(s,i)) 8 (λ_ s=>u32 s) u32
  (λs i hi hs=>by
   simp only [It,I7];rw [Ad (by omega:(i:Int)<8),Ae,Ae,an1 hs.1 hs.2,<-AHK hs.1 hs.2];refine⟨rfl,.inl ?_⟩;have hw:u32 (IntKind.u32.wrap (Int.tdiv s 2)):=by rw [IntKind.wrap_u32];constructor<;>omega
   cases Int.tmod s 2==1
   ·exact⟨_,by rw [Ac,ad1 (by omega)],hw⟩
   exact⟨_,by rw [Ae,ad1 (by omega)],AGm _ _⟩)
  (λs hs=>by
   simp only [It,I7]
   exact⟨rfl,s,rfl,hs⟩) (s:=s) hs
theorem AAX (s:Int) (t:ByteArray) (hs:u32 s) (ht:(L t).length<=9223372036854775806):∃v,Rn s t=some v/\R0 s t=some v/\u32 v:=by
 obtain⟨v,h1,h2,h3⟩:=MP (body:=λs:Int×Int=>JS t s.1 s.2) (body':=λs:Int×Int=>Kd t s.1 s.2) (λ(s:Int) i=>(s,i)) (L t).length (λ_ s=>u32 s) u32
  (λs i hi hs=>by
   obtain⟨v,h1,h2,h3⟩:=AAY (xr s (IntKind.u32.wrap ((L t)[i]).toNat)) (AGm _ _);simp only [JS,Kd];rw [Ad (by rw [BL];omega:(i:Int)<FL t),Ae,Ae,EX t hi,Aa,Aa,h1,h2]
   exact⟨rfl,.inl ⟨v,by rw [Aa,ad1 (by omega)],h3⟩⟩)
  (λs hs=>by
   simp only [JS,Kd];rw [Af (by rw [BL];omega:¬((L t).length:Int)<FL t),Ac,Ac]
   exact⟨rfl,s,rfl,hs⟩) (s:=s) hs
 unfold Rn R0;rw [h1,h2];exact⟨v,rfl,rfl,h3⟩
theorem wQ (t:ByteArray) (ht:(L t).length<=9223372036854775806):∃v,Nq t=some v/\X3 t=some v/\u32 v:=by
 obtain⟨v,h1,h2,h3⟩:=AAX 4294967295 t ⟨by omega,by omega⟩ ht;unfold Nq X3;rw [h1,h2];exact⟨v,rfl,rfl,h3⟩
def four (v:Int):ByteArray:=EI [(IntKind.u8.wrap (Int.fdiv v (2^(min (24:Int).toNat IntKind.u32.bits)))),(IntKind.u8.wrap (Int.fdiv v (2^(min (16:Int).toNat IntKind.u32.bits)))),(IntKind.u8.wrap (Int.fdiv v (2^(min (8:Int).toNat IntKind.u32.bits)))),(IntKind.u8.wrap v)]
theorem Uf (v:Int):(L (four v)).length=4:=by rw [four,Jn];rfl
theorem iW (t:ByteArray):HZ t=JT t:=by
 unfold HZ JT;by_cases h:(FL t)>20000
 ·rw [Ad h];rfl
 rw [Af h,Ac,Ac];rw [BL]at h;obtain⟨v,h1,h2,_⟩:=wQ t (by omega);rw [h1,h2];rfl
theorem RG (t:ByteArray):(20000<(L t).length->JT t=some (bs [],false))/\((L t).length<=20000->∃v,Nq t=some v/\JT t=some (t++four v,true)):=by
 unfold JT;rw [BL];refine⟨λh=>by rw [Ad (by omega),Ae],λh=>?_⟩;obtain⟨v,h1,h2,_⟩:=wQ t (by omega);rw [Af (by omega),Ac,h1];refine⟨v,rfl,?_⟩;have:K2 v=some (four v):=rfl;rw [Aa,this,Aa,FT _ _ (by rw [Uf];omega),Aa]
theorem wO (t:ByteArray) (ht:(L t).length<=9223372036854775806):∃u ok,K3 t=some (u,ok)/\Pm t=some (u,ok)/\(ok=true->(L u).length<=20000/\∃v,Nq u=some v/\t=u++four v)/\(ok=false->u=bs []):=by
 unfold K3 Pm;have e4:sb (FL t) 4=((L t).length:Int)-4:=by rw [BL,Cz (by omega) (by omega)]
 rw [e4];by_cases h4:(L t).length<4
 ·rw [Ad (by omega:((L t).length:Int)-4<0),Ad (by rw [BL];omega:FL t<4)];exact⟨bs [],false,rfl,rfl,by simp,λ_=>rfl⟩
 rw [Af (by omega:¬((L t).length:Int)-4<0),Af (by rw [BL];omega:¬FL t<4)];simp only [Ac];have en:((L t).length:Int)-4=(((L t).length-4:Nat):Int):=by omega
 rw [en,BL];have b:sub t 0 (((L t).length-4:Nat):Int)=some (t.extract 0 ((L t).length-4)):=EY t (i:=0) (by omega) (by omega);have a:sub t (((L t).length-4:Nat):Int) ((L t).length:Int)=some (t.extract ((L t).length-4) (L t).length):=EY t (by omega) (by omega);rw [b,a];simp only [Aa];have hu:(L (t.extract 0 ((L t).length-4))).length=(L t).length-4:=by rw [HG];simp
 obtain⟨k1,k2⟩:=RG (t.extract 0 ((L t).length-4));rw [iW];by_cases hb:20000<(L t).length-4
 ·rw [Ad (by omega:(((L t).length-4:Nat):Int)>20000),k1 (by omega)];exact⟨bs [],false,rfl,rfl,by simp,λ_=>rfl⟩
 obtain⟨v,h1,h2⟩:=k2 (by omega);rw [Af (by omega:¬(((L t).length-4:Nat):Int)>20000),h1,h2];have h3:K2 v=some (four v):=rfl;simp only [Ac,Aa,h3,Al];have c:seq (t.extract ((L t).length-4) (L t).length) (four v)=seq (t.extract 0 ((L t).length-4)++four v) t:=by
  rw [Qp,Qp,D4,HG,HG,DP,A9,A9];have e1:List.take ((L t).length-((L t).length-4)) (List.drop ((L t).length-4) (L t))=(L t).drop ((L t).length-4):=Ba (by simp);have e2:List.take ((L t).length-4-0) (List.drop 0 (L t))=(L t).take ((L t).length-4):=by simp
  rw [e1,e2];constructor
  ·intro h;rw [<-h,Br]
  intro h;have h':(L t).take ((L t).length-4)++L (four v)=(L t).take ((L t).length-4)++(L t).drop ((L t).length-4):=by rw [Br];exact h
  exact(List.append_cancel_left h').symm
 rw [c]
 cases hs:seq (t.extract 0 ((L t).length-4)++four v) t with
 |false=>exact⟨bs [],false,rfl,rfl,by simp,λ_=>rfl⟩
 |true=>
  rw [Jc,A9]at hs;exact⟨_,true,rfl,rfl,λ_=>⟨by omega,v,h1,hs.symm⟩,by simp⟩
theorem I2 (n:Nat) (h:n<=1099511627776):∃s,Hk (n:Int)=some s/\L s=C1 n:=by
 unfold Hk;obtain⟨m,o,h1,h2,h3,h4⟩:=iL (body:=λs:Int×List Int=>HQ s.1 s.2) (λ_ _=>rfl) n [] (by simpa using h);rw [h1,Aa];have:IntKind.u8.wrap (m:Int)=m:=by rw [IntKind.wrap_u8];omega
 rw [this,C3 (by simp only [Aj,Bn]at h3⊢;omega),Aa];refine⟨_,rfl,?_⟩;rw [Jn,h4];simp
def AGr (t:ByteArray) (at_:Int) (r:Int×Int×Bool):Prop:=
 (r.2.2=false/\r.1=0/\r.2.1=0)\/(r.2.2=true/\∃(a b n:Nat),at_=a/\r.2.1=b/\r.1=n/\a<b/\b<=(L t).length/\n<=1000000000/\C1 n=((L t).drop a).take (b-a))
theorem XQ (l:List UInt8) (a k:Nat) (h:a+k<l.length):(l.drop a).take (k+1)=(l.drop a).take k++ [l[a+k]]:=by
 rw [Ax (by simp;omega),SZ]
theorem nL (k:Nat) (h:k<5):(128:Nat)^k<=268435456:=by
 have:k<=4:=by omega
 calc 128^k<=128^4:=Nat.pow_le_pow_right (by omega) this
  _=268435456:=by decide
theorem Xq:∀ds:List UInt8,Ft ds<128^ds.length
 |[]=>by simp [Ft]
 |d::ds=>by
  have:=Xq ds;simp only [Ft,Ay,Xm];omega
theorem AFl (x k:Nat) (hx:x<128) (hk:k<5):shl .i64 (x:Int) (ml 7 (k:Int))=some ((x*128^k:Nat):Int):=by
 have h7:ml 7 (k:Int)=((7*k:Nat):Int):=by rw [Oh (by omega) (by omega)];omega
 unfold shl;rw [h7,A5 (by omega)];have e:(2:Int)^(min ((7*k:Nat):Int).toNat IntKind.i64.bits)=((128^k:Nat):Int):=by
  have hb:IntKind.i64.bits=64:=rfl;have h128:(128:Nat)^k=2^(7*k):=by rw [Nat.pow_mul]
  rw [hb,B6,Nat.min_eq_left (by omega),h128]
  norm_cast
 rw [e];have hp:=nL k hk;have hm:x*128^k<=128*268435456:=fG (by omega) hp;have ec:(x:Int)*((128^k:Nat):Int)=((x*128^k:Nat):Int):=by norm_cast
 rw [ec,ND (by omega) (by omega)]
theorem jJ (x:Nat):Int.tmod (x:Int) 128=((x %128:Nat):Int):=rfl
theorem Ig (t:ByteArray) (at_:Int) (ht:(L t).length<=4611686018427387904) (p:oI at_):∃r,Jx t at_=some r/\JA t at_=some r/\AGr t at_ r:=by
 have fails:∀(at_:Int),(at_<0\/((L t).length:Int)<=at_)->oI at_->JA t at_=some (0,0,false):=by
  intro at_ h p;unfold JA;rw [A8];simp only [Hi];rw [Ad (by omega:(0:Int)<5),Ae];by_cases h0:at_>=0
  ·rw [Ad h0,Ae,BL,Cz (by omega) (by omega),Af (by omega)];rfl
  rw [Af h0];rfl
 by_cases h5:0<=at_/\at_<(L t).length
 ·obtain⟨a,rfl⟩:=Dg h5.1;have ha:a<(L t).length:=by omega
  have h6:∀(B1:Int×Int×Int->Option ((Int×Int×Int)⊕((Unit)⊕((Int×Int×Bool))))) (B2:Int×Int->Option ((Int×Int)⊕((Unit)⊕((Int×Int×Bool))))),(∀n sc i,B1 (n,sc,i)=DK t (a:Int) n sc i)->(∀n k,B2 (n,k)=Hi t (a:Int) n k)->∀(m k:Nat),k+m=5->a+k<=(L t).length->(∀d∈((L t).drop a).take k,128<=d.toNat)->
    ∃r,(Aw B1 (((Ft (((L t).drop a).take k):Nat):Int),((128^k:Nat):Int),((a+k:Nat):Int))=some r/\Aw B2 (((Ft (((L t).drop a).take k):Nat):Int),(k:Int))=some r)/\(r= .inl ()\/∃q,r= .inr q/\AGr t (a:Int) q):=by
   intro B1 B2 u v m
   induction m with
   |zero=>
    intro k hk h7 hd;have f:k=5:=by omega
    subst f;refine⟨.inl (),⟨?_,?_⟩,.inl rfl⟩
    ·rw [A8];simp only [u,DK];rw [CA (by omega) (by omega),Af (by omega:¬((a+5:Nat):Int)<(a:Int)+5)];cases decide (((a+5:Nat):Int)<FL t)<;>rfl
    rw [A8];simp only [v,Hi];rw [Af (by omega:¬((5:Nat):Int)<5)];rfl
   |succ m ih=>
    intro k hk h7 hd;rw [A8,A8 B2];simp only [u,v,DK,Hi];have f:k<5:=by omega
    rw [CA (b:=5) (by omega) (by omega),Ad (by omega:((a+k:Nat):Int)<(a:Int)+5),Ad (by omega:(k:Int)<5),Ad (by omega:(a:Int)>=0),BL,Cz (by omega) (by omega)];by_cases w:a+k<(L t).length
    ·rw [Ad (by omega:((a+k:Nat):Int)<((L t).length:Int)),Ad (by omega:(a:Int)<((L t).length:Int)-k)];have eak:ad (a:Int) (k:Int)=((a+k:Nat):Int):=by rw [CA (by omega) (by omega)];omega
     simp only [Ae,Aa,EX t w,eak];have hx:=qY ((L t)[a+k]);have g:=XQ (L t) a k w;have l:(((L t).drop a).take k).length=k:=by simp;omega
     have j:=Nj (((L t).drop a).take k) [(L t)[a+k]];rw [<-g,l]at j;have h8:=Xq (((L t).drop a).take k);rw [l]at h8;have hp:=nL k f;generalize a4:(L t)[a+k]=x at hx g j;simp only [Ft,Nat.mul_zero,G3]at j;have hw:IntKind.i64.wrap (x.toNat:Int)=x.toNat:=ND (by omega) (by omega);have a2:x.toNat %128*128^k<=127*268435456:=fG (by omega) hp;have emul:ml ((x.toNat %128:Nat):Int) ((128^k:Nat):Int)=((x.toNat %128*128^k:Nat):Int):=by
      have ec:((x.toNat %128:Nat):Int)*((128^k:Nat):Int)=((x.toNat %128*128^k:Nat):Int):=by norm_cast
      rw [Oh (by rw [ec];omega) (by rw [ec];omega),ec]
     have enew:ad (((Ft (((L t).drop a).take k):Nat)):Int) ((x.toNat %128*128^k:Nat):Int)=((Ft (((L t).drop a).take (k+1)):Nat):Int):=by
      rw [CA (by omega) (by omega),j,AA3 (128^k)];omega
     rw [hw,jJ,AFl _ k (by omega) f];simp only [Aa,emul,enew];by_cases o:x.toNat<128
     ·rw [Ad (by omega:(x.toNat:Int)<128),Af (by omega:¬(x.toNat:Int)>=128)];simp only [Ae,Ac];have ek1:ad ((a+k:Nat):Int) 1=((a+k+1:Nat):Int):=ad1 (by omega);have c:=iK (((L t).drop a).take k) x hd o;rw [<-g]at c;have h9:(((L t).drop a).take k≠ [])↔0<k:=by
       rw [<-Ik,l]
      rw [h9]at c;have y:sub t (a:Int) ((a+k+1:Nat):Int)=some (t.extract a (a+k+1)):=EY t (by omega) (by omega);rw [ek1,y];by_cases a3:Ft (((L t).drop a).take (k+1))>1000000000
      ·rw [Ad (by omega:((Ft (((L t).drop a).take (k+1)):Nat):Int)>1000000000)];refine⟨.inr (0,0,false),⟨rfl,?_⟩,.inr ⟨_,rfl,.inl ⟨rfl,rfl,rfl⟩⟩⟩;cases(x.toNat:Int)==0
       ·rfl
       cases decide ((k:Int)>0)<;>rfl
      rw [Af (by omega:¬((Ft (((L t).drop a).take (k+1)):Nat):Int)>1000000000)];obtain⟨s,a0,a1⟩:=I2 (Ft (((L t).drop a).take (k+1))) (by omega);simp only [Ac,Aa,a0];have z:seq s (t.extract a (a+k+1))=decide (¬(x.toNat=0/\0<k)):=by
       rw [Qp,a1,HG,show a+k+1-a=k+1 by omega,DP,A9,A9];exact c
      rw [z];by_cases hz:x.toNat=0/\0<k
      ·rw [Af (λe=>e hz)];refine⟨.inr (0,0,false),⟨rfl,?_⟩,.inr ⟨_,rfl,.inl ⟨rfl,rfl,rfl⟩⟩⟩;have:((x.toNat:Int)==0)=true:=by rw [hz.1];rfl
       rw [this,Ad (by omega:(k:Int)>0)];rfl
      rw [Ad hz];refine⟨.inr (((Ft (((L t).drop a).take (k+1)):Nat):Int),((a+k+1:Nat):Int),true),⟨rfl,?_⟩,.inr ⟨_,rfl,.inr ⟨rfl,a,a+k+1,_,rfl,rfl,rfl,by omega,by omega,by omega,?_⟩⟩⟩
      ·by_cases h4:x.toNat=0
       ·have:((x.toNat:Int)==0)=true:=by rw [h4];rfl
        rw [this,Af (by omega:¬(k:Int)>0)];rfl
       have:((x.toNat:Int)==0)=false:=by simpa using h4
       rw [this];rfl
      rw [show a+k+1-a=k+1 by omega];exact c.2 hz
     rw [Af (by omega:¬(x.toNat:Int)<128),Ad (by omega:(x.toNat:Int)>=128)];simp only [Ae,Ac];have e1:ml ((128^k:Nat):Int) 128=((128^(k+1):Nat):Int):=by
      rw [Oh (by omega) (by omega),Xm];norm_cast
     have e2:ad ((a+k:Nat):Int) 1=((a+(k+1):Nat):Int):=ad1 (by omega);have e3:ad (k:Int) 1=((k+1:Nat):Int):=ad1 (by omega);rw [e1,e2,e3]
     exact ih (k+1) (by omega) (by omega) (by
      rw [g];intro d hd'
      rcases Ak.1 hd' with hd'|hd'
      ·exact hd d hd'
      simp at hd';subst hd';omega)
    rw [Af (by omega:¬((a+k:Nat):Int)<((L t).length:Int)),Af (by omega:¬(a:Int)<((L t).length:Int)-k)];exact⟨.inl (),⟨rfl,rfl⟩,.inl rfl⟩
  obtain⟨r,⟨h1,h2⟩,h3⟩:=h6 (λs=>DK t (a:Int) s.1 s.2.1 s.2.2) (λs=>Hi t (a:Int) s.1 s.2) (λ_ _ _=>rfl) (λ_ _=>rfl) 5 0 rfl (by omega) (by simp);unfold Jx JA;have hw:BY (a:Int) 0 (FL t)=some true:=by
   unfold BY;rw [Ad (by omega:(a:Int)>=0),Ae,BL,Ad (by omega)]
  rw [hw];simp only [Aa,Al,Ac];simp only [IA,Ft,Nat.pow_zero,G3]at h1 h2;rw [show((0:Nat):Int)=0 from rfl,show((1:Nat):Int)=1 from rfl]at h1;rw [show((0:Nat):Int)=0 from rfl]at h2;rw [h1,h2]
  rcases h3 with rfl|⟨q,rfl,h3⟩
  ·exact⟨_,rfl,rfl,.inl ⟨rfl,rfl,rfl⟩⟩
  exact⟨q,rfl,rfl,h3⟩
 have hf:=fails at_ (by omega) p;refine⟨(0,0,false),?_,hf,.inl ⟨rfl,rfl,rfl⟩⟩;unfold Jx;by_cases h0:0<=at_/\at_<=(L t).length
 ·have hw:BY at_ 0 (FL t)=some true:=by
   unfold BY;rw [Ad (by omega:at_>=0),Ae,BL,Ad (by omega)]
  rw [hw];simp only [Aa,Al,Ac];rw [A8];simp only [DK];rw [Af (by rw [BL];omega:¬at_<FL t)];rfl
 have hw:BY at_ 0 (FL t)=some false:=by
  unfold BY;by_cases h1:at_>=0
  ·rw [Ad h1,Ae,BL,Af (by omega)]
  rw [Af h1,Ac]
 rw [hw];rfl
theorem ZR:JI=BY:=rfl
variable {r n x:Int} {R:List Int} {i s j k:Nat} {α γ:Type} {v:Vol} {p:Nat->Bool} {l:List α}
theorem C6 {i:Int} {x:α} (h:gi l i=some x):0<=i/\l[i.toNat]?=some x:=by
 unfold gi at h;split at h
 ·exact⟨by assumption,h⟩
 cases h
theorem SJ:On=Gc:=by
 have h2:Me=Ei:=by
  funext x y;unfold Me Ei
  cases decide (y<ln x.Leaves)with
  |false=>rfl
  |true=>
   simp only [Ae]
   cases gi x.Leaves y with
   |none=>rfl
   |some z=>rfl
 funext f;unfold On Gc;have:Mf f=Ej f:=by
  funext i;unfold Mf Ej;rw [h2];rfl
 rw [this];rfl
def L0 (f:Flash):Prop:=f.Blocks.length<=1048576/\∀b∈f.Blocks,b.Leaves.length<=1048576
theorem PG (x a b:Int):BY x a b=some (decide (a<=x)&&decide (x<=b)):=by
 unfold BY;by_cases h:x>=a
 ·rw [Ad h,Ae,C4]
 rw [Af h,Ac,Bool.false_and]
theorem AFH (x:Leaf):∃v,Mm x=some v:=by
 unfold Mm;cases x.Is==0
 ·simp only [Ac];cases x.Is==1
  ·simp only [Ac];cases x.Is==2<;>exact⟨_,rfl⟩
  simp only [Ae,PG,Aa];exact⟨_,rfl⟩
 exact⟨_,rfl⟩
theorem SU (f:Flash) (h:L0 f):∃v,Gc f=some v/\(v=true->f.Blocks.length<=10/\∀b∈f.Blocks,b.Leaves.length=4):=by
 have a:=Bk (body:=λs:Int=>Ej f s) (λ(_:Unit) i=>i) f.Blocks.length (λi _=>∀j b,j<i->f.Blocks[j]?=some b->b.Leaves.length=4) (λr=>r= .inr false\/r= .inl ()/\∀b∈f.Blocks,b.Leaves.length=4)
  (λs i hi hs=>by
   obtain⟨x,hx⟩:∃x,f.Blocks[i]?=some x:=⟨_,Ab hi⟩;have hM:=h.1;have hL:=h.2 x (A6 hx);simp only [Ej,AE,Ad hi,Ae,AC,hx,Aa,PG];by_cases h4:x.Leaves.length=4
   ·have e1:(ln x.Leaves !=4)=false:=by simp [ln,h4]
    simp only [e1,Ac,Aa]
    cases hw:(decide (0<=x.Wear)&&decide (x.Wear<=1000000000))with
    |false=>exact .inr ⟨_,rfl,.inl rfl⟩
    |true=>
     simp only [Al,Ac];obtain⟨r,h5,h6⟩:=Bk (body:=λs:Int=>Ei x s) (λ(_:Unit) i=>i) x.Leaves.length (λ_ _=>True) (λr=>r= .inl ()\/r= .inr (.inr (.inr false)))
      (λs k hk _=>by
       obtain⟨y,hy⟩:∃y,x.Leaves[k]?=some y:=⟨_,Ab hk⟩;obtain⟨v,hv⟩:=AFH y;simp only [Ei,AE,Ad hk,Ae,AC,hy,Aa,hv];have fin:∀j:Bool,(∃s':Unit,(bif j then some (.inr (.inr (.inr (.inr false))))else some (.inl (ad (k:Int) 1)):Option (Int⊕(Unit⊕(Int⊕(Unit⊕Bool)))))=some (.inl (((k+1:Nat)):Int))/\True)\/∃b,(bif j then some (.inr (.inr (.inr (.inr false))))else some (.inl (ad (k:Int) 1)):Option (Int⊕(Unit⊕(Int⊕(Unit⊕Bool)))))=some (.inr b)/\(b= .inl ()\/b= .inr (.inr (.inr false))):=by
        intro j
        cases j with
        |true=>exact .inr ⟨_,rfl,.inr rfl⟩
        |false=>exact .inl ⟨(),by rw [Ac,ad1 (by omega)],trivial⟩
       cases v with
       |false=>exact fin true
       |true=>
        simp only [Al,Ac];by_cases c:0<k
        ·rw [Ad (by omega:(k:Int)>0),Ae,Cz (by omega) (by omega),Kr (by omega) (by omega),Aa];cases(x.Leaves[((k:Int)-1).toNat]'(by omega)).Is==0
         ·exact fin false
         exact fin (y.Is !=0)
        rw [Af (by omega:¬(k:Int)>0)]
        exact fin false)
      (λs _=>⟨_,by simp only [Ei,AE,Aq,Av,Ac],.inl rfl⟩) (s:=()) trivial
     rw [h5,Aa]
     rcases h6 with rfl|rfl
     ·refine .inl ⟨(),by rw [BM,ad1 (by omega)],?_⟩;intro j b hj hb;by_cases e:j=i
      ·subst e;rw [hx]at hb;injection hb with hb;rw [<-hb];exact h4
      exact hs j b (by omega) hb
     exact .inr ⟨_,rfl,.inl rfl⟩
   have e1:(ln x.Leaves !=4)=true:=by simp [ln];omega
   simp only [e1,Ae,Aa]
   exact .inr ⟨_,rfl,.inl rfl⟩)
  (λs hs=>⟨_,by simp only [Ej,AE,Aq,Av,Ac],.inr ⟨rfl,λb hb=>by
   obtain⟨j,hj,e⟩:=AI hb
   exact hs j b hj (by rw [<-e];exact Ab hj)⟩⟩) (s:=()) (λj b hj=>absurd hj (by omega))
 obtain⟨r,h1,h2⟩:=a;unfold Gc;rw [h1,Aa]
 rcases h2 with rfl|⟨rfl,h2⟩
 ·exact⟨false,rfl,by simp⟩
 simp only [BM,PG,Aa];refine⟨_,rfl,λe=>⟨?_,h2⟩⟩;rw [An,A9,A9,Cf]at e;omega
theorem RH (p:Page):∃v,JW p=some v/\QO p=some v/\(v=true->(p.Kind=1\/p.Kind=2)/\(1<=p.Seq/\p.Seq<=1000000000)/\(1<=p.Tx/\p.Tx<=1000000000)/\(1<=p.Count/\p.Count<=9)/\(0<=p.Part/\p.Part<p.Count)/\FL p.Text<=90):=by
 unfold JW QO;rw [ZR];simp only [PG,Aa];by_cases h1:1<=p.Seq/\p.Seq<=1000000000
 ·by_cases h2:1<=p.Tx/\p.Tx<=1000000000
  ·by_cases h3:1<=p.Count/\p.Count<=9
   ·have e:sb p.Count 1=p.Count-1:=Cz (by omega) (by omega);rw [e];by_cases h4:0<=p.Part/\p.Part<=p.Count-1
    ·by_cases h5:FL p.Text>90
     ·refine⟨false,?_,?_,by simp⟩
      ·cases hk:(decide (1<=p.Kind)&&decide (p.Kind<=2))<;>simp [h1,h2,h3,h4,h5]
      simp [h1,h2,h3,h4,h5]
     by_cases k2:p.Kind=2
     ·exact⟨true,by simp [h1,h2,h3,h4,h5,k2],by simp [h1,h2,h3,h4,h5,k2],λ_=>⟨.inr k2,h1,h2,h3,⟨h4.1,by omega⟩,by omega⟩⟩
     by_cases k1:p.Kind=1
     ·exact⟨p.Count==1,by simp [h1,h2,h3,h4,h5,k1],by simp [h1,h2,h3,h4,h5,k1],λ_=>⟨.inl k1,h1,h2,h3,⟨h4.1,by omega⟩,by omega⟩⟩
     have hk:(decide (1<=p.Kind)&&decide (p.Kind<=2))=false:=by
      rw [C5,AY,AY];omega
     have e1:(p.Kind==1)=false:=by simpa using k1
     have e2:(p.Kind==2)=false:=by simpa using k2
     exact⟨false,by simp [hk],by simp [h1,h2,h3,h4,h5,e1,e2],by simp⟩
    have e4:(decide (0<=p.Part)&&decide (p.Part<=p.Count-1))=false:=by
     rw [C5,AY,AY];omega
    refine⟨false,?_,?_,by simp⟩
    ·cases hk:(decide (1<=p.Kind)&&decide (p.Kind<=2))<;>simp [h1,h2,h3,e4]
    simp [h1,h2,h3,e4]
   have e3:(decide (1<=p.Count)&&decide (p.Count<=9))=false:=by
    rw [C5,AY,AY];omega
   refine⟨false,?_,?_,by simp⟩
   ·cases hk:(decide (1<=p.Kind)&&decide (p.Kind<=2))<;>simp [h1,h2,e3]
   simp [h1,h2,e3]
  have e2:(decide (1<=p.Tx)&&decide (p.Tx<=1000000000))=false:=by
   rw [C5,AY,AY];omega
  refine⟨false,?_,?_,by simp⟩
  ·cases hk:(decide (1<=p.Kind)&&decide (p.Kind<=2))<;>simp [h1,e2]
  simp [h1,e2]
 have e1:(decide (1<=p.Seq)&&decide (p.Seq<=1000000000))=false:=by
  rw [C5,AY,AY];omega
 refine⟨false,?_,?_,by simp⟩
 ·cases hk:(decide (1<=p.Kind)&&decide (p.Kind<=2))<;>simp [e1]
 simp [e1]
def gZ:Page:=Page.mk 0 0 0 0 0 (bs [])
theorem Hh (u:ByteArray) (a:Int) (hu:(L u).length<=20000) (ha:oI a):Du (D0.mk u a true)=some (0,D0.mk u a true):=by
 obtain⟨r,h1,_,_⟩:=Ig u a (by omega) ha;unfold Du;simp only [h1,Aa,Ae]
theorem J6 {r:Int×Int×Bool} (u:ByteArray) (a:Int) (hu:(L u).length<=20000) (h:Jx u a=some r):Du (D0.mk u a false)=some (bif r.2.2 then(r.1,D0.mk u r.2.1 false)else(0,D0.mk u a true)):=by
 unfold Du;simp only [h,Aa,Ac];cases r.2.2<;>rfl
theorem P1 {a b:Nat} (l:List UInt8) (h:a<=b):l.drop a=(l.drop a).take (b-a)++l.drop b:=by
 have:=(Br (b-a) (l.drop a)).symm;rw [CL,show a+(b-a)=b by omega]at this;exact this
theorem Wu (p:Page) (u:ByteArray) (k:UInt8) (n1 n2 n3 n4:Nat) (hp:JW p=some true) (hk:p.Kind=(k.toNat:Int)) (h1:p.Seq=n1) (h2:p.Tx=n2) (h3:p.Part=n3) (h4:p.Count=n4) (b1:n1<=1000000000) (b2:n2<=1000000000) (b3:n3<=1000000000) (b4:n4<=1000000000) (hu:(L u).length<=20000) (e:L u=[k]++C1 n1++C1 n2++C1 n3++C1 n4++L p.Text):E5 p=JT u:=by
 obtain⟨s1,q1,r1⟩:=I2 n1 (by omega);obtain⟨s2,q2,r2⟩:=I2 n2 (by omega);obtain⟨s3,q3,r3⟩:=I2 n3 (by omega);obtain⟨s4,q4,r4⟩:=I2 n4 (by omega);have hl:=Ca List.length e;simp only [Ag,Aj]at hl;have hb:Js p.Kind=some (EI [IntKind.u8.wrap p.Kind]):=rfl;have a:L (EI [IntKind.u8.wrap p.Kind])=[k]:=by
  rw [Jn,hk,IntKind.wrap_u8];have:=qY k;have e2:((k.toNat:Int) %256).toNat=k.toNat:=by omega
  simp only [BF,AA4,e2,UInt8.ofNat_toNat]
 unfold E5;rw [hp];simp only [Aa,Al,Ac,hb,h1,h2,h3,h4,q1,q2,q3,q4];rw [FT _ _ (by rw [a,r1];simp only [Aj];omega),Aa];rw [FT _ _ (by rw [D4,a,r1,r2];simp only [Ag,Aj];omega),Aa];rw [FT _ _ (by rw [D4,D4,a,r1,r2,r3];simp only [Ag,Aj];omega),Aa];rw [FT _ _ (by rw [D4,D4,D4,a,r1,r2,r3,r4];simp only [Ag,Aj];omega),Aa];rw [FT _ _ (by rw [D4,D4,D4,D4,a,r1,r2,r3,r4];simp only [Ag,Aj];omega),Aa];have:EI [IntKind.u8.wrap p.Kind]++s1++s2++s3++s4++p.Text=u:=by
  apply Ii;rw [D4,D4,D4,D4,D4,a,r1,r2,r3,r4,e]
 rw [this]
 cases JT u with
 |none=>rfl
 |some v=>rfl
theorem Ih (t:ByteArray) (ht:(L t).length<=9223372036854775806):∃p ok,F7 t=some (p,ok)/\Po t=some (p,ok)/\(ok=false->p=gZ)/\(ok=true->JW p=some true):=by
 obtain⟨u,uok,k,m,n,o⟩:=wO t ht;unfold F7 Po;rw [k,m];simp only [Aa];have o1:oI 1:=⟨by omega,by omega⟩
 cases uok with
 |false=>
  have:=o rfl;subst this;have hz:(L (bs [])).length<=20000:=by rw [DV];simp
  simp only [AJ,Ae,Aa,Hh _ _ hz o1];exact⟨gZ,false,rfl,rfl,λ_=>rfl,by simp⟩
 |true=>
  obtain⟨f,v,hv,q⟩:=n rfl;simp only [Al,Ac,Aa];by_cases he:(L u).length<1
  ·have h:seq u (bs [])=true:=by
    rw [Qp,A9,DV];exact AB (by omega)
   rw [Ad (by rw [BL];omega:FL u<1),h];simp only [Ae,Hh _ _ f o1,Aa];exact⟨gZ,false,rfl,rfl,λ_=>rfl,by simp⟩
  have h:seq u (bs [])=false:=by
   rw [Qp,AY,DV];intro e;rw [e]at he;simp at he
  rw [Af (by rw [BL];omega:¬FL u<1),h];simp only [Ac];have four_:∀(B:Int×Int×Int×Int×Int×Int->Option ((Int×Int×Int×Int×Int×Int)⊕((Int×Int×Int×Int×Int)⊕((Page×Bool))))),(∀x y a b c d,B (x,y,a,b,c,d)=EE (u,true) x y a b c d)->
    ∃(a:Int) (m1 m2 m3 m4:Int) (bad:Bool),(∃c1 c2 c3,Du (D0.mk u 1 false)=some (m1,c1)/\Du c1=some (m2,c2)/\Du c2=some (m3,c3)/\Du c3=some (m4,D0.mk u a bad))/\
     Aw B (1,0,0,0,0,0)=some (bif bad then .inr (gZ,false)else .inl (a,m1,m2,m3,m4))/\(bad=false->∃(a1 a2 a3 a4 n1 n2 n3 n4:Nat),m1=n1/\m2=n2/\m3=n3/\m4=n4/\a=a4/\1<a1/\a1<a2/\a2<a3/\a3<a4/\a4<=(L u).length/\n1<=1000000000/\n2<=1000000000/\n3<=1000000000/\n4<=1000000000/\
      C1 n1=((L u).drop 1).take (a1-1)/\C1 n2=((L u).drop a1).take (a2-a1)/\C1 n3=((L u).drop a2).take (a3-a2)/\C1 n4=((L u).drop a3).take (a4-a3)):=by
   intro B hB;obtain⟨r1,p1,q1,w1⟩:=Ig u 1 (by omega) o1;have g1:=J6 u 1 f p1;rw [A8,hB];unfold EE;rw [Ad (by omega:(0:Int)<4),Ae,q1,Aa]
   rcases w1 with⟨w1,w2,w3⟩|⟨w1,a0',a1,n1,z0,z1,z2,z3,z4,z5,z6⟩
   ·rw [w1]at g1⊢;exact⟨1,0,0,0,0,true,⟨_,_,_,g1,Hh u 1 f o1,Hh u 1 f o1,Hh u 1 f o1⟩,rfl,by simp⟩
   have ea0:a0'=1:=by omega
   subst ea0;rw [w1]at g1⊢;have x1:oI r1.2.1:=⟨by omega,by omega⟩;simp only [Al,Ac,Ae]at g1⊢;rw [show((0:Int)==0)=true from rfl,Ae,show ad 0 1=1 from ad1 (i:=0) (by omega)];simp only;obtain⟨r2,p2,q2,y1⟩:=Ig u r1.2.1 (by omega) x1;have g2:=J6 u r1.2.1 f p2;rw [A8,hB];unfold EE;rw [Ad (by omega:(1:Int)<4),Ae,q2,Aa]
   rcases y1 with⟨y1,_,_⟩|⟨y1,b0,a2,n2,y2,y3,y4,y5,y6,y7,y8⟩
   ·rw [y1]at g2⊢;exact⟨r1.2.1,r1.1,0,0,0,true,⟨_,_,_,g1,g2,Hh u _ f x1,Hh u _ f x1⟩,rfl,by simp⟩
   have eb:b0=a1:=by omega
   subst eb;rw [y1]at g2⊢;have x2:oI r2.2.1:=⟨by omega,by omega⟩;simp only [Al,Ac,Ae]at g2⊢;rw [show((1:Int)==0)=false from rfl,Ac,show((1:Int)==1)=true from rfl,Ae,show ad 1 1=2 from ad1 (i:=1) (by omega)];simp only;obtain⟨r3,p3,q3,k1⟩:=Ig u r2.2.1 (by omega) x2;have g3:=J6 u r2.2.1 f p3;rw [A8,hB];unfold EE;rw [Ad (by omega:(2:Int)<4),Ae,q3,Aa]
   rcases k1 with⟨k1,_,_⟩|⟨k1,c0,a3,n3,k2,k3,k4,k5,k6,k7,k8⟩
   ·rw [k1]at g3⊢;exact⟨r2.2.1,r1.1,r2.1,0,0,true,⟨_,_,_,g1,g2,g3,Hh u _ f x2⟩,rfl,by simp⟩
   have ec:c0=a2:=by omega
   subst ec;rw [k1]at g3⊢;have x3:oI r3.2.1:=⟨by omega,by omega⟩;simp only [Al,Ac,Ae]at g3⊢;rw [show((2:Int)==0)=false from rfl,Ac,show((2:Int)==1)=false from rfl,Ac,show((2:Int)==2)=true from rfl,Ae,show ad 2 1=3 from ad1 (i:=2) (by omega)];simp only;obtain⟨r4,p4,q4,l1⟩:=Ig u r3.2.1 (by omega) x3;have g4:=J6 u r3.2.1 f p4;rw [A8,hB];unfold EE;rw [Ad (by omega:(3:Int)<4),Ae,q4,Aa]
   rcases l1 with⟨l1,_,_⟩|⟨l1,d0,a4,n4,l2,l3,l4,l5,l6,l7,l8⟩
   ·rw [l1]at g4⊢;exact⟨r3.2.1,r1.1,r2.1,r3.1,0,true,⟨_,_,_,g1,g2,g3,g4⟩,rfl,by simp⟩
   have ed:d0=a3:=by omega
   subst ed;rw [l1]at g4⊢;simp only [Al,Ac,Ae]at g4⊢;rw [show((3:Int)==0)=false from rfl,Ac,show((3:Int)==1)=false from rfl,Ac,show((3:Int)==2)=false from rfl,Ac,show((3:Int)==3)=true from rfl,Ae,show ad 3 1=4 from ad1 (i:=3) (by omega)];simp only;rw [A8,hB];unfold EE;rw [Af (by omega:¬(4:Int)<4),Ac];exact⟨r4.2.1,r1.1,r2.1,r3.1,r4.1,false,⟨_,_,_,g1,g2,g3,g4⟩,rfl,λ_=>⟨b0,c0,d0,a4,n1,n2,n3,n4,z2,y4,k4,l4,l3,z3,y5,k5,l5,l6,z5,y7,k7,l7,z6,y8,k8,l8⟩⟩
  obtain⟨a,m1,m2,m3,m4,bad,⟨c1,c2,c3,f1,f2,f3,f4⟩,f5,f6⟩:=four_ (λs:Int×Int×Int×Int×Int×Int=>EE (u,true) s.1 s.2.1 s.2.2.1 s.2.2.2.1 s.2.2.2.2.1 s.2.2.2.2.2) (λ_ _ _ _ _ _=>rfl);rw [f5];simp only [f1,f2,f3,f4,Aa]
  cases bad with
  |true=>exact⟨gZ,false,rfl,rfl,λ_=>rfl,by simp⟩
  |false=>
   obtain⟨a1,a2,a3,a4,n1,n2,n3,n4,rfl,rfl,rfl,rfl,rfl,i1,i2,i3,i4,i5,j1,j2,j3,j4,s1,s2,s3,s4⟩:=f6 rfl;simp only [Ac,Aa,BM];have r:sx u 0=some (((L u)[0]'(by omega)).toNat:Int):=EX u (i:=0) (by omega);have j:sub u (a4:Int) (FL u)=some (u.extract a4 (L u).length):=by rw [BL];exact EY u (by omega) (by omega)
   rw [r,j];simp only [Aa];have hk:=qY ((L u)[0]'(by omega));have hw:IntKind.i64.wrap (((L u)[0]'(by omega)).toNat:Int)=((L u)[0]'(by omega)).toNat:=ND (by omega) (by omega);rw [hw];obtain⟨po,po1,po2,_⟩:=RH (Page.mk (((L u)[0]'(by omega)).toNat:Int) n1 n2 n3 n4 (u.extract a4 (L u).length));rw [po2];simp only [Aa]
   cases po with
   |false=>
    have:E5 (Page.mk (((L u)[0]'(by omega)).toNat:Int) n1 n2 n3 n4 (u.extract a4 (L u).length))=some (bs [],false):=by
     unfold E5;rw [po1];rfl
    rw [this];exact⟨gZ,false,rfl,rfl,λ_=>rfl,by simp⟩
   |true=>
    have hT:L (u.extract a4 (L u).length)=(L u).drop a4:=by
     rw [HG];exact Ba (by simp)
    have g:L u=[(L u)[0]'(by omega)]++C1 n1++C1 n2++C1 n3++C1 n4++L (u.extract a4 (L u).length):=by
     rw [hT,s1,s2,s3,s4];have h0:L u=[(L u)[0]'(by omega)]++(L u).drop 1:=by
      have:=Bh (l:=L u) (i:=0) (by omega);simpa using this
     have d1:=P1 (L u) (a:=1) (b:=a1) (by omega);have d2:=P1 (L u) (a:=a1) (b:=a2) (by omega);have d3:=P1 (L u) (a:=a2) (b:=a3) (by omega);have d4:=P1 (L u) (a:=a3) (b:=a4) (by omega);simp only [Ar];rw [<-d4,<-d3,<-d2,<-d1];exact h0
    rw [Wu _ u ((L u)[0]'(by omega)) n1 n2 n3 n4 po1 rfl rfl rfl rfl rfl j1 j2 j3 j4 f g];obtain⟨v',hv',hs'⟩:=(RG u).2 f;rw [hv]at hv'
    injection hv' with hv'
    subst hv';rw [hs',Aa];have:seq (u++four v) t=true:=by rw [Jc,A9];exact q.symm
    simp only [Al,Ac,Aa,this];exact⟨_,true,rfl,rfl,by simp,λ_=>po1⟩
def NQ (x:Leaf):Nat:=x.Text.size
def JL (x:Block):Nat:=zl NQ x.Leaves
def Mw (x:Flash):Nat:=zl JL x.Blocks
theorem AF5 (f:Flash) (h:Mw f<=1048576):L0 f/\∀b∈f.Blocks,∀x∈b.Leaves,(L x.Text).length<=1048576:=by
 have h1:=UC (z:=JL) (l:=f.Blocks);unfold Mw at h;refine⟨⟨by omega,λb hb=>?_⟩,λb hb x hx=>?_⟩
 ·have h2:=jC (z:=JL) hb;have h3:=UC (z:=NQ) (l:=b.Leaves);have e:JL b=zl NQ b.Leaves:=rfl;omega
 have h2:=jC (z:=JL) hb;have h3:=jC (z:=NQ) hx;have e:JL b=zl NQ b.Leaves:=rfl;have e2:NQ x=x.Text.size:=rfl;rw [VE];omega
def nl (l:List Block):Nat:=(l.map λb=>b.Leaves.length).sum
theorem AH1 (f:Flash):nl f.Blocks<=Mw f:=by
 unfold nl Mw zl;have:∀l:List Block,(l.map λb=>b.Leaves.length).sum<=(l.map JL).sum:=by
  intro l
  induction l with
  |nil=>simp
  |cons b l ih=>
   have:=UC (z:=NQ) (l:=b.Leaves);have e:JL b=zl NQ b.Leaves:=rfl;simp only [BF,FJ];omega
 have:=this f.Blocks;omega
def QH (f:Flash) (y:As):Prop:=∃b x,gi f.Blocks y.Block=some b/\gi b.Leaves y.Leaf=some x/\(x.Is==1)=true/\F7 x.Text=some (y.Page,true)
theorem Ws {b:Block} {x:Leaf} (f:Flash) (hf:L0 f) (hb:f.Blocks[i]?=some b) (hx:b.Leaves[k]?=some x):OL f i k=some (bif x.Is==1 then(x.Text,true)else(bs [],false)):=by
 have h1:=(Ai.1 hb).1;have h2:=(Ai.1 hx).1;have h3:=hf.1;have h4:=hf.2 b (A6 hb);unfold OL;rw [Cz (by rw [Cf];omega) (by rw [Cf];omega),PG,Cf,Ad (by omega:(0:Int)<=(i:Int)),Ad (by omega:(i:Int)<=(f.Blocks.length:Int)-1)];simp only [Aa,JF,Al,Ac,AC,hb];rw [Cz (by rw [Cf];omega) (by rw [Cf];omega),PG,Cf,Ad (by omega:(0:Int)<=(k:Int)),Ad (by omega:(k:Int)<=(b.Leaves.length:Int)-1)];simp only [Aa,JF,Al,Ac,hx]
 cases h:x.Is==1 with
 |true=>
  have:(x.Is !=1)=false:=by simp [bne,h]
  simp [this]
 |false=>
  have:(x.Is !=1)=true:=by simp [bne,h]
  simp [this]
theorem SL (f:Flash) (hf:L0 f) (hT:∀b∈f.Blocks,∀x∈b.Leaves,(L x.Text).length<=1048576) (hn:nl f.Blocks<=1048576):
  ∃X,Aw (λs:List As×Int=>EC f s.1 s.2) ([],0)=some X/\Aw (λs:Int×List As=>I8 f s.1 s.2) (0,[])=some X/\X.length<=nl f.Blocks/\∀y∈X,QH f y:=by
 refine QF (body:=λs:List As×Int=>EC f s.1 s.2) (body':=λs:Int×List As=>I8 f s.1 s.2) (λs i=>(s,i)) (λs i=>(i,s)) f.Blocks.length (λi a=>a.length<=((f.Blocks.take i).map λb=>b.Leaves.length).sum/\∀y∈a,QH f y) (λX=>X.length<=nl f.Blocks/\∀y∈X,QH f y) ?_ ?_ (s:=[]) ⟨by simp,by simp⟩
 ·intro a i hi ⟨c,d⟩;have hb:f.Blocks[i]?=some f.Blocks[i]:=Ab hi;have hm:f.Blocks[i]∈f.Blocks:=AD _;have j:=Qe (λb:Block=>b.Leaves.length) f.Blocks i hi;have l:=Nk (λb:Block=>b.Leaves.length) f.Blocks (i+1);unfold nl at hn;have m:=hf.1;refine .inl ?_;simp only [EC,I8,AE,Ad hi,Ae,AC,hb,Aa];obtain⟨u,q1,q2,q3⟩:=QF (body:=λs:List As×Int=>Fd f (i:Int) s.1 s.2) (body':=λs:Int×List As=>Ke (i:Int) f.Blocks[i] s.1 s.2) (λs i=>(s,i)) (λs i=>(i,s)) f.Blocks[i].Leaves.length (λk u=>u.length<=a.length+k/\∀y∈u,QH f y) (λu=>u.length<=a.length+f.Blocks[i].Leaves.length/\∀y∈u,QH f y)
   (λu k hk hu=>by
    have hx:f.Blocks[i].Leaves[k]?=some f.Blocks[i].Leaves[k]:=Ab hk;have g:f.Blocks[i].Leaves[k]∈f.Blocks[i].Leaves:=AD _;have n:=hf.2 _ hm
    have h:∀y:As,ap 72 u [y]=some (u++ [y]):=λy=>C3 (by simp only [Aj];omega)
    refine .inl ?_;obtain⟨p,ok,r1,r2,r3,r4⟩:=Ih f.Blocks[i].Leaves[k].Text (by have:=hT _ hm _ g;omega);simp only [Fd,Ke,AE,Ad hk,Ae,AC,hb,hx,Aa,Ws f hf hb hx,r2,h];have o:=hu.1
    cases e:f.Blocks[i].Leaves[k].Is==1 with
    |false=>
     obtain⟨p',ok',t1,_⟩:=Ih (bs []) (by rw [DV];simp);simp only [Ac,Aa,t1];refine⟨u,by rw [ad1 (by omega)],by cases ok<;>(simp only [Ae,Ac,Aa];rw [ad1 (by omega)]),by omega,hu.2⟩
    |true=>
     simp only [Ae,Aa,r1]
     cases ok with
     |false=>exact⟨u,by simp only [Ac];rw [ad1 (by omega)],by simp only [Ac,Aa];rw [ad1 (by omega)],by omega,hu.2⟩
     |true=>
      refine⟨u++ [As.mk i k p],by simp only [Ae];rw [ad1 (by omega)],by simp only [Ae,Aa];rw [ad1 (by omega)],by simp only [Ag,Aj];omega,λy hy=>?_⟩
      rcases Ak.1 hy with hy|hy
      ·exact hu.2 y hy
      rw [Az]at hy;subst hy
      exact⟨_,_,by simp only [AC];exact hb,by simp only [AC];exact hx,e,r1⟩)
   (λu hu=>⟨u,by simp only [Fd,AC,hb,Aa,AE,Aq,Av,Ac],by simp only [Ke,AE,Aq,Av,Ac],hu⟩) (s:=a) ⟨by omega,d⟩
  rw [q1,q2];simp only [Aa];rw [ad1 (by omega)];exact⟨u,rfl,rfl,by omega,q3.2⟩
 intro a ⟨c,d⟩;refine⟨a,by simp only [EC,AE,Aq,Av,Ac],by simp only [I8,AE,Aq,Av,Ac],?_,d⟩;rw [AR]at c;exact c
theorem pP {l:List γ} {i j:Int} {x y:γ} (h:gi l j=some y):∃z,gi (si l i x) j=some z:=by
 obtain⟨h1,h2⟩:=C6 h;have:=(Ai.1 h2).1;unfold gi;rw [A3 h1];exact⟨_,Ab (by simp only [si,Gr];exact this)⟩
theorem yB (l:List As) (k:Int):JU l k=(Bq (Nc BO) 0 k l).map (Sum.map (λs=>(s.2,s.1)) id):=by
 unfold JU Bq gi2 yA
 cases hk:decide (k>0)with
 |false=>rfl
 |true=>
  simp only [Ae]
  cases h1:gi l (sb k 1)with
  |none=>cases h2:gi l k<;>simp
  |some x=>
   cases h2:gi l k with
   |none=>simp
   |some y=>
    simp only [Aa];have e:(decide (x.Page.Seq>y.Page.Seq))=Nc BO y x:=rfl;rw [e]
    cases Nc BO y x with
    |false=>rfl
    |true=>
     simp only [Ae,h1,h2,Aa];obtain⟨z,hz⟩:=pP (i:=k) (x:=x) h1;rw [hz];rfl
theorem AFf {l l':List γ} {i j:Int} (h:yA l i j=some l'):l'.length=l.length:=by
 unfold yA at h;obtain⟨x,_,h⟩:=Au.1 h;obtain⟨y,_,h⟩:=Au.1 h
 injection h with h
 subst h;simp [si]
theorem AFR {a j:Int} {l r:List As} (h:Aw (λs:Int×List As=>Bq (Nc BO) a s.1 s.2) (j,l)=some r):r.length=l.length:=by
 refine ACB (λs:Int×List As=>s.2.length=l.length) (λr=>r.length=l.length) ?_ ?_ (s:=(j,l)) rfl h
 ·rintro⟨j,m⟩ s' hm hb;simp only [Bq]at hb;obtain⟨c,_,hb⟩:=Au.1 hb
  cases c with
  |false=>cases hb
  |true=>
   simp only [Ae]at hb;obtain⟨m',h1,hb⟩:=Au.1 hb
   injection hb with hb
   injection hb with hb
   subst hb;exact(AFf h1).trans hm
 rintro⟨j,m⟩ b hm hb;simp only [Bq]at hb;obtain⟨c,_,hb⟩:=Au.1 hb
 cases c with
 |false=>
  simp only [Ac]at hb
  injection hb with hb
  injection hb with hb
  subst hb;exact hm
 |true=>
  simp only [Ae]at hb;obtain⟨m',h1,hb⟩:=Au.1 hb;cases hb
theorem aL (f:Flash) (hf:L0 f) (hT:∀b∈f.Blocks,∀x∈b.Leaves,(L x.Text).length<=1048576) (hn:nl f.Blocks<=1048576):
  ∃r,FZ f=some r/\H1 f=some r/\r.length<=nl f.Blocks/\(∀y∈r,QH f y)/\srt BO r:=by
 obtain⟨X,h1,h2,h3,h4⟩:=SL f hf hT hn;obtain⟨r,h5,h6,h7⟩:=fY BO X (by omega);obtain⟨r',h8,h9,h10⟩:=I4 BO [] X [] (by simp only [Bn];omega);have hr:r'=r:=O8 BO h9 h6 (λk=>by rw [h7 k,<-h10 k]);subst hr;refine⟨r',?_,?_,?_,?_,h6⟩
 ·unfold FZ;rw [h1,Aa];simp only [AA,A0,Bn,KM]at h8;unfold BT at h8;rw [show ad ((0:Nat):Int) 1=1 from rfl]at h8;have hc:Aw (λs:List As×Int=>JV s.1 s.2) (X,1)=Aw (λs:Int×List As=>Bv (Nc BO) ((0:Nat):Int) (X.length:Int) s.1 s.2) (1,X):=by
   refine uI (body:=λs:Int×List As=>Bv (Nc BO) ((0:Nat):Int) (X.length:Int) s.1 s.2) (body':=λs:List As×Int=>JV s.1 s.2) (λs=>(s.2,s.1)) (λs=>s.2.length=X.length) ?_ ?_ (1,X) rfl
   ·rintro⟨j,m⟩ hm;simp only at hm;simp only [JV,Bv,Cf,hm]
    cases decide (j<(X.length:Int))with
    |false=>rfl
    |true=>
     simp only [Ae];rw [AAm (body:=λs:Int×List As=>Bq (Nc BO) ((0:Nat):Int) s.1 s.2) (body':=λs:List As×Int=>JU s.1 s.2) (λs=>(s.2,s.1)) (λs=>yB s.2 s.1) (j,m)];cases Aw (λs:Int×List As=>Bq (Nc BO) ((0:Nat):Int) s.1 s.2) (j,m)<;>rfl
   rintro⟨j,m⟩ s' hm hb;simp only [Bv]at hb
   cases hc:decide (j<(X.length:Int))with
   |false=>rw [hc,Ac]at hb;cases hb
   |true=>
    rw [hc,Ae]at hb;obtain⟨m',h1,hb⟩:=Au.1 hb
    injection hb with hb
    injection hb with hb
    subst hb;exact(AFR h1).trans hm
  rw [hc];exact h8
 ·unfold H1;rw [h2,Aa,h5];rfl
 ·rw [<-h7.len];exact h3
 exact λy hy=>h4 y ((h7.mem).1 hy)
theorem TN {S:Type} {body:S->Option (S⊕List α)} (a:List α->Int->S) (g:Nat->α->α) (l0:List α) (h1:∀(i:Nat) (l:List α) x,l.length=l0.length->l[i]?=some x->l0[i]?=some x->body (a l (i:Nat))=some (.inl (a (l.set i (g i x)) ((i+1:Nat):Int)))) (h2:∀l:List α,l.length=l0.length->body (a l (l0.length:Nat))=some (.inr l)):Aw body (a l0 0)=some (l0.mapIdx g):=by
 obtain⟨b,h3,h4⟩:=Bk (body:=body) a l0.length (λi l=>l.length=l0.length/\∀j,l[j]?=if j<i then(l0[j]?).map (g j)else l0[j]?) (λb=>b=l0.mapIdx g)
  (λl i hi hs=>by
   obtain⟨hl,hs⟩:=hs;have c:l0[i]?=some l0[i]:=Ab hi;have hx:l[i]?=some l0[i]:=by rw [hs,A5 (Aq _),c]
   refine .inl ⟨_,h1 i l _ hl hx c,by rw [Gr,hl],λj=>?_⟩;rw [Cd];by_cases e:i=j
   ·subst e;rw [A3 rfl,A3 (by omega),A3 (by omega),c];rfl
   rw [A5 e,hs];by_cases h:j<i
   ·rw [A3 h,A3 (by omega)]
   rw [A5 h,A5 (by omega)])
  (λl hs=>⟨l,h2 l hs.1,by
   apply CE;intro j;rw [hs.2,Kn];by_cases h:j<l0.length
   ·rw [A3 h]
   rw [A5 h,CN (by omega)]
   rfl⟩) (s:=l0) ⟨rfl,λj=>by rw [A5 (by omega)]⟩
 rw [h3,h4]
abbrev Ks:=List Cc
def dk:Cc:=Cc.mk true []
def Ct (K:Ks) (i:Int):Cc:=(gi K i).getD dk
def MR (k:Cc) (j:Nat):Int:=(k.Kids[j]?).getD 0
def Ok (K:Ks) (i:Nat) (leaf:Bool) (n:Int):Bool:=bif leaf then decide (0<=n)else(n== -1||(decide (0<=n/\n<=(i:Int)-1)&&(Ct K n).Leaf))
def D9 (K:Ks):Bool:=K.zipIdx.all λz=>z.1.Kids.length==4&&z.1.Kids.all (Ok K z.2 z.1.Leaf)
def E4 (K:Ks) (r:Int):Bool:=r== -1||(decide (0<=r/\r<(K.length:Int))&&!(Ct K r).Leaf)
def QX (K:Ks) (root:Int) (s:Nat):Int:=if root<0 then 0 else if MR (Ct K root) (s/4)<0 then 0 else MR (Ct K (MR (Ct K root) (s/4))) (s %4)
def Fw (K:Ks) (root:Int):List Int:=(List.range 16).map (QX K root)
variable {K X:Ks}
theorem Oj (h:i<K.length):Ct K (i:Int)=K[i]:=by
 unfold Ct;rw [AC,Ab h];rfl
theorem N4 {i:Int} (h0:0<=i) (h:i<(K.length:Int)):gi K i=some (Ct K i):=by
 unfold Ct;rw [Kr h0 h];rfl
theorem E6 (x a b:Int):BY x a b=some (decide (a<=x/\x<=b)):=by
 rw [PG];congr 1;rw [DP];simp
theorem Hj:D9 K=true↔∀i:Nat,i<K.length->(Ct K (i:Int)).Kids.length=4/\∀n∈(Ct K (i:Int)).Kids,Ok K i (Ct K (i:Int)).Leaf n=true:=by
 unfold D9;rw [IC];constructor
 ·intro h i hi;have:=h (K[i],i) (by rw [List.mem_zipIdx_iff_getElem?];exact Ab hi);rw [An,IC]at this;rw [Oj hi];exact⟨by simpa using this.1,this.2⟩
 intro h z hz;rw [List.mem_zipIdx_iff_getElem?]at hz;obtain⟨a,hz⟩:=Ai.1 hz;have:=h z.2 a;rw [Oj a,hz]at this;rw [An,IC];exact⟨by simpa using this.1,this.2⟩
theorem LX (a:Arena) (ha:a.Knots.length<=1048576):GF a=some (D9 a.Knots):=by
 unfold GF;have h:=Zu (body:=λs:Int=>El a s) a.Knots (λi k=>k.Kids.length==4&&k.Kids.all (Ok a.Knots i k.Leaf)) (.inr false) (.inl ()) (by omega)
  (λi k hk=>by
   have hi:=(Ai.1 hk).1;simp only [El,AE,Ad hi,Ae,AC,hk,Aa];by_cases h4:k.Kids.length=4
   ·have e1:(ln k.Kids !=4)=false:=by simp [ln,h4]
    have e2:(k.Kids.length==4)=true:=by simp [h4]
    simp only [e1,Ac,e2,C4];have q:=Zu (body:=λs:Int=>Ek a (i:Int) k s) k.Kids (λ_ n=>Ok a.Knots i k.Leaf n) (.inr (.inr (.inr false))) (.inl ()) (by omega)
     (λj n hn=>by
      have hj:=(Ai.1 hn).1;simp only [Ek];rw [Ad (by omega:(j:Int)<4),Ae,AC,hn];simp only [Aa,Ok]
      cases hl:k.Leaf with
      |true=>
       simp only [Ae,Al,Ac];by_cases h0:n<0
       ·rw [Ad h0,Af (by omega:¬0<=n)];rfl
       rw [Af h0,Ad (by omega:0<=n)];simp only [Ac,Aa,Ae];rw [ad1 (by omega)]
      |false=>
       simp only [Ac,AJ,Ae];by_cases h1:n= -1
       ·subst h1;simp only [bne_self_eq_false,Ac,Aa,BEq.rfl,Bool.true_or,Ae];rw [ad1 (by omega)]
       have e3:(n != -1)=true:=by simp [h1]
       have e4:(n== -1)=false:=by simp [h1]
       rw [e3,e4];simp only [Ae,U8];rw [Cz (by omega) (by omega),E6];simp only [Aa];by_cases h2:0<=n/\n<=(i:Int)-1
       ·rw [Ad h2];simp only [Al,Ac];rw [N4 h2.1 (by omega)];simp only [Aa,C4]
        cases(Ct a.Knots n).Leaf with
        |true=>simp only [Al,Ac,Ae];rw [ad1 (by omega)]
        |false=>rfl
       rw [Af h2];rfl)
     (by simp only [Ek];rw [Af (by omega:¬((k.Kids.length:Nat):Int)<4),Ac])
    rw [q];have hz:(k.Kids.zipIdx.all λz=>Ok a.Knots i k.Leaf z.1)=k.Kids.all (Ok a.Knots i k.Leaf):=by
     rw [show(λz:Int×Nat=>Ok a.Knots i k.Leaf z.1)=(Ok a.Knots i k.Leaf)∘Prod.fst from rfl,<-List.all_map];congr 1;simp
    simp only [Aa];rw [hz]
    cases k.Kids.all (Ok a.Knots i k.Leaf)with
    |true=>simp only [Ae,BM];rw [ad1 (by omega)]
    |false=>rfl
   have e1:(ln k.Kids !=4)=true:=by simp [ln];omega
   have e2:(k.Kids.length==4)=false:=by simp [h4]
   simp only [e1,Ae,e2,Bool.false_and,Ac])
  (by simp only [El,AE,Aq,Av,Ac])
 rw [h];unfold D9;simp only [Aa];cases(a.Knots.zipIdx.all λz=>z.1.Kids.length==4&&z.1.Kids.all (Ok a.Knots z.2 z.1.Leaf))<;>rfl
theorem LR (a:Arena) (ha:a.Knots.length<=1048576) (r:Int):Hu a r=some (E4 a.Knots r):=by
 unfold Hu E4
 cases hr:(r== -1)with
 |true=>rfl
 |false=>
  simp only [Ac,U8];rw [Cf,Cz (by omega) (by omega),E6];simp only [Aa];by_cases h:0<=r/\r<(a.Knots.length:Int)
  ·rw [Ad h,Ad (by omega:0<=r/\r<=(a.Knots.length:Int)-1)];simp only [Ae,C4];rw [N4 h.1 h.2];rfl
  rw [Af h,Af (by omega:¬(0<=r/\r<=(a.Knots.length:Int)-1))];rfl
theorem CQ (h:E4 K r=true):r= -1\/(0<=r/\r<(K.length:Int)/\(Ct K r).Leaf=false):=by
 unfold E4 at h;simp only [CT,Cj,An,A9,CV]at h
 rcases h with h|h
 ·exact .inl h
 exact .inr ⟨h.1.1,h.1.2,h.2⟩
theorem IH (hK:D9 K=true) (h0:0<=r) (h1:r<(K.length:Int)):(Ct K r).Kids.length=4/\∀j,j<4->(Ct K r).Kids[j]?=some (MR (Ct K r) j)/\Ok K r.toNat (Ct K r).Leaf (MR (Ct K r) j)=true:=by
 have:=Hj.1 hK r.toNat (by omega);rw [show((r.toNat:Nat):Int)=r by omega]at this;refine⟨this.1,λj hj=>?_⟩;have a:j<(Ct K r).Kids.length:=by omega
 have e:(Ct K r).Kids[j]?=some (MR (Ct K r) j):=by unfold MR;rw [Ab a];rfl
 exact⟨e,this.2 _ (A6 e)⟩
theorem HF (hK:D9 K=true) (h0:0<=r) (h1:r<(K.length:Int)) (hl:(Ct K r).Leaf=false) (hj:j<4):MR (Ct K r) j= -1\/(0<=MR (Ct K r) j/\MR (Ct K r) j<r/\(Ct K (MR (Ct K r) j)).Leaf=true):=by
 have:=((IH hK h0 h1).2 j hj).2;rw [hl]at this;simp only [Ok,Ac,CT,Cj,An,A9]at this
 rcases this with h|⟨⟨h2,h3⟩,h4⟩
 ·exact .inl h
 exact .inr ⟨h2,by omega,h4⟩
theorem AEh (hK:D9 K=true) (h0:0<=r) (h1:r<(K.length:Int)) (hl:(Ct K r).Leaf=true) (hj:j<4):0<=MR (Ct K r) j:=by
 have:=((IH hK h0 h1).2 j hj).2;rw [hl]at this;simpa [Ok]using this
theorem qu4 (h:s<16):qu (s:Int) 4=((s/4:Nat):Int):=by
 unfold qu;rw [show Int.tdiv (s:Int) 4=((s/4:Nat):Int) by rw [Int.tdiv_eq_ediv_of_nonneg (by omega)];omega];exact ND (by omega) (by omega)
theorem AGo:Int.tmod (s:Int) 4=((s %4:Nat):Int):=by
 rw [GT (by omega)];omega
theorem VO (a:Arena) (hK:D9 a.Knots=true) (hr:E4 a.Knots r=true) (hs:s<16):MD a r (s:Int)=some (QX a.Knots r s):=by
 unfold MD QX
 rcases CQ hr with rfl|⟨h0,h1,hl⟩
 ·rfl
 rw [Af (by omega:¬r<0),A5 (by omega),Ac,N4 h0 h1];simp only [Aa];rw [qu4 hs,AC,((IH hK h0 h1).2 (s/4) (by omega)).1];simp only [Aa]
 rcases HF hK h0 h1 hl (show s/4<4 by omega)with e|⟨e1,e2,e3⟩
 ·rw [e];rfl
 rw [Af (by omega),A5 (by omega),Ac,N4 e1 (by omega)];simp only [Aa];rw [AGo,AC,((IH hK e1 (by omega)).2 (s %4) (by omega)).1];rfl
theorem YP (a:Arena) (ha:a.Knots.length<=1048576) (hK:D9 a.Knots=true) (hr:E4 a.Knots r=true) (hs:s<16):ON a r (s:Int)=some (QX a.Knots r s):=by
 unfold ON;rw [LX a ha,LR a ha,E6,hK,hr];simp only [Aa,Al,Ac];rw [Ad (by omega:0<=(s:Int)/\(s:Int)<=15)];simp only [Al,Ac];rw [VO a hK hr hs]
 try rfl
theorem OU (a:Arena) (ha:a.Knots.length<=1048576) (hK:D9 a.Knots=true) (hr:E4 a.Knots r=true):Jb a r=some (Fw a.Knots r):=by
 unfold Jb;obtain⟨b,h1,h2⟩:=Bk (body:=λs:List Int×Int=>Hf a r s.1 s.2) (λ(o:List Int) i=>(o,i)) 16 (λi o=>o=(List.range i).map (QX a.Knots r)) (λb=>b=Fw a.Knots r)
  (λo i hi ho=>by
   refine .inl ⟨_,?_,rfl⟩;simp only [Hf];rw [Ad (by omega:(i:Int)<16),Ae,YP a ha hK hr hi];simp only [Aa];rw [C3 (by rw [ho];simp;omega)];simp only [Aa]
   rw [ad1 (by omega),ho,Gq,CD,List.map_singleton])
  (λo ho=>⟨_,by simp only [Hf];rw [Af (by omega:¬((16:Nat):Int)<16),Ac],ho⟩) (s:=[]) rfl
 have h1':Aw (λs:List Int×Int=>Hf a r s.1 s.2) ([],0)=some b:=h1;rw [h1',h2];rfl
theorem P6 {by_:Nat} (h:l.length*by_<=140737488355328):ap by_ [] l=some l:=by
 rw [C3 (by simpa using h),AA]
def AHi (K:Ks):Prop:=K.length<=1048576/\∀k∈K,k.Kids.length<=1048576
theorem Uq (hK:D9 K=true) (h:K.length<=1048576):AHi K:=by
 refine⟨h,λk hk=>?_⟩;obtain⟨i,hi,rfl⟩:=AI hk;have:=(Hj.1 hK i hi).1;rw [Oj hi]at this;omega
theorem Tw (a:Arena) (h:AHi a.Knots):Ml a=some a:=by
 unfold Ml;have h1:=Zt (body:=λs:Int×List Cc=>JP a s.1 s.2) a.Knots (λk=>k)
  (λi k b hk ho=>by
   have hi:=(Ai.1 hk).1;have hm:=h.2 k (A6 hk);have:=h.1;simp only [JP,AE,Ad hi,Ae,AC,hk,Aa];rw [P6 (by omega)];simp only [Aa];rw [C3 (by simp;omega)];simp only [Aa]
   rw [ad1 (by omega)])
  (λb=>by simp only [JP,AE,Aq,Av,Ac])
 rw [h1];simp only [Aa,List.map_id']
theorem LQ (s:Store) (h:AHi s.Arena.Knots) (hv:s.Vols.length<=1048576):EO s=some s:=by
 unfold EO;rw [P6 (by omega),Tw _ h];rfl
def PD (K:Ks) (r:Int) (s:Nat) (n:Int):List Int:=(if r<0 then [0,0,0,0]else if MR (Ct K r) (s/4)<0 then [0,0,0,0]else(Ct K (MR (Ct K r) (s/4))).Kids).set (s %4) n
def Th (K:Ks) (r:Int) (s:Nat):List Int:=(if r<0 then [-1,-1,-1,-1]else(Ct K r).Kids).set (s/4) (K.length:Int)
def KA (K:Ks) (r:Int) (s:Nat) (n:Int):Ks:=K++ [Cc.mk true (PD K r s n),Cc.mk false (Th K r s)]
theorem mk4:mk 8 (0:Int) 4=some [0,0,0,0]:=by rw [show(4:Int)=((4:Nat):Int)from rfl,Zp (by omega) (by omega)];rfl
theorem AEq {k:Cc} (h:j<k.Kids.length):gi k.Kids (j:Int)=some (MR k j):=by
 unfold MR;rw [AC,Ab h];rfl
theorem zG (a:Arena) (ha:a.Knots.length<=1048000) (hK:D9 a.Knots=true) (hr:E4 a.Knots r=true) (hs:s<16) (hn:0<=n):
  Xv a r (s:Int) n=some (Arena.mk (KA a.Knots r s n),(a.Knots.length:Int)+1):=by
 unfold Xv;rw [Tw _ (Uq hK (by omega)),LX a (by omega),LR a (by omega),E6,hK,hr];simp only [Aa,Al,Ac];rw [Ad (by omega:0<=(s:Int)/\(s:Int)<=15),Af (by omega:¬n<0)];simp only [Al,Ac,Aa];rw [mk4];simp only [Aa];have fin:∀(lf tp:List Int),lf.length=4->tp.length=4->KA a.Knots r s n=a.Knots++ [Cc.mk true (lf.set (s %4) n),Cc.mk false (tp.set (s/4) (a.Knots.length:Int))]->
   ((gi lf (Int.tmod (s:Int) 4)).bind λx4=>(gi tp (qu (s:Int) 4)).bind λx5=>(ap 32 a.Knots [(Cc.mk true (si lf (Int.tmod (s:Int) 4) n)),(Cc.mk false (si tp (qu (s:Int) 4) (ln a.Knots)))]).bind λq4=>some ((Arena.mk q4),(sb (ln q4) 1)))=some (Arena.mk (KA a.Knots r s n),(a.Knots.length:Int)+1):=by
  intro lf tp h1 h2 h3;rw [qu4 hs,AGo,AC,AC,Ab (by omega),Ab (by omega)];simp only [Aa];rw [C3 (by simp;omega),Gs,Gs,Cf,<-h3];simp only [Aa];rw [Cf,h3,Ag,Cz (by simp;omega) (by simp;omega)];simp only [Ay,Bn];congr 2;omega
 rcases CQ hr with rfl|⟨h0,h1,hl⟩
 ·rw [Af (by omega:¬(-1:Int)>=0)];simp only [Ac,Aa];exact fin _ _ rfl rfl rfl
 rw [Ad (by omega:r>=0),Ae,N4 h0 h1];have h4:=(IH hK h0 h1).1;simp only [Aa];rw [P6 (by omega)];simp only [Aa];rw [qu4 hs,AEq (by omega:s/4<(Ct a.Knots r).Kids.length)];simp only [Aa];rw [<-qu4 hs]
 rcases HF hK h0 h1 hl (show s/4<4 by omega)with e|⟨e1,e2,e3⟩
 ·rw [Af (by omega:¬MR (Ct a.Knots r) (s/4)>=0)];simp only [Ac,Aa];exact fin _ _ rfl h4 (by unfold KA PD Th;simp only [A5 (show¬r<0 by omega),A3 (show MR (Ct a.Knots r) (s/4)<0 by omega)])
 rw [Ad (by omega:MR (Ct a.Knots r) (s/4)>=0),Ae,N4 e1 (by omega)];have h5:=(IH hK e1 (by omega)).1;simp only [Aa];rw [P6 (by omega)];simp only [Aa];exact fin _ _ h5 h4 (by unfold KA PD Th;simp only [A5 (show¬r<0 by omega),A5 (show¬MR (Ct a.Knots r) (s/4)<0 by omega)])
def Pu (K:Ks) (r:Int) (i:Nat):Bool:=decide (0<=r)&&(decide (r=(i:Int))||(Ct K r).Kids.any λn=>decide (n=(i:Int)))
theorem nU (n:Nat) (f:Nat->α) (g:Nat->α->α):((List.range n).map f).mapIdx g=(List.range n).map λi=>g i (f i):=by
 apply CE;intro j;rw [Kn,Bi,Bi];by_cases h:j<n
 ·rw [PZ h];rfl
 rw [CN (by simpa using h)];rfl
theorem Ru (n:Nat) (f:Nat->α) (i:Nat) (x:α) (g:Nat->α) (h:∀j,j<n->g j=if j=i then x else f j):((List.range n).map f).set i x=(List.range n).map g:=by
 apply CE;intro j;rw [Cd,Bi,Bi];by_cases hj:j<n
 ·rw [PZ hj];simp only [B3,h j hj,Bo,Ck];by_cases e:i=j
  ·rw [A3 e,A3 (by omega),A3 e.symm]
  rw [A5 e,A5 (EW e)]
 rw [CN (by simpa using hj)];simp only [Option.map_none,Bo,Ck];split
 ·rw [A5 (by omega)]
 rfl
theorem K9 {n:Nat} {f:Nat->α} (h:i<n):((List.range n).map f)[i]?=some (f i):=by
 rw [Bi,PZ h];rfl
theorem rB {l:List Int} {m:Nat} (h:l[m]?=some x) (p:Int->Bool):(l.take (m+1)).any p=((l.take m).any p||p x):=by
 rw [EL,h,List.any_append];simp
theorem rZ (a:Arena) (ha:a.Knots.length<=1048576) (hK:D9 a.Knots=true) (hr:E4 a.Knots r=true):Tv a r=some ((List.range a.Knots.length).map (Pu a.Knots r)):=by
 unfold Tv;rw [Cf,Zp (by omega) (by omega)];simp only [Aa]
 rcases CQ hr with rfl|⟨h0,h1,hl⟩
 ·simp only [show decide ((-1:Int)<0)=true from rfl,Ae];congr 1;rw [show(Pu a.Knots (-1))=λ_=>false from rfl,LI,Ck]
 rw [Af (by omega:¬r<0),Ac];obtain⟨m,rfl⟩:∃m:Nat,r=(m:Int):=⟨r.toNat,by omega⟩;rw [AC,List.getElem?_replicate,A3 (by omega)];simp only [Aa];rw [Gs];obtain⟨h4,hk⟩:=IH hK h0 h1;obtain⟨b,q1,q2⟩:=Bk (body:=λs:List Bool×Int=>Jr a (m:Int) s.1 s.2) (λ(o:List Bool) i=>(o,i)) 4
  (λi o=>o=(List.range a.Knots.length).map λ(j:Nat)=>decide ((m:Int)=(j:Int))||((Ct a.Knots (m:Int)).Kids.take i).any λn=>decide (n=(j:Int)))
  (λb=>b=(List.range a.Knots.length).map (Pu a.Knots (m:Int)))
  (λo i hi ho=>by
   obtain⟨e,_⟩:=hk i hi;simp only [Jr];rw [Ad (by omega:(i:Int)<4),Ae,N4 h0 h1];simp only [Aa];rw [AC,e];simp only [Aa]
   rcases HF hK h0 h1 hl hi with e1|⟨e1,e2,e3⟩
   ·rw [e1,Af (by omega:¬(-1:Int)>=0),Ac,ad1 (by omega)];refine .inl ⟨o,rfl,?_⟩;rw [ho];apply Dd;intro j hj;rw [rB e,e1,Af (by omega:¬(-1:Int)=(j:Int)),O1]
   obtain⟨c,hc⟩:∃c:Nat,MR (Ct a.Knots (m:Int)) i=(c:Int):=⟨(MR (Ct a.Knots (m:Int)) i).toNat,by omega⟩;rw [hc,Ad (by omega:(c:Int)>=0),Ae]
   try simp only [Aa]
   rw [ho,AC,K9 (by omega)];simp only [Aa];rw [Gs,ad1 (by omega)];refine .inl ⟨_,rfl,?_⟩;apply Ru;intro j hj;rw [rB e,hc];by_cases d:j=c
   ·subst d;simp
   rw [A5 d,Af (by omega:¬(c:Int)=(j:Int)),O1])
  (λo ho=>⟨_,by simp only [Jr];rw [Af (by omega:¬((4:Nat):Int)<4),Ac],by
   rw [ho];apply Dd;intro j hj;rw [Ba (by omega)];unfold Pu
   rw [Ad h0,C4]⟩) (s:=(List.replicate a.Knots.length false).set m true) (by
   rw [<-Ck (n:=a.Knots.length),<-LI,Ck];apply Ru;intro j hj;simp only [IA,List.any_nil,O1];by_cases e:j=m
   ·subst e;simp
   rw [A5 e,Af (by omega)])
 have q1':Aw (λs:List Bool×Int=>Jr a (m:Int) s.1 s.2) ((List.replicate a.Knots.length false).set m true,0)=some b:=q1;rw [q1',q2];rfl
def DX (K:Ks) (R:List Int) (i:Nat):Bool:=R.any λr=>Pu K r i
def gR (K:Ks) (R:List Int) (i:Nat):Nat:=((List.range i).filter (DX K R)).length
def Rt (K:Ks) (R:List Int) (n:Int):Int:=if 0<=n then(gR K R n.toNat:Int)else n
def xJ (K:Ks) (R:List Int) (i:Nat):Cc:=Cc.mk (Ct K (i:Int)).Leaf (bif(Ct K (i:Int)).Leaf then(Ct K (i:Int)).Kids else(Ct K (i:Int)).Kids.map (Rt K R))
def W0 (K:Ks) (R:List Int):Ks:=((List.range K.length).filter (DX K R)).map (xJ K R)
theorem Pf (l:List α) (f:α->α):l.mapIdx (λ_ x=>f x)=l.map f:=by
 apply CE;intro j;rw [Kn,Bi]
theorem Rf (hr:r∈R) (h0:0<=r):DX K R r.toNat=true:=by
 unfold DX;rw [Df];exact⟨r,hr,by unfold Pu;rw [Ad h0,Ad (by omega:r=(r.toNat:Int))];rfl⟩
theorem qX (hK:D9 K=true) (hR:∀r∈R,E4 K r=true) (hu:DX K R i=true) (hl:(Ct K (i:Int)).Leaf=false):(i:Int)∈R:=by
 unfold DX at hu;rw [Df]at hu;obtain⟨r,hr,h⟩:=hu;unfold Pu at h;simp only [An,CT,A9,Df]at h;obtain⟨h0,h⟩:=h
 rcases h with h|⟨n,hn,h⟩
 ·rw [<-h];exact hr
 rcases CQ (hR r hr)with e|⟨_,h1,a⟩
 ·omega
 obtain⟨h4,hk⟩:=IH hK h0 h1;obtain⟨j,hj,b⟩:=AI hn;have e:=(hk j (by omega)).1;rw [Ab hj,b]at e
 injection e with e
 rcases HF hK h0 h1 a (show j<4 by omega)with k1|⟨_,_,k3⟩
 ·omega
 rw [<-e,h,hl]at k3;cases k3
theorem XK (hr:r∈R) (h0:0<=r) (hn:n∈(Ct K r).Kids) (h1:0<=n):DX K R n.toNat=true:=by
 unfold DX;rw [Df];refine⟨r,hr,?_⟩;unfold Pu;rw [Ad h0,C4,CT,Df];exact .inr ⟨n,hn,by rw [A9];omega⟩
theorem AHS (i:Nat):gR K R i<=i:=by
 have:=BN (DX K R) (List.range i);rw [Ck]at this;exact this
theorem cB (a:Arena) (ha:a.Knots.length<=1048576) (R:List Int) (hc:R.length<=1048576) (hR:∀r∈R,E4 a.Knots r=true):Aw (λs:Bool×Int=>FY a R s.1 s.2) (true,0)=some true:=by
 obtain⟨b,h1,h2⟩:=Bk (body:=λs:Bool×Int=>FY a R s.1 s.2) (λ(o:Bool) i=>(o,i)) R.length (λ_ o=>o=true) (λb=>b=true)
  (λo i hi ho=>by
   have hx:=Ab hi;simp only [FY,AE,Ad hi,Ae,Aa,ho,AC,hx];rw [LR a ha,hR _ (AD hi)];simp only [Aa];rw [ad1 (by omega)]
   exact .inl ⟨true,rfl,rfl⟩)
  (λo ho=>⟨o,by simp only [FY,AE,Aq,Av,Ac,Aa],ho⟩) (s:=true) rfl
 rw [h2]at h1;exact h1
theorem kR (a:Arena) (ha:a.Knots.length<=1048576) (hK:D9 a.Knots=true) (R:List Int) (hc:R.length<=1048576) (hR:∀r∈R,E4 a.Knots r=true):
  Aw (λs:List Bool×Int=>FX a R s.1 s.2) (List.replicate a.Knots.length false,0)=some ((List.range a.Knots.length).map (DX a.Knots R)):=by
 obtain⟨b,h1,h2⟩:=Bk (body:=λs:List Bool×Int=>FX a R s.1 s.2) (λ(o:List Bool) i=>(o,i)) R.length (λi o=>o=(List.range a.Knots.length).map λ(j:Nat)=>(R.take i).any λr=>Pu a.Knots r j) (λb=>b=(List.range a.Knots.length).map (DX a.Knots R))
  (λo i hi ho=>by
   have hx:=Ab hi;simp only [FX,AE,Ad hi,Ae,Aa,AC,hx];rw [rZ a ha hK (hR _ (AD hi))];simp only [Aa];have d:o.length=a.Knots.length:=by rw [ho];simp
   have q:=TN (body:=λs:List Bool×Int=>Hl ((List.range a.Knots.length).map (Pu a.Knots R[i])) s.1 s.2) (λl i=>(l,i)) (λk x=>x||Pu a.Knots R[i] k) o
    (λk l x hl c e=>by
     have hk:k<a.Knots.length:=by have:=(Ai.1 c).1;omega
     simp only [Hl,AE];rw [Ad (by simpa using hk),Ae,AC,c];simp only [Aa]
     cases x with
     |true=>simp only [Ae,Bool.true_or];rw [Gs,ad1 (by omega)]
     |false=>
      simp only [Ac,U8];rw [AC,K9 hk];simp only [Aa]
      rw [Gs,ad1 (by omega)])
    (λl hl=>by simp only [Hl,AE];rw [d,Af (by simp),Ac])
   rw [q];simp only [Aa];rw [ad1 (by omega),ho,nU];refine .inl ⟨_,rfl,?_⟩;apply Dd;intro j hj;rw [EL,hx,List.any_append]
   simp)
  (λo ho=>⟨o,by simp only [FX,AE,Aq,Av,Ac],by rw [ho,Ba (by omega)];rfl⟩) (s:=List.replicate a.Knots.length false) (by
   simp only [IA,List.any_nil]
   rw [LI,Ck])
 rw [<-h2];exact h1
def plL (K:Ks) (R:List Int) (i:Nat):List Int:=(List.range K.length).map λ(j:Nat)=>if j<i/\DX K R j=true then(gR K R j:Int)else 0
theorem cC (a:Arena) (ha:a.Knots.length<=1048576) (hK:D9 a.Knots=true) (R:List Int) (hR:∀r∈R,E4 a.Knots r=true):
  Aw (λs:List Int×Int×List Cc=>FW a ((List.range a.Knots.length).map (DX a.Knots R)) s.1 s.2.1 s.2.2) (List.replicate a.Knots.length 0,0,[])=some (plL a.Knots R a.Knots.length,W0 a.Knots R):=by
 obtain⟨b,h1,h2⟩:=Bk (body:=λs:List Int×Int×List Cc=>FW a ((List.range a.Knots.length).map (DX a.Knots R)) s.1 s.2.1 s.2.2) (λ(o:List Int×List Cc) i=>(o.1,i,o.2)) a.Knots.length
  (λi o=>o=(plL a.Knots R i,((List.range i).filter (DX a.Knots R)).map (xJ a.Knots R))) (λb=>b=(plL a.Knots R a.Knots.length,W0 a.Knots R))
  (λo i hi ho=>by
   subst ho;simp only [FW,AE,Ad hi,Ae];rw [AC,K9 hi];simp only [Aa]
   cases hu:DX a.Knots R i with
   |false=>
    simp only [AJ,Ae];rw [ad1 (by omega)];refine .inl ⟨(plL a.Knots R i,((List.range i).filter (DX a.Knots R)).map (xJ a.Knots R)),rfl,?_⟩;congr 1
    ·unfold plL;apply Dd;intro j hj;by_cases e:j=i
     ·subst e;rw [A5 (by omega),A5 (by rw [hu];simp)]
     by_cases h:j<i/\DX a.Knots R j=true
     ·rw [A3 h,A3 ⟨by omega,h.2⟩]
     rw [A5 h,A5 (λh3=>h ⟨by omega,h3.2⟩)]
    rw [Gq,AT,B9 (by rw [hu];simp)];simp
   |true=>
    simp only [Al,Ac];have h0:(0:Int)<=(i:Int):=by omega
    have d:(i:Int)<(a.Knots.length:Int):=by omega
    rw [N4 h0 d];obtain⟨h4,hk⟩:=IH hK h0 d;simp only [Aa];rw [P6 (by omega)];simp only [Aa];have inner:Aw (λs:Int×List Int=>FV (plL a.Knots R i) ((Ct a.Knots (i:Int)).Leaf,(Ct a.Knots (i:Int)).Kids) s.1 s.2) (0,(Ct a.Knots (i:Int)).Kids)=some (xJ a.Knots R i).Kids:=by
     unfold xJ
     cases hl:(Ct a.Knots (i:Int)).Leaf with
     |true=>rw [A8];rfl
     |false=>
      have q:=TN (body:=λs:Int×List Int=>FV (plL a.Knots R i) (false,(Ct a.Knots (i:Int)).Kids) s.1 s.2) (λl k=>(k,l)) (λ_ x=>Rt a.Knots R x) (Ct a.Knots (i:Int)).Kids
       (λk l x t f g=>by
        have m:k<4:=by have:=(Ai.1 g).1;omega
        have ex:x=MR (Ct a.Knots (i:Int)) k:=by have:=(hk k m).1;rw [g]at this;injection this
        simp only [FV];rw [Ad (by omega:(k:Int)<4)];simp only [Ae,Aa,AJ];rw [AC,f];simp only [Aa]
        rcases HF hK h0 d hl m with e|⟨e1,e2,e3⟩
        ·rw [Af (by omega:¬x>=0),Ac,ad1 (by omega)];have:Rt a.Knots R x=x:=by unfold Rt;rw [A5 (by omega)]
         rw [this,show l.set k x=l from by
          apply CE;intro j;rw [Cd];split
          ·rename_i e5;subst e5;rw [A3 (Ai.1 f).1,f]
          rfl]
        rw [Ad (by omega:x>=0),Ae];obtain⟨c,hc⟩:∃c:Nat,x=(c:Int):=⟨x.toNat,by omega⟩;have u:x∈(Ct a.Knots (i:Int)).Kids:=A6 g;have n:=XK (qX hK hR hu hl) h0 u (by omega);rw [hc]at n;rw [hc,AC];unfold plL;rw [K9 (by omega)];simp only [Aa];rw [A3 ⟨by omega,n⟩,Gs,ad1 (by omega)];unfold Rt;rw [A3 (by omega)]
        rfl)
       (λl t=>by
        simp only [FV];rw [h4,Af (by omega:¬((4:Nat):Int)<4)]
        rfl)
      rw [Pf]at q;exact q
    rw [inner];simp only [Aa];have v:gi (plL a.Knots R i) (i:Int)=some 0:=by
     unfold plL;rw [AC,K9 hi,A5 (by omega)]
    rw [v];simp only [Aa];have w:=AHS (K:=a.Knots) (R:=R) i;have p:(((List.range i).filter (DX a.Knots R)).map (xJ a.Knots R)).length=gR a.Knots R i:=by rw [Bo];rfl
    rw [C3 (by rw [p];simp;omega)];simp only [Aa];rw [ad1 (by omega),Cf,p,Gs];refine .inl ⟨(_,_),rfl,?_⟩;congr 1
    ·unfold plL;apply Ru;intro j hj;by_cases e:j=i
     ·subst e;rw [A3 ⟨by omega,hu⟩,A3 rfl]
     rw [A5 e];by_cases h:j<i/\DX a.Knots R j=true
     ·rw [A3 h,A3 ⟨by omega,h.2⟩]
     rw [A5 h,A5 (λh3=>h ⟨by omega,h3.2⟩)]
    rw [Gq,AT,BK hu,Ex,CD]
    rfl)
  (λo ho=>⟨o,by simp only [FW,AE,Aq,Av,Ac],ho⟩) (s:=(List.replicate a.Knots.length 0,[])) (by
   unfold plL;simp only [Nat.not_lt_zero,false_and,FM];rw [LI,Ck]
   rfl)
 rw [<-h2];exact h1
theorem zA (a:Arena) (ha:a.Knots.length<=1048576) (R:List Int) (hc:R.length<=1048576) (hR:∀r∈R,E4 a.Knots r=true):
  Aw (λs:List Int×Int=>FU (plL a.Knots R a.Knots.length,W0 a.Knots R) s.1 s.2) (R,0)=some (R.map (Rt a.Knots R)):=by
 have q:=TN (body:=λs:List Int×Int=>FU (plL a.Knots R a.Knots.length,W0 a.Knots R) s.1 s.2) (λl k=>(l,k)) (λ_ x=>Rt a.Knots R x) R
  (λk l x f b d=>by
   have hk:=(Ai.1 d).1;have g:=(Ai.1 b).1;simp only [FU,AE,Ad g,Ae,AC,b,Aa]
   rcases CQ (hR x (A6 d))with e|⟨e1,e2,e3⟩
   ·rw [Af (by omega:¬x>=0),Ac,ad1 (by omega)];have:Rt a.Knots R x=x:=by unfold Rt;rw [A5 (by omega)]
    rw [this,show l.set k x=l from by
     apply CE;intro j;rw [Cd];split
     ·rename_i e5;subst e5
      first
       |rw [A3 g,b]
       |exact b.symm
     rfl]
   rw [Ad (by omega:x>=0),Ae];obtain⟨c,h⟩:∃c:Nat,x=(c:Int):=⟨x.toNat,by omega⟩;have i:=Rf (K:=a.Knots) (A6 d) e1;rw [h]at i;rw [h,AC];unfold plL;rw [K9 (by omega)];simp only [Aa];rw [A3 ⟨by omega,i⟩,Gs,ad1 (by omega)];unfold Rt;rw [A3 (by omega)]
   rfl)
  (λl f=>by simp only [FU,Cf,f];rw [Af (by omega),Ac])
 rw [Pf]at q;exact q
theorem Yz (a:Arena) (ha:a.Knots.length<=1048576) (hK:D9 a.Knots=true) (R:List Int) (hc:R.length<=1048576) (hR:∀r∈R,E4 a.Knots r=true):
  JR a R=some (Arena.mk (W0 a.Knots R),R.map (Rt a.Knots R)):=by
 unfold JR;rw [P6 (by omega),LX a ha,hK];simp only [Aa];rw [cB a ha R hc hR];simp only [Aa,Al,Ac];rw [Cf,Zp (by omega) (by omega)];simp only [Aa];rw [kR a ha hK R hc hR];simp only [Aa];rw [Zp (by omega) (by omega)];simp only [Aa];rw [cC a ha hK R hR];simp only [Aa];rw [zA a ha R hc hR];rfl
theorem ZP (p:Nat->Bool) (hp:p i=true):∀{n:Nat},i<n->((List.range n).filter p)[((List.range i).filter p).length]?=some i
 |0,h=>by omega
 |n+1,h=>by
  rw [Gq,AT];by_cases e:i=n
  ·subst e;rw [AS (A4 _),Re,BK hp];rfl
  have h2:=ZP p hp (show i<n by omega);have h3:=(Ai.1 h2).1;rw [AQ h3,h2]
theorem vV {n:Nat} (p:Nat->Bool) (hp:p i=true) (h:i<n):((List.range i).filter p).length<((List.range n).filter p).length:=(Ai.1 (ZP p hp h)).1
theorem vU (p:Nat->Bool):∀{n j:Nat},j<((List.range n).filter p).length->∃i,i<n/\p i=true/\((List.range i).filter p).length=j
 |0,j,h=>by simp at h
 |n+1,j,h=>by
  rw [Gq,AT,Ag]at h;by_cases e:j<((List.range n).filter p).length
  ·obtain⟨i,h1,h2,h3⟩:=vU p e;exact⟨i,by omega,h2,h3⟩
  by_cases hp:p n=true
  ·rw [BK hp]at h;simp at h;exact⟨n,by omega,hp,by omega⟩
  rw [B9 hp]at h;simp at h;omega
theorem jK:(W0 K R).length=gR K R K.length:=by unfold W0 gR;rw [Bo]
theorem Rh (hu:DX K R i=true) (hi:i<K.length):Ct (W0 K R) (gR K R i:Nat)=xJ K R i/\gR K R i<(W0 K R).length:=by
 have h:=vV (DX K R) hu hi;have h2:gR K R i<(W0 K R).length:=by rw [jK];exact h
 refine⟨?_,h2⟩;unfold Ct;rw [AC];unfold W0;rw [Bi];have:=ZP (DX K R) hu hi;rw [show gR K R i=((List.range i).filter (DX K R)).length from rfl,this];rfl
theorem ADm (hj:j<(W0 K R).length):∃i,i<K.length/\DX K R i=true/\gR K R i=j:=by
 rw [jK]at hj;exact vU (DX K R) hj
theorem AHR (hu:DX K R i=true) (h:i<j):gR K R i<gR K R j:=vV _ hu h
theorem XS (i:Nat):(xJ K R i).Leaf=(Ct K (i:Int)).Leaf:=rfl
theorem ABk (hK:D9 K=true) (hi:i<K.length):(xJ K R i).Kids.length=4:=by
 have:=(Hj.1 hK i hi).1;unfold xJ
 cases(Ct K (i:Int)).Leaf with
 |true=>exact this
 |false=>simp only [Ac,Bo];exact this
theorem ABl (hl:(Ct K (i:Int)).Leaf=false) (hj:j<(Ct K (i:Int)).Kids.length):MR (xJ K R i) j=Rt K R (MR (Ct K (i:Int)) j):=by
 unfold MR xJ;rw [hl];simp only [Ac];rw [Bi,Ab hj];rfl
theorem RV (hl:(Ct K (i:Int)).Leaf=true):(xJ K R i).Kids=(Ct K (i:Int)).Kids:=by
 unfold xJ;rw [hl];rfl
theorem Rr (h:n<0):Rt K R n=n:=by unfold Rt;rw [A5 (by omega)]
theorem Rs (n:Nat):Rt K R (n:Int)=(gR K R n:Int):=by unfold Rt;rw [A3 (by omega)];rfl
theorem AGS (hK:D9 K=true) (hR:∀r∈R,E4 K r=true):D9 (W0 K R)=true:=by
 rw [Hj];intro j hj;obtain⟨i,hi,hu,rfl⟩:=ADm hj;rw [(Rh hu hi).1];refine⟨ABk hK hi,λn hn=>?_⟩;have h0:(0:Int)<=(i:Int):=by omega
 have h1:(i:Int)<(K.length:Int):=by omega
 obtain⟨h4,hk⟩:=IH hK h0 h1;rw [XS]
 cases hl:(Ct K (i:Int)).Leaf with
 |true=>
  rw [RV hl]at hn;have:=(Hj.1 hK i hi).2 n hn;rw [hl]at this;simpa [Ok]using this
 |false=>
  obtain⟨m,hm,b⟩:=AI hn;rw [ABk hK hi]at hm;have e:n=Rt K R (MR (Ct K (i:Int)) m):=by
   rw [<-ABl hl (by omega),<-b];unfold MR;rw [Ab];rfl
  rcases HF hK h0 h1 hl hm with k1|⟨k1,k2,k3⟩
  ·rw [k1,Rr (by omega)]at e;subst e;rfl
  obtain⟨c,hc⟩:∃c:Nat,MR (Ct K (i:Int)) m=(c:Int):=⟨_,(Bl k1).symm⟩;rw [hc]at e k2 k3;rw [Rs]at e;have a:=XK (qX hK hR hu hl) h0 (A6 (hk m hm).1) (by omega);rw [hc]at a;have d:c<K.length:=by omega
  have f:gR K R c<gR K R i:=AHR (by simpa using a) (by omega);subst e;simp only [Ok,Ac,CT,Cj,An,A9];refine .inr ⟨by omega,?_⟩;rw [(Rh (by simpa using a) d).1,XS];exact k3
theorem ADJ (hR:∀r∈R,E4 K r=true) (hr:r∈R):E4 (W0 K R) (Rt K R r)=true:=by
 rcases CQ (hR r hr)with e|⟨h0,h1,hl⟩
 ·rw [e,Rr (by omega)];rfl
 obtain⟨c,rfl⟩:∃c:Nat,r=(c:Int):=⟨_,(Bl h0).symm⟩;have a:=Rf (K:=K) hr h0;rw [B6]at a;obtain⟨g1,g2⟩:=Rh a (by omega);rw [Rs];unfold E4;rw [Ad (by omega),g1,XS,hl];simp
theorem ABv (hK:D9 K=true) (hR:∀r∈R,E4 K r=true) (hr:r∈R):Fw (W0 K R) (Rt K R r)=Fw K r:=by
 unfold Fw;apply Dd;intro s hs;rw [GR]at hs;unfold QX
 rcases CQ (hR r hr)with e|⟨h0,h1,hl⟩
 ·rw [e,Rr (by omega),A3 (by omega),A3 (by omega)]
 obtain⟨c,rfl⟩:∃c:Nat,r=(c:Int):=⟨_,(Bl h0).symm⟩;have a:=Rf (K:=K) hr h0;rw [B6]at a;obtain⟨g1,g2⟩:=Rh a (by omega);obtain⟨h4,hk⟩:=IH hK h0 h1;rw [Rs,g1,ABl hl (by omega)];simp only [A5 (show¬((gR K R c:Nat):Int)<0 by omega),A5 (show¬((c:Nat):Int)<0 by omega)]
 rcases HF hK h0 h1 hl (show s/4<4 by omega)with k1|⟨k1,k2,k3⟩
 ·rw [k1,Rr (by omega)];rfl
 obtain⟨d,hd⟩:∃d:Nat,MR (Ct K (c:Int)) (s/4)=(d:Int):=⟨_,(Bl k1).symm⟩;have b:=XK hr h0 (A6 (hk (s/4) (by omega)).1) k1;rw [hd]at b k2 k3;rw [hd,Rs];simp only [A5 (show¬((gR K R d:Nat):Int)<0 by omega),A5 (show¬((d:Nat):Int)<0 by omega)];rw [(Rh (by simpa using b) (by omega)).1];unfold MR;rw [RV k3]
theorem AFg (hK:D9 K=true) (hR:∀r∈R,E4 K r=true) (hj:j<(W0 K R).length):DX (W0 K R) (R.map (Rt K R)) j=true:=by
 obtain⟨i,hi,hu,rfl⟩:=ADm hj;have hu':=hu;unfold DX at hu';rw [Df]at hu';obtain⟨r,hr,h⟩:=hu';unfold Pu at h;simp only [An,CT,A9,Df]at h;obtain⟨h0,h⟩:=h;unfold DX;rw [Df];refine⟨Rt K R r,AP.2 ⟨r,hr,rfl⟩,?_⟩;obtain⟨c,rfl⟩:∃c:Nat,r=(c:Int):=⟨_,(Bl h0).symm⟩;rw [Rs];unfold Pu;simp only [An,CT,A9,Df];refine⟨by omega,?_⟩
 rcases h with h|⟨n,hn,h⟩
 ·have:c=i:=by omega
  subst this;exact .inl rfl
 right
 rcases CQ (hR _ hr)with e|⟨_,h1,hl⟩
 ·omega
 have a:=Rf (K:=K) hr h0;rw [B6]at a;rw [(Rh a (by omega)).1];refine⟨(gR K R i:Int),?_,rfl⟩;unfold xJ;rw [hl];simp only [Ac,AP];exact⟨n,hn,by rw [h,Rs]⟩
theorem MQ {i:Int} (h0:0<=i) (h:i<(K.length:Int)):Ct (K++X) i=Ct K i:=by
 obtain⟨c,rfl⟩:∃c:Nat,i=(c:Int):=⟨_,(Bl h0).symm⟩;unfold Ct;rw [AC,AC,AQ (by omega)]
theorem ADG (h:E4 K r=true):E4 (K++X) r=true:=by
 rcases CQ h with e|⟨h0,h1,hl⟩
 ·rw [e];rfl
 unfold E4;rw [MQ h0 h1,hl,Ad (by rw [Ag];omega)];simp
theorem ABr (hK:D9 K=true) (h:E4 K r=true):Fw (K++X) r=Fw K r:=by
 unfold Fw;apply Dd;intro s hs;rw [GR]at hs;unfold QX
 rcases CQ h with e|⟨h0,h1,hl⟩
 ·rw [e];rfl
 rw [MQ h0 h1];simp only [A5 (show¬r<0 by omega)]
 rcases HF hK h0 h1 hl (show s/4<4 by omega)with k1|⟨k1,k2,k3⟩
 ·rw [k1];rfl
 rw [MQ k1 (by omega)]
theorem iB (hK:D9 K=true) (hr:E4 K r=true) (hs:s<16) (n:Int):(PD K r s n).length=4:=by
 unfold PD;rw [Gr]
 rcases CQ hr with e|⟨h0,h1,hl⟩
 ·rw [A3 (by omega)];rfl
 rw [A5 (by omega)]
 rcases HF hK h0 h1 hl (show s/4<4 by omega)with k1|⟨k1,k2,k3⟩
 ·rw [A3 (by omega)];rfl
 rw [A5 (by omega)];exact(IH hK k1 (by omega)).1
theorem rA (hK:D9 K=true) (hr:E4 K r=true) (s:Nat):(Th K r s).length=4:=by
 unfold Th;rw [Gr]
 rcases CQ hr with e|⟨h0,h1,hl⟩
 ·rw [A3 (by omega)];rfl
 rw [A5 (by omega)];exact(IH hK h0 h1).1
theorem Vq:Ct (KA K r s n) (K.length:Int)=Cc.mk true (PD K r s n):=by
 unfold Ct KA;rw [AC,AS (A4 _),Re];rfl
theorem Vp:Ct (KA K r s n) ((K.length:Int)+1)=Cc.mk false (Th K r s):=by
 unfold Ct KA;rw [show(K.length:Int)+1=((K.length+1:Nat):Int)from rfl,AC,AS (by omega),show K.length+1-K.length=1 by omega];rfl
theorem AG2 (hK:D9 K=true) (hr:E4 K r=true) (hs:s<16) (hn:0<=n):D9 (KA K r s n)=true:=by
 rw [Hj];intro j hj;have a:(KA K r s n).length=K.length+2:=by unfold KA;simp
 rw [a]at hj;by_cases h:j<K.length
 ·have hk:Ct (KA K r s n) (j:Int)=Ct K (j:Int):=MQ (by omega) (by omega);rw [hk];obtain⟨h4,h5⟩:=Hj.1 hK j h;refine⟨h4,λm hm=>?_⟩;have:=h5 m hm
  cases hl:(Ct K (j:Int)).Leaf with
  |true=>rw [hl]at this;exact this
  |false=>
   rw [hl]at this;simp only [Ok,Ac,CT,Cj,An,A9]at this⊢
   rcases this with e|⟨e1,e2⟩
   ·exact .inl e
   refine .inr ⟨e1,?_⟩;rw [show Ct (KA K r s n) m=Ct K m from MQ e1.1 (by omega)];exact e2
 by_cases e:j=K.length
 ·subst e;rw [Vq];refine⟨iB hK hr hs n,λm hm=>?_⟩;simp only [Ok,Ae,A9];unfold PD at hm
  rcases Co hm with hm|hm
  ·rcases CQ hr with e|⟨h0,h1,hl⟩
   ·rw [A3 (by omega)]at hm;simp at hm;omega
   rw [A5 (by omega)]at hm
   rcases HF hK h0 h1 hl (show s/4<4 by omega)with k1|⟨k1,k2,k3⟩
   ·rw [A3 (by omega)]at hm;simp at hm;omega
   rw [A5 (by omega)]at hm;have hq:=Hj.1 hK (MR (Ct K r) (s/4)).toNat (by omega);rw [Bl k1,k3]at hq;have:=hq.2 m hm;simpa [Ok]using this
  omega
 have:j=K.length+1:=by omega
 subst this;rw [show((K.length+1:Nat):Int)=(K.length:Int)+1 from rfl,Vp];refine⟨rA hK hr s,λm hm=>?_⟩;simp only [Ok,Ac,CT,Cj,An,A9];unfold Th at hm
 rcases Co hm with hm|hm
 ·rcases CQ hr with e|⟨h0,h1,hl⟩
  ·rw [A3 (by omega)]at hm;simp at hm;omega
  rw [A5 (by omega)]at hm;obtain⟨q,hq,rfl⟩:=AI hm;obtain⟨h4,hk⟩:=IH hK h0 h1;have e5:=(hk q (by omega)).1;rw [Ab hq]at e5
  injection e5 with e5
  rw [e5]
  rcases HF hK h0 h1 hl (show q<4 by omega)with k1|⟨k1,k2,k3⟩
  ·exact .inl k1
  refine .inr ⟨by omega,?_⟩;rw [show Ct (KA K r s n) (MR (Ct K r) q)=Ct K (MR (Ct K r) q)from MQ k1 (by omega)];exact k3
 refine .inr ⟨by omega,?_⟩;rw [hm,Vq]
theorem ACo:E4 (KA K r s n) ((K.length:Int)+1)=true:=by
 unfold E4;rw [Vp,Ad (by unfold KA;simp;omega)];simp
theorem ABx (hK:D9 K=true) (hr:E4 K r=true) (hs:s<16):Fw (KA K r s n) ((K.length:Int)+1)=(Fw K r).set s n:=by
 unfold Fw;symm;apply Ru;intro t ht;unfold QX;rw [Vp];simp only [A5 (show¬((K.length:Int)+1)<0 by omega)];have a:=rA hK hr s;have b:=iB hK hr hs n;by_cases hq:t/4=s/4
 ·have e1:MR (Cc.mk false (Th K r s)) (t/4)=(K.length:Int):=by
   unfold MR Th;rw [hq,Cd,A3 rfl];unfold Th at a;rw [Gr]at a;rw [A3 (by rw [a];omega)];rfl
  rw [e1,A5 (by omega),Vq];have e2:MR (Cc.mk true (PD K r s n)) (t %4)=if t %4=s %4 then n else(if r<0 then 0 else if MR (Ct K r) (s/4)<0 then 0 else MR (Ct K (MR (Ct K r) (s/4))) (t %4)):=by
   unfold MR PD;unfold PD at b;rw [Gr]at b;rw [Cd];by_cases e:s %4=t %4
   ·rw [A3 e,A3 (by rw [b];omega),A3 e.symm];rfl
   rw [A5 e,A5 (EW e)];have zero:([0,0,0,0]:List Int)[t %4]?.getD 0=0:=by
    have:t %4<4:=by omega
    generalize t %4=q at this
    match q,this with
    |0,_=>rfl
    |1,_=>rfl
    |2,_=>rfl
    |3,_=>rfl
   by_cases c1:r<0
   ·rw [A3 c1,A3 c1];exact zero
   rw [A5 c1,A5 c1];unfold MR;by_cases c2:((Ct K r).Kids[s/4]?).getD 0<0
   ·rw [A3 c2,A3 c2];exact zero
   rw [A5 c2,A5 c2]
  rw [e2,hq];by_cases e:t=s
  ·rw [A3 e,A3 (by rw [e])]
  rw [A5 e,A5 (by omega)]
 rw [A5 (show¬t=s by intro e;rw [e]at hq;exact hq rfl)];have e1:MR (Cc.mk false (Th K r s)) (t/4)=if r<0 then-1 else MR (Ct K r) (t/4):=by
  unfold MR Th;rw [Cd,A5 (EW hq)];by_cases c1:r<0
  ·rw [A3 c1,A3 c1];have:t/4<4:=by omega
   generalize t/4=q at this
   match q,this with
   |0,_=>rfl
   |1,_=>rfl
   |2,_=>rfl
   |3,_=>rfl
  rw [A5 c1,A5 c1]
 rw [e1]
 rcases CQ hr with e|⟨h0,h1,hl⟩
 ·rw [e];rfl
 simp only [A5 (show¬r<0 by omega)]
 rcases HF hK h0 h1 hl (show t/4<4 by omega)with k1|⟨k1,k2,k3⟩
 ·rw [k1];rfl
 rw [show Ct (KA K r s n) (MR (Ct K r) (t/4))=Ct K (MR (Ct K r) (t/4))from MQ k1 (by omega)]
def Lz (n:Nat) (p:Nat->Bool):Nat:=((List.range n).filter p).length
theorem KI (n:Nat) (p:Nat->Bool):Lz (n+1) p=Lz n p+(if p n=true then 1 else 0):=by
 unfold Lz;rw [Gq,AT,Ag];by_cases h:p n=true
 ·rw [A3 h,BK h];rfl
 rw [A5 h,B9 h];rfl
theorem X7 (p q:Nat->Bool):∀n,Lz n (λj=>p j||q j)<=Lz n p+Lz n q
 |0=>by simp [Lz]
 |n+1=>by
  have:=X7 p q n;rw [KI,KI,KI];cases p n<;>cases q n<;>simp<;>omega
theorem ZW (x:Int):∀n,Lz n (λj=>decide (x=(j:Int)))<=1/\(x>=(n:Int)->Lz n (λj=>decide (x=(j:Int)))=0)
 |0=>by simp [Lz]
 |n+1=>by
  obtain⟨h1,h2⟩:=ZW x n;rw [KI];by_cases h:x=(n:Int)
  ·have:=h2 (by omega);rw [A3 (by simpa using h)];exact⟨by omega,λh3=>by omega⟩
  rw [A5 (by simpa using h)];exact⟨by omega,λh3=>by rw [h2 (by omega)]⟩
theorem AED (l:List Int) (n:Nat):Lz n (λj=>l.any λx=>decide (x=(j:Int)))<=l.length:=by
 induction l with
 |nil=>simp [Lz]
 |cons x l ih=>
  simp only [List.any_cons,Ay];have:=X7 (λj=>decide (x=(j:Int))) (λj=>l.any λx=>decide (x=(j:Int))) n;have:=(ZW x n).1;omega
theorem AF2 {n:Nat} {q:Nat->Bool} (h:∀j,j<n->p j=true->q j=true):Lz n p<=Lz n q:=by
 induction n with
 |zero=>simp [Lz]
 |succ n ih=>
  have:=ih (λj hj=>h j (by omega));rw [KI,KI];by_cases e:p n=true
  ·rw [A3 e,A3 (h n (by omega) e)];omega
  rw [A5 e];omega
theorem wC {n:Nat} (h:∀j,j<n->p j=true):Lz n p=n:=by
 induction n with
 |zero=>rfl
 |succ n ih=>rw [KI,A3 (h n (by omega)),ih (λj hj=>h j (by omega))]
theorem AFT (hK:D9 K=true) (hr:E4 K r=true) (n:Nat):Lz n (Pu K r)<=5:=by
 have h1:=X7 (λj=>decide (r=(j:Int))) (λj=>(Ct K r).Kids.any λn=>decide (n=(j:Int))) n;have h2:=(ZW r n).1;have h3:=AED (Ct K r).Kids n
 have h4:Lz n (Pu K r)<=Lz n (λj=>decide (r=(j:Int))||(Ct K r).Kids.any λn=>decide (n=(j:Int))):=AF2 λj _ h=>by
  unfold Pu at h;rw [An]at h;exact h.2
 rcases CQ hr with e|⟨h0,hl,_⟩
 ·have:Lz n (Pu K r)=Lz n (λ_=>false):=by rw [e];rfl
  rw [this];unfold Lz;rw [BI.2 (by simp)];simp
 have:=(IH hK h0 hl).1;omega
theorem XL (hK:D9 K=true) (n:Nat):∀(R:List Int),(∀r∈R,E4 K r=true)->Lz n (DX K R)<=5*R.length
 |[],_=>by simp [Lz,DX]
 |r::R,h=>by
  have h1:=XL hK n R (λx hx=>h x (by simp [hx]));have h2:=AFT hK (h r (by simp)) n;have h3:=X7 (Pu K r) (DX K R) n;have h4:Lz n (DX K (r::R))=Lz n (λj=>Pu K r j||DX K R j):=rfl;rw [h4,Ay];omega
theorem AB5 (hK:D9 K=true) (hR:∀r∈R,E4 K r=true):(W0 K R).length<=5*R.length:=by
 rw [jK];exact XL hK _ R hR
def Cr (s:Store):List Int:=s.Vols.map Vol.Root
structure V9 (s:Store):Prop where
 len:s.Vols.length<=3
 ar:D9 s.Arena.Knots=true
 nx:1<=s.Next/\s.Next<=1000000000
 ids:∀v∈s.Vols,1<=v.Id/\v.Id<=9
 asc:(s.Vols.map Vol.Id).Pairwise (·<·)
 root:∀r∈Cr s,E4 s.Arena.Knots r=true
 lt:∀r∈Cr s,∀x∈Fw s.Arena.Knots r,x<s.Next
 few:s.Arena.Knots.length<=1000
structure Ew (s:Store):Prop extends V9 s where
 used:∀i,i<s.Arena.Knots.length->DX s.Arena.Knots (Cr s) i=true
theorem Ew.small {s:Store} (h:Ew s):s.Arena.Knots.length<=15:=by
 have h1:=XL h.ar s.Arena.Knots.length (Cr s) h.root;rw [wC h.used]at h1;have:(Cr s).length=s.Vols.length:=by unfold Cr;rw [Bo]
 have:=h.len;omega
def BU (s:Store):List (Int×List Int):=s.Vols.map λv=>(v.Id,Fw s.Arena.Knots v.Root)
def L7 (s:Store):Store:=Store.mk (s.Vols.map λv=>Vol.mk v.Id (Rt s.Arena.Knots (Cr s) v.Root)) (Arena.mk (W0 s.Arena.Knots (Cr s))) s.Next
theorem OY (s:Store):Cr (L7 s)=(Cr s).map (Rt s.Arena.Knots (Cr s)):=by
 unfold Cr L7;simp only [FK];rfl
theorem ABj {s:Store} (h:V9 s):Ew (L7 s):=by
 have b:(Cr s).length=s.Vols.length:=by unfold Cr;rw [Bo]
 refine⟨⟨by unfold L7;simpa using h.len,AGS h.ar h.root,h.nx,?_,?_,?_,?_,?_⟩,?_⟩
 ·intro v hv;unfold L7 at hv;simp only [AP]at hv;obtain⟨w,hw,rfl⟩:=hv;exact h.ids w hw
 ·have:((L7 s).Vols.map Vol.Id)=s.Vols.map Vol.Id:=by unfold L7;simp only [FK];rfl
  rw [this];exact h.asc
 ·intro r hr;rw [OY]at hr;obtain⟨q,hq,rfl⟩:=AP.1 hr;exact ADJ h.root hq
 ·intro r hr;rw [OY]at hr;obtain⟨q,hq,rfl⟩:=AP.1 hr;have:=ABv h.ar h.root hq;intro x hx;have a:x∈Fw s.Arena.Knots q:=by rw [<-this];exact hx
  exact h.lt q hq x a
 ·have:=AB5 h.ar h.root;have:=h.len;show(W0 s.Arena.Knots (Cr s)).length<=1000;omega
 intro i hi;rw [OY];exact AFg h.ar h.root hi
theorem fV {s:Store} (h:V9 s):BU (L7 s)=BU s:=by
 unfold BU;show(s.Vols.map λv=>Vol.mk v.Id (Rt s.Arena.Knots (Cr s) v.Root)).map _=_;rw [FK];apply Dd;intro v hv;have:=ABv h.ar h.root (show v.Root∈Cr s from AP.2 ⟨v,hv,rfl⟩);show(v.Id,Fw (W0 s.Arena.Knots (Cr s)) (Rt s.Arena.Knots (Cr s) v.Root))=_;rw [this]
theorem RY (s:Store) (hv:s.Vols.length<=1048576):MC s=some (Cr s):=by
 unfold MC;obtain⟨b,h1,h2⟩:=Bk (body:=λq:List Int×Int=>Ht s q.1 q.2) (λ(o:List Int) i=>(o,i)) s.Vols.length (λi o=>o=(s.Vols.take i).map Vol.Root) (λb=>b=Cr s)
  (λo i hi ho=>by
   have hx:=Ab hi;simp only [Ht,AE,Ad hi,Ae,AC,hx,Aa];rw [C3 (by rw [ho];simp;omega)];simp only [Aa];rw [ad1 (by omega)]
   exact .inl ⟨_,rfl,by rw [ho,EL,hx,CD];rfl⟩)
  (λo ho=>⟨o,by simp only [Ht,AE,Aq,Av,Ac],by rw [ho,Ba (A4 _)];rfl⟩) (s:=[]) rfl
 have h1':Aw (λq:List Int×Int=>Ht s q.1 q.2) ([],0)=some b:=h1;rw [h1',h2];rfl
theorem RX {s:Store} (h:V9 s):Hd s=some (L7 s):=by
 have hl:=h.len;have hf:=h.few;have d:(Cr s).length=s.Vols.length:=by unfold Cr;rw [Bo]
 unfold Hd;rw [RY s (by omega)];simp only [Aa];rw [Yz _ (by omega) h.ar _ (by omega) h.root];simp only [Aa];rw [P6 (by omega)];simp only [Aa];have q:=TN (body:=λq:Int×List Vol=>IL ((Cr s).map (Rt s.Arena.Knots (Cr s)),W0 s.Arena.Knots (Cr s)) q.1 q.2) (λl i=>(i,l)) (λ_ v=>Vol.mk v.Id (Rt s.Arena.Knots (Cr s) v.Root)) s.Vols
  (λi l x a b c=>by
   have hi:=(Ai.1 b).1;simp only [IL,AE,Ad hi,Ae];have:gi ((Cr s).map (Rt s.Arena.Knots (Cr s))) (i:Int)=some (Rt s.Arena.Knots (Cr s) x.Root):=by
    rw [AC,Bi];unfold Cr;rw [Bi,c];rfl
   rw [this,AC,b];simp only [Aa]
   rw [Gs,ad1 (by omega)])
  (λl a=>by simp only [IL,Cf,a];rw [Af (by omega),Ac])
 rw [Pf]at q;rw [q];rfl
theorem ADl {s:Store} (h:Ew s):L7 s=s:=by
 have c:∀i,i<=s.Arena.Knots.length->gR s.Arena.Knots (Cr s) i=i:=λi hi=>wC (λj hj=>h.used j (by omega))
 have a:∀n:Int,n<(s.Arena.Knots.length:Int)->Rt s.Arena.Knots (Cr s) n=n:=λn hn=>by
  unfold Rt;split
  ·rw [c _ (by omega)];omega
  rfl
 have b:∀r∈Cr s,Rt s.Arena.Knots (Cr s) r=r:=λr hr=>by
  rcases CQ (h.root r hr)with e|⟨h0,h1,_⟩
  ·rw [e,Rr (by omega)]
  exact a r h1
 have d:W0 s.Arena.Knots (Cr s)=s.Arena.Knots:=by
  unfold W0;rw [Gy.2 (λi hi=>h.used i (by simpa using hi))];apply CE;intro i;rw [Bi];by_cases hi:i<s.Arena.Knots.length
  ·rw [PZ hi,Ab hi];simp only [B3];congr 1;have h0:(0:Int)<=(i:Int):=by omega
   have h1:(i:Int)<(s.Arena.Knots.length:Int):=by omega
   unfold xJ
   cases hl:(Ct s.Arena.Knots (i:Int)).Leaf with
   |true=>
    simp only [Ae];rw [<-hl,Oj hi]
   |false=>
    simp only [Ac];have:(Ct s.Arena.Knots (i:Int)).Kids.map (Rt s.Arena.Knots (Cr s))=(Ct s.Arena.Knots (i:Int)).Kids:=by
     conv=>rhs;rw [<-SY (Ct s.Arena.Knots (i:Int)).Kids]
     apply Dd;intro n hn;obtain⟨q,hq,rfl⟩:=AI hn;obtain⟨h4,hk⟩:=IH h.ar h0 h1;have e5:=(hk q (by omega)).1;rw [Ab hq]at e5
     injection e5 with e5
     rw [e5]
     rcases HF h.ar h0 h1 hl (show q<4 by omega)with k1|⟨k1,k2,k3⟩
     ·rw [k1,Rr (by omega)];rfl
     exact a _ (by omega)
    rw [this,<-hl,Oj hi]
  rw [CN (by simpa using hi),CN (by omega)];rfl
 unfold L7;rw [d];have:(s.Vols.map λv=>Vol.mk v.Id (Rt s.Arena.Knots (Cr s) v.Root))=s.Vols:=by
  conv=>rhs;rw [<-SY s.Vols]
  apply Dd;intro v hv;rw [b _ (AP.2 ⟨v,hv,rfl⟩)];rfl
 rw [this]
theorem aA (hs:s<16):QX K r s∈Fw K r:=AP.2 ⟨s,by simpa using hs,rfl⟩
theorem Q8 {l:List Int} {y:Int} (h:l.Pairwise (·<·)) (a:i<j) (hx:l[i]?=some x) (hy:l[j]?=some y):x<y:=by
 obtain⟨h1,rfl⟩:=Ai.1 hx;obtain⟨h2,rfl⟩:=Ai.1 hy;exact Ds.1 h i j h1 h2 a
theorem VU {s:Store} (h:Ew s):NZ s=some true:=by
 have hl:=h.len;have hf:=h.few;have d:(Cr s).length=s.Vols.length:=by unfold Cr;rw [Bo]
 unfold NZ;rw [Cf,Af (by omega),Ac,LX _ (by omega),h.ar,E6,Ad h.nx];simp only [Aa,Al,Ac];obtain⟨b,h1,h2⟩:=Bk (body:=λq:Int=>Iv s q) (λ(_:Unit) i=>i) s.Vols.length (λ_ _=>True) (λb=>b= .inl ())
  (λ_ i hi _=>by
   have hx:=Ab hi;have hm:s.Vols[i]∈s.Vols:=AD hi;have hr:s.Vols[i].Root∈Cr s:=AP.2 ⟨_,hm,rfl⟩;simp only [Iv,AE,Ad hi,Ae,AC,hx,Aa];rw [E6,Ad (h.ids _ hm),LR _ (by omega),h.root _ hr];simp only [Aa,Al,Ac];have a:(bif(decide ((i:Int)>0))then((gi s.Vols (sb (i:Int) 1)).bind λx2=>bif(decide (x2.Id>=s.Vols[i].Id))then(some true)else(some false))else(some false):Option Bool)=some false:=by
    by_cases h0:i=0
    ·rw [Af (by omega:¬(i:Int)>0),Ac]
    rw [Ad (by omega:(i:Int)>0),Ae,Cz (by omega) (by omega),show(i:Int)-1=((i-1:Nat):Int) by omega,AC,Ab (by omega)];simp only [Aa];have:=Q8 h.asc (show i-1<i by omega) (x:=s.Vols[i-1].Id) (y:=s.Vols[i].Id) (by rw [Bi,Ab (by omega)];rfl) (by rw [Bi,Ab (by omega)];rfl);rw [Af (by omega),Ac]
   rw [a];simp only [Aa,Ac];obtain⟨c,q1,q2⟩:=Bk (body:=λq:Int=>Iu s s.Vols[i] q) (λ(_:Unit) i=>i) 16 (λ_ _=>True) (λb=>b= .inl ())
    (λ_ k hk _=>by
     simp only [Iu];rw [Ad (by omega:(k:Int)<16),Ae,VO _ h.ar (h.root _ hr) hk];simp only [Aa];have:=h.lt _ hr _ (aA hk);rw [Af (by omega),Ac,ad1 (by omega)]
     exact .inl ⟨(),rfl,trivial⟩)
    (λ_ _=>⟨_,by simp only [Iu];rw [Af (by omega:¬((16:Nat):Int)<16),Ac],rfl⟩) (s:=()) trivial
   have q1':Aw (λq:Int=>Iu s s.Vols[i] q) 0=some c:=q1;rw [q1',q2];simp only [Aa,BM];rw [ad1 (by omega)]
   exact .inl ⟨(),rfl,trivial⟩)
  (λ_ _=>⟨_,by simp only [Iv,AE,Aq,Av,Ac],rfl⟩) (s:=()) trivial
 have h1':Aw (λq:Int=>Iv s q) 0=some b:=h1;rw [h1',h2];simp only [Aa,BM];rw [RY s (by omega)];simp only [Aa];rw [Yz _ (by omega) h.ar _ (by omega) h.root];simp only [Aa];have:W0 s.Arena.Knots (Cr s)=s.Arena.Knots:=by
  have:=ADl h;unfold L7 at this;have:=Ca (λz=>z.Arena.Knots) this;exact this
 rw [this];simp
abbrev Vs:=List (Int×List Int)
def Mi (l:Vs) (id:Int):Option (List Int):=(l.find? λp=>p.1==id).map Prod.snd
def ACL (l:Vs) (id:Int) (a:List Int):Vs:=(l.filter λp=>decide (p.1<id))++ [(id,a)]++l.filter λp=>decide (p.1>id)
def AIK (l:Vs) (id:Int):Vs:=l.filter λp=>p.1 !=id
def yK (l:Vs) (id:Int) (s:Nat) (n:Int):Vs:=l.map λp=>if p.1=id then(p.1,p.2.set s n)else p
def Iy (r:Cu):Bool:=decide (0<=r.Arg/\r.Arg<=1000000000)&&(bif r.Kind==1 then r.Vol==0&&r.Chunk==0 else decide (2<=r.Kind/\r.Kind<=5)&&decide (1<=r.Vol/\r.Vol<=9)&&(r.Kind==4||r.Chunk==0)&&
 (bif r.Kind==2 then decide (r.Arg<=9)else bif r.Kind==3 then r.Arg==0 else bif r.Kind==4 then decide (r.Arg<16)&&decide (1<=r.Chunk/\r.Chunk<=1000000000)else decide (r.Arg<16)))
def Tc:List Int:=List.replicate 16 0
def Eu (l:Vs) (nx:Int) (r:Cu):Option (Vs×Int):=
 if Iy r=false then none
 else if r.Kind=1 then some ([],if r.Arg=0 then 1 else r.Arg)
 else if r.Kind=2 then
  if(0<r.Arg/\Mi l r.Arg=none)\/Mi l r.Vol≠none\/l.length=3 then none
  else some (ACL l r.Vol (if 0<r.Arg then(Mi l r.Arg).getD Tc else Tc),nx)
 else if Mi l r.Vol=none\/r.Chunk=1000000000 then none
 else if r.Kind=3 then some (AIK l r.Vol,nx)
 else some (yK l r.Vol r.Arg.toNat r.Chunk,max nx (r.Chunk+1))
theorem Ro (r:Cu):Ns r=some (Iy r):=by
 unfold Ns Iy;simp only [E6,Aa]
 cases decide (0<=r.Arg/\r.Arg<=1000000000)with
 |false=>rfl
 |true=>
  simp only [Al,Ac,C4]
  cases r.Kind==1 with
  |true=>
   simp only [Ae];cases r.Vol==0<;>rfl
  |false=>
   simp only [Ac]
   cases decide (2<=r.Kind/\r.Kind<=5)with
   |false=>rfl
   |true=>
    cases decide (1<=r.Vol/\r.Vol<=9)with
    |false=>rfl
    |true=>
     have e1:(r.Kind !=4)=!(r.Kind==4):=rfl;have e2:(r.Chunk !=0)=!(r.Chunk==0):=rfl;rw [e1,e2];cases r.Kind==4<;>cases r.Chunk==0<;>cases r.Kind==2<;>cases r.Kind==3<;>cases decide (r.Arg<16)<;>rfl
theorem Jd (s:Store) (hv:s.Vols.length<=1048576) (id:Int):(He s id=some (-1)/\∀v∈s.Vols,v.Id≠id)\/∃k:Nat,∃v,He s id=some (k:Int)/\s.Vols[k]?=some v/\v.Id=id/\∀j w,j<k->s.Vols[j]?=some w->w.Id≠id:=by
 unfold He;obtain⟨b,h1,h2⟩:=Bk (body:=λq:Int=>K0 s id q) (λ(_:Unit) i=>i) s.Vols.length (λi _=>∀j w,j<i->s.Vols[j]?=some w->w.Id≠id)
  (λb=>(b= .inl ()/\∀v∈s.Vols,v.Id≠id)\/∃k:Nat,∃v,b= .inr (k:Int)/\s.Vols[k]?=some v/\v.Id=id/\∀j w,j<k->s.Vols[j]?=some w->w.Id≠id)
  (λ_ i hi hs=>by
   have hx:=Ab hi;simp only [K0,AE,Ad hi,Ae,AC,hx,Aa]
   cases e:(s.Vols[i].Id==id)with
   |true=>exact .inr ⟨_,rfl,.inr ⟨i,_,rfl,hx,by simpa using e,hs⟩⟩
   |false=>
    simp only [Ac];rw [ad1 (by omega)];refine .inl ⟨(),rfl,λj w hj hw=>?_⟩;by_cases e2:j=i
    ·subst e2;rw [hx]at hw
     injection hw with hw
     rw [<-hw];simpa using e
    exact hs j w (by omega) hw)
  (λ_ hs=>⟨_,by simp only [K0,AE,Aq,Av,Ac],.inl ⟨rfl,λv hv=>by
   obtain⟨j,hj,rfl⟩:=AI hv
   exact hs j _ hj (Ab hj)⟩⟩) (s:=()) (λj w hj=>by omega)
 have h1':Aw (λq:Int=>K0 s id q) 0=some b:=h1;rw [h1']
 rcases h2 with⟨rfl,h2⟩|⟨k,v,rfl,h2⟩
 ·exact .inl ⟨rfl,h2⟩
 exact .inr ⟨k,v,rfl,h2⟩
theorem Oo {s:Store} {id:Int}:(∀v∈s.Vols,v.Id≠id)↔Mi (BU s) id=none:=by
 unfold Mi BU;rw [Option.map_eq_none_iff,Fy];constructor
 ·intro h p hp;obtain⟨v,hv,rfl⟩:=AP.1 hp;simpa using h v hv
 intro h v hv;have:=h _ (AP.2 ⟨v,hv,rfl⟩);simpa using this
theorem AF8 {s:Store} {w:Vol} (h:(s.Vols.map Vol.Id).Pairwise (·<·)) (hv:v∈s.Vols) (hw:w∈s.Vols) (e:v.Id=w.Id):v=w:=by
 obtain⟨i,hi,rfl⟩:=AI hv;obtain⟨j,hj,rfl⟩:=AI hw;have gi:(s.Vols.map Vol.Id)[i]?=some s.Vols[i].Id:=by rw [Bi,Ab hi];rfl
 have gj:(s.Vols.map Vol.Id)[j]?=some s.Vols[j].Id:=by rw [Bi,Ab hj];rfl
 rcases Nf i j with h1|h1|h1
 ·have:=Q8 h h1 gi gj;omega
 ·subst h1;rfl
 have:=Q8 h h1 gj gi;omega
theorem Mq {s:Store} (h:(s.Vols.map Vol.Id).Pairwise (·<·)) (hv:v∈s.Vols):Mi (BU s) v.Id=some (Fw s.Arena.Knots v.Root):=by
 unfold Mi;have hm:(v.Id,Fw s.Arena.Knots v.Root)∈BU s:=AP.2 ⟨v,hv,rfl⟩
 cases hf:(BU s).find? λp=>p.1==v.Id with
 |none=>
  rw [Fy]at hf;have:=hf _ hm;simp at this
 |some p=>
  have h1:=List.find?_some hf;have h2:=List.mem_of_find?_eq_some hf;obtain⟨w,hw,rfl⟩:=AP.1 h2;have:w=v:=AF8 h hw hv (by simpa using h1);rw [this];rfl
theorem Oz (s:Store):(BU s).length=s.Vols.length:=by unfold BU;rw [Bo]
theorem tS (K:Ks):Fw K (-1)=Tc:=by
 unfold Fw Tc;rw [<-Ck (n:=16),<-LI,Ck];apply Dd;intro s hs;rfl
theorem AAS (s:Store) (p:Int->Bool) (t:Store) (hk:t.Arena=s.Arena) (hv:t.Vols=s.Vols.filter λv=>p v.Id):BU t=(BU s).filter λq=>p q.1:=by
 unfold BU;rw [hk,hv,List.filter_map];rfl
theorem iD {body:List Vol×Int->Option ((List Vol×Int)⊕List Vol)} (l:List Vol) (p:Vol->Bool) (o:List Vol) (hM:l.length+o.length<=1048576) (h1:∀(i:Nat) v (a:List Vol),l[i]?=some v->a.length<=1048576->body (a,(i:Int))=some (.inl (bif p v then a++ [v]else a,((i+1:Nat):Int)))) (h2:∀a,body (a,(l.length:Int))=some (.inr a)):
  Aw body (o,0)=some (o++l.filter p):=by
 obtain⟨b,h3,h4⟩:=Bk (body:=body) (λ(q:List Vol) i=>(q,i)) l.length (λi q=>q=o++(l.take i).filter p) (λb=>b=o++l.filter p)
  (λq i hi hq=>by
   have hx:=Ab hi;refine .inl ⟨_,h1 i _ q hx ?_,?_⟩
   ·rw [hq,Ag];have:=BN p (l.take i);rw [AF]at this;omega
   rw [hq,EL,hx,AT]
   cases e:p l[i]with
   |true=>simp [e]
   |false=>simp [e])
  (λq hq=>⟨q,h2 q,by rw [hq,Ba (A4 _)]⟩) (s:=o) (by simp)
 rw [h3,h4]
theorem AEn {R':List Int} (h:∀r∈R,r∈R') (hu:DX K R i=true):DX K R' i=true:=by
 unfold DX at hu⊢;rw [Df]at hu⊢;obtain⟨r,hr,h2⟩:=hu;exact⟨r,h r hr,h2⟩
theorem yH {l:List Vol} (h:(l.map Vol.Id).Pairwise (·<·)) (v:Vol):(((l.filter λw=>decide (w.Id<v.Id))++ [v]++l.filter λw=>decide (w.Id>v.Id)).map Vol.Id).Pairwise (·<·):=by
 rw [JJ]at h;rw [JJ,Ar,AX];refine⟨h.filter _,?_,?_⟩
 ·rw [Cq,Cs];exact⟨λw hw=>by simpa using(AN.1 hw).2,h.filter _⟩
 intro a ha b hb;have h1:a.Id<v.Id:=by simpa using(AN.1 ha).2
 rw [Cq,BE]at hb
 rcases hb with rfl|hb
 ·exact h1
 have:b.Id>v.Id:=by simpa using(AN.1 hb).2
 omega
theorem AB9 (l:List Vol) (id:Int):(l.filter λw=>decide (w.Id<id)).length+(l.filter λw=>decide (w.Id>id)).length<=l.length:=by
 induction l with
 |nil=>simp
 |cons v l ih=>
  simp only [List.filter_cons,Ay];by_cases h1:v.Id<id
  ·rw [A3 (by simpa using h1),A5 (by simp;omega),Ay];omega
  rw [A5 (by simpa using h1)];split
  ·rw [Ay];omega
  omega
def Ph (s:Store) (r:Cu) (o:Option (Store×Bool)):Prop:=match Eu (BU s) s.Next r with
 |none=>o=some (s,false)
 |some (l,nx)=>∃t,o=some (t,true)/\Ew t/\BU t=l/\t.Next=nx
theorem ACS {s:Store} {r:Cu} (h:Ew s) (hr:Iy r=true) (hk:r.Kind=2):Ph s r (MB s r):=by
 have hl:=h.len;have d:=Uq h.ar (by have:=h.few;omega);have a:=LQ s d (by omega);have hb:Iy r=true:=hr;unfold Iy at hr;rw [hk]at hr;simp at hr;unfold Ph Eu;rw [hb,hk];simp only [IY,FM,BX,show¬((2:Int)=1) by omega];unfold MB;have root:(Mi (BU s) r.Arg=none/\0<r.Arg/\(bif(decide (r.Arg>0))then((He s r.Arg).bind λv1=>bif(decide (v1<0))then((EO s).bind λv2=>some (.inr (v2,false)))else((gi s.Vols v1).bind λx1=>some (.inl x1.Root)))else(some (.inl (-1))):Option ((Int)⊕((Store×Bool))))=some (.inr (s,false)))\/
   (¬(0<r.Arg/\Mi (BU s) r.Arg=none)/\∃q,E4 s.Arena.Knots q=true/\(q= -1\/q∈Cr s)/\Fw s.Arena.Knots q=(if 0<r.Arg then(Mi (BU s) r.Arg).getD Tc else Tc)/\(bif(decide (r.Arg>0))then((He s r.Arg).bind λv1=>bif(decide (v1<0))then((EO s).bind λv2=>some (.inr (v2,false)))else((gi s.Vols v1).bind λx1=>some (.inl x1.Root)))else(some (.inl (-1))):Option ((Int)⊕((Store×Bool))))=some (.inl q)):=by
  by_cases h0:0<r.Arg
  ·rw [Ad (by omega:r.Arg>0)];simp only [Ae]
   rcases Jd s (by omega) r.Arg with⟨h1,h2⟩|⟨k,v,h1,h2,h3,_⟩
   ·left;rw [h1,a];exact⟨Oo.1 h2,h0,rfl⟩
   right;rw [h1];have hm:=A6 h2;have hg:=Mq h.asc hm;rw [h3]at hg;refine⟨λhh=>(by rw [hg]at hh;cases hh.2),v.Root,h.root _ (AP.2 ⟨v,hm,rfl⟩),.inr (AP.2 ⟨v,hm,rfl⟩),?_,?_⟩
   ·rw [A3 h0,hg];rfl
   simp only [Aa];rw [Af (by omega),Ac,AC,h2];rfl
  right;rw [Af (by omega:¬r.Arg>0),A5 h0];exact⟨λhh=>h0 hh.1,-1,rfl,.inl rfl,tS _,rfl⟩
 rcases root with⟨g1,g2,g3⟩|⟨g1,q,g2,g3,g4,g5⟩
 ·rw [g3,A3 (.inl ⟨g2,g1⟩)];rfl
 rw [g5];simp only [Aa,BM]
 rcases Jd s (by omega) r.Vol with⟨h1,h2⟩|⟨k,v,h1,h2,h3,_⟩
 ·rw [h1];simp only [Aa];rw [Af (by omega),Ac,Cf];have j:Mi (BU s) r.Vol=none:=Oo.1 h2;by_cases h3:s.Vols.length=3
  ·rw [h3,A3 (.inr (.inr (by rw [Oz,h3])))];simp only [Aa];rw [a];rfl
  have e3:((s.Vols.length:Int)==3)=false:=by simp;omega
  rw [e3,A5 (by
   rintro(hh|hh|hh)
   ·exact g1 hh
   ·exact hh j
   rw [Oz]at hh;exact h3 hh)]
  simp only [Aa,Ac];rw [a];simp only [Aa];have k1:=iD (body:=λq:List Vol×Int=>Lf s r q.1 q.2) s.Vols (λv=>decide (v.Id<r.Vol)) [] (by simp;omega)
   (λi v c hv ho=>by
    have hi:=(Ai.1 hv).1;simp only [Lf,AE,Ad hi,Ae,AC,hv,Aa];rw [ad1 (by omega)]
    cases decide (v.Id<r.Vol)with
    |true=>simp only [Ae];rw [C3 (by simp;omega)];rfl
    |false=>rfl)
   (λc=>by simp only [Lf,AE,Aq,Av,Ac])
  rw [AA]at k1;rw [k1];simp only [Aa];have l:=AB9 s.Vols r.Vol;rw [C3 (by simp;omega)];simp only [Aa];have k2:=iD (body:=λq:List Vol×Int=>Le s r q.1 q.2) s.Vols (λv=>decide (v.Id>r.Vol)) ((s.Vols.filter λv=>decide (v.Id<r.Vol))++ [Vol.mk r.Vol q]) (by simp;omega)
   (λi v c hv ho=>by
    have hi:=(Ai.1 hv).1;simp only [Le,AE,Ad hi,Ae,AC,hv,Aa];rw [ad1 (by omega)]
    cases decide (v.Id>r.Vol)with
    |true=>simp only [Ae];rw [C3 (by simp;omega)];rfl
    |false=>rfl)
   (λc=>by simp only [Le,AE,Aq,Av,Ac])
  rw [k2];simp only [Aa];have f:((s.Vols.filter λv=>decide (v.Id<r.Vol))++ [Vol.mk r.Vol q]++s.Vols.filter λv=>decide (v.Id>r.Vol)).length<=3:=by simp only [Ag,Ay,Bn];omega
  have g:∀x∈Cr s,x∈(Cr (Store.mk ((s.Vols.filter λv=>decide (v.Id<r.Vol))++ [Vol.mk r.Vol q]++s.Vols.filter λv=>decide (v.Id>r.Vol)) s.Arena s.Next)):=by
   intro x hx;obtain⟨v,hv,rfl⟩:=AP.1 hx;refine AP.2 ⟨v,?_,rfl⟩;have:=h2 v hv;simp only [Ak,AN,Az];by_cases e:v.Id<r.Vol
   ·exact .inl (.inl ⟨hv,by simpa using e⟩)
   exact .inr ⟨hv,by simp;omega⟩
  have b:∀x∈(Cr (Store.mk ((s.Vols.filter λv=>decide (v.Id<r.Vol))++ [Vol.mk r.Vol q]++s.Vols.filter λv=>decide (v.Id>r.Vol)) s.Arena s.Next)),x= -1\/x∈Cr s:=by
   intro x hx;obtain⟨v,hv,rfl⟩:=AP.1 hx;simp only [Ak,AN,Az]at hv
   rcases hv with(hv|rfl)|hv
   ·exact .inr (AP.2 ⟨v,hv.1,rfl⟩)
   ·exact g3
   exact .inr (AP.2 ⟨v,hv.1,rfl⟩)
  refine⟨_,rfl,⟨⟨f,h.ar,h.nx,?_,yH h.asc (Vol.mk r.Vol q),?_,?_,h.few⟩,?_⟩,?_,rfl⟩
  ·intro v hv;simp only [Ak,AN,Az]at hv
   rcases hv with(hv|rfl)|hv
   ·exact h.ids v hv.1
   ·show 1<=r.Vol/\r.Vol<=9;omega
   exact h.ids v hv.1
  ·intro x hx
   rcases b x hx with e|e
   ·rw [e];rfl
   exact h.root x e
  ·intro x hx
   rcases b x hx with e|e
   ·intro y hy;rw [e]at hy;change y∈Fw s.Arena.Knots (-1)at hy;rw [tS]at hy;have:=Cv hy;have:=h.nx;show y<s.Next;omega
   exact h.lt x e
  ·intro i hi;exact AEn g (h.used i hi)
  rw [<-g4];unfold ACL BU;simp only [CD,BF,AA4,List.filter_map];rfl
 rw [h1];simp only [Aa];rw [Ad (by omega),Ae];have hg:=Mq h.asc (A6 h2);rw [h3]at hg;rw [A3 (.inr (.inl (by rw [hg];simp)))];simp only [Aa,Ae];rw [a];rfl
theorem fB {l:List Vol} (h:(l.map Vol.Id).Pairwise (·<·)) (hv:l[k]?=some v):l.take k++l.drop (k+1)=l.filter λw=>w.Id !=v.Id:=by
 rw [JJ]at h;have hk:=(Ai.1 hv).1;have e:l=l.take k++v::l.drop (k+1):=by
  have h2:=Bh hk;rw [(Ai.1 hv).2]at h2;rw [<-h2,Br]
 rw [e,AX]at h;obtain⟨h1,h2,h3⟩:=h;rw [Cs]at h2
 conv=>rhs;rw [e]
 rw [AT,B9 (by simp)];congr 1
 ·symm;rw [Gy];intro w hw;have:=h3 w hw v (by simp);simp;omega
 symm;rw [Gy];intro w hw;have:=h2.1 w hw;simp;omega
theorem AEy {s:Store} (h:Ew s) (r:Cu):Ph s r (Xw s r):=by
 have hl:=h.len;have g:=Uq h.ar (by have:=h.few;omega);have a:=LQ s g (by omega);unfold Xw;rw [VU h,Ro];simp only [Aa,Al,Ac]
 cases hb:Iy r with
 |false=>
  simp only [AJ,Ae];rw [a];unfold Ph Eu;rw [hb];rfl
 |true=>
  simp only [Al,Ac];have hr:=hb;unfold Iy at hr
  cases k1:(r.Kind==1)with
  |true=>
   have e1:r.Kind=1:=by simpa using k1
   rw [e1]at hr;simp at hr;unfold Ph Eu;rw [hb,e1];simp only [IY,FM,BX,Ae];have:(bif(r.Arg==0)then(some 1)else(some r.Arg):Option (Int))=some (if r.Arg=0 then 1 else r.Arg):=by
    by_cases e:r.Arg=0
    ·rw [A3 e,e];rfl
    rw [A5 e,show(r.Arg==0)=false by simpa using e];rfl
   rw [this];refine⟨_,rfl,⟨⟨by simp,rfl,?_,by simp,by simp,by simp [Cr],by simp [Cr],by simp⟩,by simp⟩,rfl,rfl⟩;show 1<=(if r.Arg=0 then 1 else r.Arg)/\(if r.Arg=0 then 1 else r.Arg)<=1000000000;split<;>omega
  |false=>
   simp only [Ac];have n1:r.Kind≠1:=by simpa using k1
   rw [k1]at hr
   cases k2:(r.Kind==2)with
   |true=>
    simp only [Ae];have:=ACS h hb (by simpa using k2);have e:((MB s r).bind λv4=>some (v4.1,v4.2))=MB s r:=by cases MB s r<;>rfl
    rw [e];exact this
   |false=>
    simp only [Ac];have n2:r.Kind≠2:=by simpa using k2
    rw [k2]at hr;have hv:1<=r.Vol/\r.Vol<=9:=by simp at hr;omega
    unfold Ph Eu;rw [hb];simp only [IY,FM,A5 n1,A5 n2]
    rcases Jd s (by omega) r.Vol with⟨h1,h2⟩|⟨k,v,h1,h2,h3,_⟩
    ·rw [h1];simp only [Aa];rw [Ad (by omega),Ae,A3 (.inl (Oo.1 h2))];simp only [Aa,Ae];rw [a];rfl
    rw [h1];simp only [Aa];rw [Af (by omega),Ac];simp only [Aa];have hm:=A6 h2;have i:=(Ai.1 h2).1;have hg:=Mq h.asc hm;rw [h3]at hg
    cases hc:(r.Chunk==1000000000)with
    |true=>
     simp only [Ae];rw [A3 (.inr (by simpa using hc)),a];rfl
    |false=>
     simp only [Ac];have m:r.Chunk≠1000000000:=by simpa using hc
     rw [A5 (by
      rintro(hh|hh)
      ·rw [hg]at hh;cases hh
      exact m hh),a]
     simp only [Aa]
     cases k3:(r.Kind==3)with
     |true=>
      have e3:r.Kind=3:=by simpa using k3
      rw [A3 e3];simp only [Ae];rw [Cf,ad1 (by omega)];have d1:dr s.Vols 0 (k:Int)=some (s.Vols.take k):=by
       unfold dr;rw [A3 ⟨by omega,by omega,by omega⟩];simp
      have d2:dr s.Vols ((k+1:Nat):Int) (s.Vols.length:Int)=some (s.Vols.drop (k+1)):=by
       unfold dr;rw [A3 ⟨by omega,by omega,by omega⟩,B6,B6,Ba (by simp)]
      rw [d1,d2];simp only [Aa];rw [P6 (by simp;omega)];simp only [Aa];rw [C3 (by simp;omega),fB h.asc h2,h3];simp only [Aa];have hR:V9 (Store.mk (s.Vols.filter λw=>w.Id !=r.Vol) s.Arena s.Next):=by
       refine⟨?_,h.ar,h.nx,λv hv=>h.ids v (AN.1 hv).1,?_,?_,?_,h.few⟩
       ·have:=BN (λw:Vol=>w.Id !=r.Vol) s.Vols;show(s.Vols.filter λw=>w.Id !=r.Vol).length<=3;omega
       ·have:=h.asc;rw [JJ]at this⊢;exact this.filter _
       ·intro x hx;obtain⟨w,hw,rfl⟩:=AP.1 hx;exact h.root _ (AP.2 ⟨w,(AN.1 hw).1,rfl⟩)
       intro x hx;obtain⟨w,hw,rfl⟩:=AP.1 hx;exact h.lt _ (AP.2 ⟨w,(AN.1 hw).1,rfl⟩)
      rw [RX hR];refine⟨_,rfl,ABj hR,?_,rfl⟩;rw [fV hR];exact AAS s (λid=>id !=r.Vol) _ rfl rfl
     |false=>
      have n3:r.Kind≠3:=by simpa using k3
      rw [A5 n3];simp only [Ac];rw [k3]at hr;have ha:0<=r.Arg/\r.Arg<16/\0<=r.Chunk/\r.Chunk<=1000000000:=by
       cases k4:(r.Kind==4)with
       |true=>rw [k4]at hr;simp at hr;omega
       |false=>rw [k4]at hr;simp at hr;omega
      obtain⟨t,ht⟩:∃t:Nat,r.Arg=(t:Int):=⟨_,(Bl ha.1).symm⟩;rw [AC,h2];simp only [Aa];have c:=h.root _ (AP.2 ⟨v,hm,rfl⟩);rw [ht,zG _ (by have:=h.few;omega) h.ar c (by omega) ha.2.2.1];simp only [Aa];rw [Gs];have h0:=h.small;have hR:V9 (Store.mk (s.Vols.set k (Vol.mk v.Id ((s.Arena.Knots.length:Int)+1))) (Arena.mk (KA s.Arena.Knots v.Root t r.Chunk)) (max s.Next (r.Chunk+1))):=by
       have d:∀w∈s.Vols.set k (Vol.mk v.Id ((s.Arena.Knots.length:Int)+1)),w∈s.Vols\/w=Vol.mk v.Id ((s.Arena.Knots.length:Int)+1):=λw hw=>Co hw
       refine⟨by simpa using hl,AG2 h.ar c (by omega) ha.2.2.1,?_,?_,?_,?_,?_,?_⟩
       ·have:=h.nx;show 1<=max s.Next (r.Chunk+1)/\max s.Next (r.Chunk+1)<=1000000000;omega
       ·intro w hw
        rcases d w hw with hw|rfl
        ·exact h.ids w hw
        exact h.ids v hm
       ·have:(s.Vols.set k (Vol.mk v.Id ((s.Arena.Knots.length:Int)+1))).map Vol.Id=s.Vols.map Vol.Id:=by
         rw [List.map_set];show(s.Vols.map Vol.Id).set k v.Id=_;apply CE;intro j;rw [Cd];split
         ·rename_i e;subst e;rw [Bo,A3 i,Bi,h2];rfl
         rfl
        rw [this];exact h.asc
       ·intro x hx;obtain⟨w,hw,rfl⟩:=AP.1 hx
        rcases d w hw with hw|rfl
        ·exact ADG (h.root _ (AP.2 ⟨w,hw,rfl⟩))
        exact ACo
       ·intro x hx y hy;obtain⟨w,hw,rfl⟩:=AP.1 hx;show y<max s.Next (r.Chunk+1)
        rcases d w hw with hw|rfl
        ·have o:=h.root _ (AP.2 ⟨w,hw,rfl⟩);have f:y∈Fw s.Arena.Knots w.Root:=by rw [<-ABr (X:=[Cc.mk true (PD s.Arena.Knots v.Root t r.Chunk),Cc.mk false (Th s.Arena.Knots v.Root t)]) h.ar o];exact hy
         have:=h.lt _ (AP.2 ⟨w,hw,rfl⟩) y f;omega
        have f:y∈(Fw s.Arena.Knots v.Root).set t r.Chunk:=by rw [<-ABx (s:=t) (n:=r.Chunk) h.ar c (by omega)];exact hy
        rcases Co f with f|rfl
        ·have:=h.lt _ (AP.2 ⟨v,hm,rfl⟩) y f;omega
        omega
       show(KA s.Arena.Knots v.Root t r.Chunk).length<=1000;unfold KA;simp;omega
      have l:BU (Store.mk (s.Vols.set k (Vol.mk v.Id ((s.Arena.Knots.length:Int)+1))) (Arena.mk (KA s.Arena.Knots v.Root t r.Chunk)) (max s.Next (r.Chunk+1)))=yK (BU s) r.Vol t r.Chunk:=by
       unfold BU yK;simp only [FK];apply CE;intro j;rw [Bi,Bi,Cd];by_cases e:k=j
       ·subst e;rw [A3 rfl,A3 i,h2];simp only [B3,Function.comp];rw [A3 h3,ABx h.ar c (by omega)]
       rw [A5 e]
       cases hj:s.Vols[j]? with
       |none=>rfl
       |some w=>
        have p:=A6 hj;have u:w.Id≠r.Vol:=by
         intro e2;have gi:(s.Vols.map Vol.Id)[k]?=some v.Id:=by rw [Bi,h2];rfl
         have gj:(s.Vols.map Vol.Id)[j]?=some w.Id:=by rw [Bi,hj];rfl
         rcases Nf k j with q|q|q
         ·have:=Q8 h.asc q gi gj;omega
         ·exact e q
         have:=Q8 h.asc q gj gi;omega
        simp only [B3,Function.comp];rw [A5 u];have:=ABr (X:=[Cc.mk true (PD s.Arena.Knots v.Root t r.Chunk),Cc.mk false (Th s.Arena.Knots v.Root t)]) h.ar (h.root _ (AP.2 ⟨w,p,rfl⟩));unfold KA;rw [this]
      have z:∀b:Bool,b=decide (r.Chunk>=s.Next)->(bif b then((Hd (Store.mk (s.Vols.set k (Vol.mk v.Id ((s.Arena.Knots.length:Int)+1))) (Arena.mk (KA s.Arena.Knots v.Root t r.Chunk)) (ad r.Chunk 1))).bind λv11=>some (v11,true))else((Hd (Store.mk (s.Vols.set k (Vol.mk v.Id ((s.Arena.Knots.length:Int)+1))) (Arena.mk (KA s.Arena.Knots v.Root t r.Chunk)) s.Next)).bind λv12=>some (v12,true)))=(Hd (Store.mk (s.Vols.set k (Vol.mk v.Id ((s.Arena.Knots.length:Int)+1))) (Arena.mk (KA s.Arena.Knots v.Root t r.Chunk)) (max s.Next (r.Chunk+1)))).bind λv=>some (v,true):=by
       intro b hb;have:=h.nx;by_cases e:r.Chunk>=s.Next
       ·rw [hb,Ad e,Ae,CA (by omega) (by omega),show max s.Next (r.Chunk+1)=r.Chunk+1 by omega]
       rw [hb,Af e,Ac,show max s.Next (r.Chunk+1)=s.Next by omega]
      rw [z _ rfl,RX hR];refine⟨_,rfl,ABj hR,?_,rfl⟩;rw [fV hR,l,B6]
end Go.TI
