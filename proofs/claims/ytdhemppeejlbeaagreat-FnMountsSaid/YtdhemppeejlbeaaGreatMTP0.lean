/- Devices come up for the program as they were. No condition; no program is in sight. -/
import Derived.Test.YtdhemppeejlbeaaGreatMTD
set_option linter.unusedVariables false
set_option linter.unusedSimpArgs false
namespace Go.TI
open Go
def u32 (s:Int):Prop:=0<=s/\s<4294967296
theorem jN (s:Int) (hs:u32 s):∃v,Au (λs:Int×Int=>Ia s.1 s.2) (s,0)=some v/\Au (λs:Int×Int=>Ik s.1 s.2) (s,0)=some v/\u32 v:=
 SL (body:=λs:Int×Int=>Ia s.1 s.2) (body':=λs:Int×Int=>Ik s.1 s.2) (λ(s:Int) i=>(s,i)) 8 (λ_ s=>u32 s) u32
  (λs i hi hs=>by
   simp only [Ia,Ik];rw [Ad (by omega:(i:Int)<8),Af,Af,an1 hs.1 hs.2,<-zG hs.1 hs.2];refine⟨rfl,.inl ?_⟩;have hw:u32 (IntKind.u32.wrap (Int.tdiv s 2)):=by rw [IntKind.wrap_u32];constructor<;>omega
   cases Int.tmod s 2==1
   ·exact⟨_,by rw [Ac,ad1 (by omega)],hw⟩
   exact⟨_,by rw [Af,ad1 (by omega)],vN _ _⟩)
  (λs hs=>by
   simp only [Ia,Ik]
   exact⟨rfl,s,rfl,hs⟩) (s:=s) hs
theorem jM (s:Int) (t:ByteArray) (hs:u32 s) (ht:(L t).length<=9223372036854775806):∃v,Qy s t=some v/\QI s t=some v/\u32 v:=by
 obtain⟨v,h1,h2,h3⟩:=SL (body:=λs:Int×Int=>J8 t s.1 s.2) (body':=λs:Int×Int=>JK t s.1 s.2) (λ(s:Int) i=>(s,i)) (L t).length (λ_ s=>u32 s) u32
  (λs i hi hs=>by
   obtain⟨v,h1,h2,h3⟩:=jN (xr s (IntKind.u32.wrap ((L t)[i]).toNat)) (vN _ _);simp only [J8,JK];rw [Ad (by rw [BM];omega:(i:Int)<Gb t),Af,Af,EE t hi,Aa,Aa,h1,h2]
   exact⟨rfl,.inl ⟨v,by rw [Aa,ad1 (by omega)],h3⟩⟩)
  (λs hs=>by
   simp only [J8,JK];rw [Ae (by rw [BM];omega:¬((L t).length:Int)<Gb t),Ac,Ac]
   exact⟨rfl,s,rfl,hs⟩) (s:=s) hs
 unfold Qy QI;rw [h1,h2];exact⟨v,rfl,rfl,h3⟩
theorem fQ (t:ByteArray) (ht:(L t).length<=9223372036854775806):∃v,MH t=some v/\V7 t=some v/\u32 v:=by
 obtain⟨v,h1,h2,h3⟩:=jM 4294967295 t ⟨by omega,by omega⟩ ht;unfold MH V7;rw [h1,h2];exact⟨v,rfl,rfl,h3⟩
def four (v:Int):ByteArray:=Hz [(IntKind.u8.wrap (Int.fdiv v (2^(min (24:Int).toNat IntKind.u32.bits)))),(IntKind.u8.wrap (Int.fdiv v (2^(min (16:Int).toNat IntKind.u32.bits)))),(IntKind.u8.wrap (Int.fdiv v (2^(min (8:Int).toNat IntKind.u32.bits)))),(IntKind.u8.wrap v)]
theorem Tc (v:Int):(L (four v)).length=4:=by rw [four,IY];rfl
theorem oD (t:ByteArray):ST t=J9 t:=by
 unfold ST J9;by_cases h:(Gb t)>20000
 ·rw [Ad h];rfl
 rw [Ae h,Ac,Ac];rw [BM]at h;obtain⟨v,h1,h2,_⟩:=fQ t (by omega);rw [h1,h2];rfl
theorem Ud (t:ByteArray):(20000<(L t).length->J9 t=some (bs [],false))/\((L t).length<=20000->∃v,MH t=some v/\J9 t=some (t++four v,true)):=by
 unfold J9;rw [BM];refine⟨λh=>by rw [Ad (by omega),Af],λh=>?_⟩;obtain⟨v,h1,h2,_⟩:=fQ t (by omega);rw [Ae (by omega),Ac,h1];refine⟨v,rfl,?_⟩;have:Kg v=some (four v):=rfl;rw [Aa,this,Aa,G5 _ _ (by rw [Tc];omega),Aa]
theorem fO (t:ByteArray) (ht:(L t).length<=9223372036854775806):∃u ok,Kh t=some (u,ok)/\OA t=some (u,ok)/\(ok=true->(L u).length<=20000/\∃v,MH u=some v/\t=u++four v)/\(ok=false->u=bs []):=by
 unfold Kh OA;have e4:sb (Gb t) 4=((L t).length:Int)-4:=by rw [BM,C4 (by omega) (by omega)]
 rw [e4];by_cases h4:(L t).length<4
 ·rw [Ad (by omega:((L t).length:Int)-4<0),Ad (by rw [BM];omega:Gb t<4)];exact⟨bs [],false,rfl,rfl,by simp,λ_=>rfl⟩
 rw [Ae (by omega:¬((L t).length:Int)-4<0),Ae (by rw [BM];omega:¬Gb t<4)];simp only [Ac];have en:((L t).length:Int)-4=(((L t).length-4:Nat):Int):=by omega
 rw [en,BM];have b:sub t 0 (((L t).length-4:Nat):Int)=some (t.extract 0 ((L t).length-4)):=EZ t (i:=0) (by omega) (by omega);have a:sub t (((L t).length-4:Nat):Int) ((L t).length:Int)=some (t.extract ((L t).length-4) (L t).length):=EZ t (by omega) (by omega);rw [b,a];simp only [Aa];have hu:(L (t.extract 0 ((L t).length-4))).length=(L t).length-4:=by rw [HU];simp
 obtain⟨k1,k2⟩:=Ud (t.extract 0 ((L t).length-4));rw [oD];by_cases hb:20000<(L t).length-4
 ·rw [Ad (by omega:(((L t).length-4:Nat):Int)>20000),k1 (by omega)];exact⟨bs [],false,rfl,rfl,by simp,λ_=>rfl⟩
 obtain⟨v,h1,h2⟩:=k2 (by omega);rw [Ae (by omega:¬(((L t).length-4:Nat):Int)>20000),h1,h2];have h3:Kg v=some (four v):=rfl;simp only [Ac,Aa,h3,Aj];have c:seq (t.extract ((L t).length-4) (L t).length) (four v)=seq (t.extract 0 ((L t).length-4)++four v) t:=by
  rw [P3,P3,DG,HU,HU,Ee,A6,A6];have e1:List.take ((L t).length-((L t).length-4)) (List.drop ((L t).length-4) (L t))=(L t).drop ((L t).length-4):=AO (by simp);have e2:List.take ((L t).length-4-0) (List.drop 0 (L t))=(L t).take ((L t).length-4):=by simp
  rw [e1,e2];constructor
  ·intro h;rw [<-h,Bw]
  intro h;have h':(L t).take ((L t).length-4)++L (four v)=(L t).take ((L t).length-4)++(L t).drop ((L t).length-4):=by rw [Bw];exact h
  exact(List.append_cancel_left h').symm
 rw [c]
 cases hs:seq (t.extract 0 ((L t).length-4)++four v) t with
 |false=>exact⟨bs [],false,rfl,rfl,by simp,λ_=>rfl⟩
 |true=>
  rw [Kc,A6]at hs;exact⟨_,true,rfl,rfl,λ_=>⟨by omega,v,h1,hs.symm⟩,by simp⟩
theorem Jn (n:Nat) (h:n<=1099511627776):∃s,I8 (n:Int)=some s/\L s=Cv n:=by
 unfold I8;obtain⟨m,o,h1,h2,h3,h4⟩:=Zj (body:=λs:Int×List Int=>P5 s.1 s.2) (λ_ _=>rfl) n [] (by simpa using h);rw [h1,Aa];have:IntKind.u8.wrap (m:Int)=m:=by rw [IntKind.wrap_u8];omega
 rw [this,Ct (by simp only [An,Bk]at h3⊢;omega),Aa];refine⟨_,rfl,?_⟩;rw [IY,h4];simp
def vT (t:ByteArray) (at_:Int) (r:Int×Int×Bool):Prop:=
 (r.2.2=false/\r.1=0/\r.2.1=0)\/(r.2.2=true/\∃(a b n:Nat),at_=a/\r.2.1=b/\r.1=n/\a<b/\b<=(L t).length/\n<=1000000000/\Cv n=((L t).drop a).take (b-a))
theorem VX (l:List UInt8) (a k:Nat) (h:a+k<l.length):(l.drop a).take (k+1)=(l.drop a).take k++ [l[a+k]]:=by
 rw [Aq (by simp;omega),RZ]
theorem aE (k:Nat) (h:k<5):(128:Nat)^k<=268435456:=by
 have:k<=4:=by omega
 calc 128^k<=128^4:=Nat.pow_le_pow_right (by omega) this
  _=268435456:=by decide
theorem Vp:∀ds:List UInt8,EI ds<128^ds.length
 |[]=>by simp [EI]
 |d::ds=>by
  have:=Vp ds;simp only [EI,A0,Vj];omega
theorem tM (x k:Nat) (hx:x<128) (hk:k<5):shl .i64 (x:Int) (ml 7 (k:Int))=some ((x*128^k:Nat):Int):=by
 have h7:ml 7 (k:Int)=((7*k:Nat):Int):=by rw [NA (by omega) (by omega)];omega
 unfold shl;rw [h7,Ax (by omega)];have e:(2:Int)^(min ((7*k:Nat):Int).toNat IntKind.i64.bits)=((128^k:Nat):Int):=by
  have hb:IntKind.i64.bits=64:=rfl;have h128:(128:Nat)^k=2^(7*k):=by rw [Nat.pow_mul]
  rw [hb,Bc,Nat.min_eq_left (by omega),h128]
  norm_cast
 rw [e];have hp:=aE k hk;have hm:x*128^k<=128*268435456:=Yl (by omega) hp;have ec:(x:Int)*((128^k:Nat):Int)=((x*128^k:Nat):Int):=by norm_cast
 rw [ec,Ns (by omega) (by omega)]
theorem Z5 (x:Nat):Int.tmod (x:Int) 128=((x %128:Nat):Int):=rfl
theorem HT (t:ByteArray) (at_:Int) (ht:(L t).length<=4611686018427387904) (p:oI at_):∃r,Jh t at_=some r/\Jr t at_=some r/\vT t at_ r:=by
 have fails:∀(at_:Int),(at_<0\/((L t).length:Int)<=at_)->oI at_->Jr t at_=some (0,0,false):=by
  intro at_ h p;unfold Jr;rw [AA];simp only [GU];rw [Ad (by omega:(0:Int)<5),Af];by_cases h0:at_>=0
  ·rw [Ad h0,Af,BM,C4 (by omega) (by omega),Ae (by omega)];rfl
  rw [Ae h0];rfl
 by_cases h5:0<=at_/\at_<(L t).length
 ·obtain⟨a,rfl⟩:=CF h5.1;have ha:a<(L t).length:=by omega
  have h6:∀(B1:Int×Int×Int->Option ((Int×Int×Int)⊕((Unit)⊕((Int×Int×Bool))))) (B2:Int×Int->Option ((Int×Int)⊕((Unit)⊕((Int×Int×Bool))))),(∀n sc i,B1 (n,sc,i)=DH t (a:Int) n sc i)->(∀n k,B2 (n,k)=GU t (a:Int) n k)->∀(m k:Nat),k+m=5->a+k<=(L t).length->(∀d∈((L t).drop a).take k,128<=d.toNat)->
    ∃r,(Au B1 (((EI (((L t).drop a).take k):Nat):Int),((128^k:Nat):Int),((a+k:Nat):Int))=some r/\Au B2 (((EI (((L t).drop a).take k):Nat):Int),(k:Int))=some r)/\(r= .inl ()\/∃q,r= .inr q/\vT t (a:Int) q):=by
   intro B1 B2 u v m
   induction m with
   |zero=>
    intro k hk h7 hd;have f:k=5:=by omega
    subst f;refine⟨.inl (),⟨?_,?_⟩,.inl rfl⟩
    ·rw [AA];simp only [u,DH];rw [C6 (by omega) (by omega),Ae (by omega:¬((a+5:Nat):Int)<(a:Int)+5)];cases decide (((a+5:Nat):Int)<Gb t)<;>rfl
    rw [AA];simp only [v,GU];rw [Ae (by omega:¬((5:Nat):Int)<5)];rfl
   |succ m ih=>
    intro k hk h7 hd;rw [AA,AA B2];simp only [u,v,DH,GU];have f:k<5:=by omega
    rw [C6 (b:=5) (by omega) (by omega),Ad (by omega:((a+k:Nat):Int)<(a:Int)+5),Ad (by omega:(k:Int)<5),Ad (by omega:(a:Int)>=0),BM,C4 (by omega) (by omega)];by_cases w:a+k<(L t).length
    ·rw [Ad (by omega:((a+k:Nat):Int)<((L t).length:Int)),Ad (by omega:(a:Int)<((L t).length:Int)-k)];have eak:ad (a:Int) (k:Int)=((a+k:Nat):Int):=by rw [C6 (by omega) (by omega)];omega
     simp only [Af,Aa,EE t w,eak];have hx:=cF ((L t)[a+k]);have g:=VX (L t) a k w;have l:(((L t).drop a).take k).length=k:=by simp;omega
     have j:=MB (((L t).drop a).take k) [(L t)[a+k]];rw [<-g,l]at j;have h8:=Vp (((L t).drop a).take k);rw [l]at h8;have hp:=aE k f;generalize a4:(L t)[a+k]=x at hx g j;simp only [EI,Nat.mul_zero,Gd]at j;have hw:IntKind.i64.wrap (x.toNat:Int)=x.toNat:=Ns (by omega) (by omega);have a2:x.toNat %128*128^k<=127*268435456:=Yl (by omega) hp;have emul:ml ((x.toNat %128:Nat):Int) ((128^k:Nat):Int)=((x.toNat %128*128^k:Nat):Int):=by
      have ec:((x.toNat %128:Nat):Int)*((128^k:Nat):Int)=((x.toNat %128*128^k:Nat):Int):=by norm_cast
      rw [NA (by rw [ec];omega) (by rw [ec];omega),ec]
     have enew:ad (((EI (((L t).drop a).take k):Nat)):Int) ((x.toNat %128*128^k:Nat):Int)=((EI (((L t).drop a).take (k+1)):Nat):Int):=by
      rw [C6 (by omega) (by omega),j,jS (128^k)];omega
     rw [hw,Z5,tM _ k (by omega) f];simp only [Aa,emul,enew];by_cases o:x.toNat<128
     ·rw [Ad (by omega:(x.toNat:Int)<128),Ae (by omega:¬(x.toNat:Int)>=128)];simp only [Af,Ac];have ek1:ad ((a+k:Nat):Int) 1=((a+k+1:Nat):Int):=ad1 (by omega);have c:=Zi (((L t).drop a).take k) x hd o;rw [<-g]at c;have h9:(((L t).drop a).take k≠ [])↔0<k:=by
       rw [<-HV,l]
      rw [h9]at c;have y:sub t (a:Int) ((a+k+1:Nat):Int)=some (t.extract a (a+k+1)):=EZ t (by omega) (by omega);rw [ek1,y];by_cases a3:EI (((L t).drop a).take (k+1))>1000000000
      ·rw [Ad (by omega:((EI (((L t).drop a).take (k+1)):Nat):Int)>1000000000)];refine⟨.inr (0,0,false),⟨rfl,?_⟩,.inr ⟨_,rfl,.inl ⟨rfl,rfl,rfl⟩⟩⟩;cases(x.toNat:Int)==0
       ·rfl
       cases decide ((k:Int)>0)<;>rfl
      rw [Ae (by omega:¬((EI (((L t).drop a).take (k+1)):Nat):Int)>1000000000)];obtain⟨s,a0,a1⟩:=Jn (EI (((L t).drop a).take (k+1))) (by omega);simp only [Ac,Aa,a0];have z:seq s (t.extract a (a+k+1))=decide (¬(x.toNat=0/\0<k)):=by
       rw [P3,a1,HU,show a+k+1-a=k+1 by omega,Ee,A6,A6];exact c
      rw [z];by_cases hz:x.toNat=0/\0<k
      ·rw [Ae (λe=>e hz)];refine⟨.inr (0,0,false),⟨rfl,?_⟩,.inr ⟨_,rfl,.inl ⟨rfl,rfl,rfl⟩⟩⟩;have:((x.toNat:Int)==0)=true:=by rw [hz.1];rfl
       rw [this,Ad (by omega:(k:Int)>0)];rfl
      rw [Ad hz];refine⟨.inr (((EI (((L t).drop a).take (k+1)):Nat):Int),((a+k+1:Nat):Int),true),⟨rfl,?_⟩,.inr ⟨_,rfl,.inr ⟨rfl,a,a+k+1,_,rfl,rfl,rfl,by omega,by omega,by omega,?_⟩⟩⟩
      ·by_cases h4:x.toNat=0
       ·have:((x.toNat:Int)==0)=true:=by rw [h4];rfl
        rw [this,Ae (by omega:¬(k:Int)>0)];rfl
       have:((x.toNat:Int)==0)=false:=by simpa using h4
       rw [this];rfl
      rw [show a+k+1-a=k+1 by omega];exact c.2 hz
     rw [Ae (by omega:¬(x.toNat:Int)<128),Ad (by omega:(x.toNat:Int)>=128)];simp only [Af,Ac];have e1:ml ((128^k:Nat):Int) 128=((128^(k+1):Nat):Int):=by
      rw [NA (by omega) (by omega),Vj];norm_cast
     have e2:ad ((a+k:Nat):Int) 1=((a+(k+1):Nat):Int):=ad1 (by omega);have e3:ad (k:Int) 1=((k+1:Nat):Int):=ad1 (by omega);rw [e1,e2,e3]
     exact ih (k+1) (by omega) (by omega) (by
      rw [g];intro d hd'
      rcases Ai.1 hd' with hd'|hd'
      ·exact hd d hd'
      simp at hd';subst hd';omega)
    rw [Ae (by omega:¬((a+k:Nat):Int)<((L t).length:Int)),Ae (by omega:¬(a:Int)<((L t).length:Int)-k)];exact⟨.inl (),⟨rfl,rfl⟩,.inl rfl⟩
  obtain⟨r,⟨h1,h2⟩,h3⟩:=h6 (λs=>DH t (a:Int) s.1 s.2.1 s.2.2) (λs=>GU t (a:Int) s.1 s.2) (λ_ _ _=>rfl) (λ_ _=>rfl) 5 0 rfl (by omega) (by simp);unfold Jh Jr;have hw:BY (a:Int) 0 (Gb t)=some true:=by
   unfold BY;rw [Ad (by omega:(a:Int)>=0),Af,BM,Ad (by omega)]
  rw [hw];simp only [Aa,Aj,Ac];simp only [It,EI,Nat.pow_zero,Gd]at h1 h2;rw [show((0:Nat):Int)=0 from rfl,show((1:Nat):Int)=1 from rfl]at h1;rw [show((0:Nat):Int)=0 from rfl]at h2;rw [h1,h2]
  rcases h3 with rfl|⟨q,rfl,h3⟩
  ·exact⟨_,rfl,rfl,.inl ⟨rfl,rfl,rfl⟩⟩
  exact⟨q,rfl,rfl,h3⟩
 have hf:=fails at_ (by omega) p;refine⟨(0,0,false),?_,hf,.inl ⟨rfl,rfl,rfl⟩⟩;unfold Jh;by_cases h0:0<=at_/\at_<=(L t).length
 ·have hw:BY at_ 0 (Gb t)=some true:=by
   unfold BY;rw [Ad (by omega:at_>=0),Af,BM,Ad (by omega)]
  rw [hw];simp only [Aa,Aj,Ac];rw [AA];simp only [DH];rw [Ae (by rw [BM];omega:¬at_<Gb t)];rfl
 have hw:BY at_ 0 (Gb t)=some false:=by
  unfold BY;by_cases h1:at_>=0
  ·rw [Ad h1,Af,BM,Ae (by omega)]
  rw [Ae h1,Ac]
 rw [hw];rfl
theorem eZ:IE=BY:=rfl
variable {r n x:Int} {R:List Int} {i s j:Nat} {α γ:Type} {p:Nat->Bool} {l:List α}
theorem DK {i:Int} {x:α} (h:gi l i=some x):0<=i/\l[i.toNat]?=some x:=by
 unfold gi at h;split at h
 ·exact⟨by assumption,h⟩
 cases h
theorem i8:QM=Hh:=by
 have h2:LF=FE:=by
  funext x y;unfold LF FE
  cases decide (y<ln x.Leaves)with
  |false=>rfl
  |true=>
   simp only [Af]
   cases gi x.Leaves y with
   |none=>rfl
   |some z=>rfl
 funext f;unfold QM Hh;have:LG f=FG f:=by
  funext i;unfold LG FG;rw [h2];rfl
 rw [this];rfl
def bM (f:Flash):Prop:=f.Blocks.length<=1048576/\∀b∈f.Blocks,b.Leaves.length<=1048576
theorem WQ (x a b:Int):BY x a b=some (decide (a<=x)&&decide (x<=b)):=by
 unfold BY;by_cases h:x>=a
 ·rw [Ad h,Af,CH]
 rw [Ae h,Ac,Bool.false_and]
theorem Ug (p:Page):∃v,JD p=some v/\SX p=some v/\(v=true->(p.Kind=1\/p.Kind=2)/\(1<=p.Seq/\p.Seq<=1000000000)/\(1<=p.Tx/\p.Tx<=1000000000)/\(1<=p.Count/\p.Count<=9)/\(0<=p.Part/\p.Part<p.Count)/\Gb p.Text<=90):=by
 unfold JD SX;rw [eZ];simp only [WQ,Aa];by_cases h1:1<=p.Seq/\p.Seq<=1000000000
 ·by_cases h2:1<=p.Tx/\p.Tx<=1000000000
  ·by_cases h3:1<=p.Count/\p.Count<=9
   ·have e:sb p.Count 1=p.Count-1:=C4 (by omega) (by omega);rw [e];by_cases h4:0<=p.Part/\p.Part<=p.Count-1
    ·by_cases h5:Gb p.Text>90
     ·refine⟨false,?_,?_,by simp⟩
      ·cases hk:(decide (1<=p.Kind)&&decide (p.Kind<=2))<;>simp [h1,h2,h3,h4,h5]
      simp [h1,h2,h3,h4,h5]
     by_cases k2:p.Kind=2
     ·exact⟨true,by simp [h1,h2,h3,h4,h5,k2],by simp [h1,h2,h3,h4,h5,k2],λ_=>⟨.inr k2,h1,h2,h3,⟨h4.1,by omega⟩,by omega⟩⟩
     by_cases k1:p.Kind=1
     ·exact⟨p.Count==1,by simp [h1,h2,h3,h4,h5,k1],by simp [h1,h2,h3,h4,h5,k1],λ_=>⟨.inl k1,h1,h2,h3,⟨h4.1,by omega⟩,by omega⟩⟩
     have hk:(decide (1<=p.Kind)&&decide (p.Kind<=2))=false:=by
      rw [Ea,AX,AX];omega
     have e1:(p.Kind==1)=false:=by simpa using k1
     have e2:(p.Kind==2)=false:=by simpa using k2
     exact⟨false,by simp [hk],by simp [h1,h2,h3,h4,h5,e1,e2],by simp⟩
    have e4:(decide (0<=p.Part)&&decide (p.Part<=p.Count-1))=false:=by
     rw [Ea,AX,AX];omega
    refine⟨false,?_,?_,by simp⟩
    ·cases hk:(decide (1<=p.Kind)&&decide (p.Kind<=2))<;>simp [h1,h2,h3,e4]
    simp [h1,h2,h3,e4]
   have e3:(decide (1<=p.Count)&&decide (p.Count<=9))=false:=by
    rw [Ea,AX,AX];omega
   refine⟨false,?_,?_,by simp⟩
   ·cases hk:(decide (1<=p.Kind)&&decide (p.Kind<=2))<;>simp [h1,h2,e3]
   simp [h1,h2,e3]
  have e2:(decide (1<=p.Tx)&&decide (p.Tx<=1000000000))=false:=by
   rw [Ea,AX,AX];omega
  refine⟨false,?_,?_,by simp⟩
  ·cases hk:(decide (1<=p.Kind)&&decide (p.Kind<=2))<;>simp [h1,e2]
  simp [h1,e2]
 have e1:(decide (1<=p.Seq)&&decide (p.Seq<=1000000000))=false:=by
  rw [Ea,AX,AX];omega
 refine⟨false,?_,?_,by simp⟩
 ·cases hk:(decide (1<=p.Kind)&&decide (p.Kind<=2))<;>simp [e1]
 simp [e1]
def YP:Page:=Page.mk 0 0 0 0 0 (bs [])
theorem GT (u:ByteArray) (a:Int) (hu:(L u).length<=20000) (ha:oI a):Do (Ej.mk u a true)=some (0,Ej.mk u a true):=by
 obtain⟨r,h1,_,_⟩:=HT u a (by omega) ha;unfold Do;simp only [h1,Aa,Af]
theorem Jm {r:Int×Int×Bool} (u:ByteArray) (a:Int) (hu:(L u).length<=20000) (h:Jh u a=some r):Do (Ej.mk u a false)=some (bif r.2.2 then(r.1,Ej.mk u r.2.1 false)else(0,Ej.mk u a true)):=by
 unfold Do;simp only [h,Aa,Ac];cases r.2.2<;>rfl
theorem OQ {a b:Nat} (l:List UInt8) (h:a<=b):l.drop a=(l.drop a).take (b-a)++l.drop b:=by
 have:=(Bw (b-a) (l.drop a)).symm;rw [CB,show a+(b-a)=b by omega]at this;exact this
theorem UT (p:Page) (u:ByteArray) (k:UInt8) (n1 n2 n3 n4:Nat) (hp:JD p=some true) (hk:p.Kind=(k.toNat:Int)) (h1:p.Seq=n1) (h2:p.Tx=n2) (h3:p.Part=n3) (h4:p.Count=n4) (b1:n1<=1000000000) (b2:n2<=1000000000) (b3:n3<=1000000000) (b4:n4<=1000000000) (hu:(L u).length<=20000) (e:L u=[k]++Cv n1++Cv n2++Cv n3++Cv n4++L p.Text):EQ p=J9 u:=by
 obtain⟨s1,q1,r1⟩:=Jn n1 (by omega);obtain⟨s2,q2,r2⟩:=Jn n2 (by omega);obtain⟨s3,q3,r3⟩:=Jn n3 (by omega);obtain⟨s4,q4,r4⟩:=Jn n4 (by omega);have hl:=BR List.length e;simp only [Ah,An]at hl;have hb:LN p.Kind=some (Hz [IntKind.u8.wrap p.Kind]):=rfl;have a:L (Hz [IntKind.u8.wrap p.Kind])=[k]:=by
  rw [IY,hk,IntKind.wrap_u8];have:=cF k;have e2:((k.toNat:Int) %256).toNat=k.toNat:=by omega
  simp only [BZ,jT,e2,UInt8.ofNat_toNat]
 unfold EQ;rw [hp];simp only [Aa,Aj,Ac,hb,h1,h2,h3,h4,q1,q2,q3,q4];rw [G5 _ _ (by rw [a,r1];simp only [An];omega),Aa];rw [G5 _ _ (by rw [DG,a,r1,r2];simp only [Ah,An];omega),Aa];rw [G5 _ _ (by rw [DG,DG,a,r1,r2,r3];simp only [Ah,An];omega),Aa];rw [G5 _ _ (by rw [DG,DG,DG,a,r1,r2,r3,r4];simp only [Ah,An];omega),Aa];rw [G5 _ _ (by rw [DG,DG,DG,DG,a,r1,r2,r3,r4];simp only [Ah,An];omega),Aa];have:Hz [IntKind.u8.wrap p.Kind]++s1++s2++s3++s4++p.Text=u:=by
  apply I1;rw [DG,DG,DG,DG,DG,a,r1,r2,r3,r4,e]
 rw [this]
 cases J9 u with
 |none=>rfl
 |some v=>rfl
theorem Jv (t:ByteArray) (ht:(L t).length<=9223372036854775806):∃p ok,EP t=some (p,ok)/\OE t=some (p,ok)/\(ok=false->p=YP)/\(ok=true->JD p=some true):=by
 obtain⟨u,uok,k,m,n,o⟩:=fO t ht;unfold EP OE;rw [k,m];simp only [Aa];have o1:oI 1:=⟨by omega,by omega⟩
 cases uok with
 |false=>
  have:=o rfl;subst this;have hz:(L (bs [])).length<=20000:=by rw [El];simp
  simp only [AJ,Af,Aa,GT _ _ hz o1];exact⟨YP,false,rfl,rfl,λ_=>rfl,by simp⟩
 |true=>
  obtain⟨f,v,hv,q⟩:=n rfl;simp only [Aj,Ac,Aa];by_cases he:(L u).length<1
  ·have h:seq u (bs [])=true:=by
    rw [P3,A6,El];exact A9 (by omega)
   rw [Ad (by rw [BM];omega:Gb u<1),h];simp only [Af,GT _ _ f o1,Aa];exact⟨YP,false,rfl,rfl,λ_=>rfl,by simp⟩
  have h:seq u (bs [])=false:=by
   rw [P3,AX,El];intro e;rw [e]at he;simp at he
  rw [Ae (by rw [BM];omega:¬Gb u<1),h];simp only [Ac];have four_:∀(B:Int×Int×Int×Int×Int×Int->Option ((Int×Int×Int×Int×Int×Int)⊕((Int×Int×Int×Int×Int)⊕((Page×Bool))))),(∀x y a b c d,B (x,y,a,b,c,d)=Ev (u,true) x y a b c d)->
    ∃(a:Int) (m1 m2 m3 m4:Int) (bad:Bool),(∃c1 c2 c3,Do (Ej.mk u 1 false)=some (m1,c1)/\Do c1=some (m2,c2)/\Do c2=some (m3,c3)/\Do c3=some (m4,Ej.mk u a bad))/\
     Au B (1,0,0,0,0,0)=some (bif bad then .inr (YP,false)else .inl (a,m1,m2,m3,m4))/\(bad=false->∃(a1 a2 a3 a4 n1 n2 n3 n4:Nat),m1=n1/\m2=n2/\m3=n3/\m4=n4/\a=a4/\1<a1/\a1<a2/\a2<a3/\a3<a4/\a4<=(L u).length/\n1<=1000000000/\n2<=1000000000/\n3<=1000000000/\n4<=1000000000/\
      Cv n1=((L u).drop 1).take (a1-1)/\Cv n2=((L u).drop a1).take (a2-a1)/\Cv n3=((L u).drop a2).take (a3-a2)/\Cv n4=((L u).drop a3).take (a4-a3)):=by
   intro B hB;obtain⟨r1,p1,q1,w1⟩:=HT u 1 (by omega) o1;have g1:=Jm u 1 f p1;rw [AA,hB];unfold Ev;rw [Ad (by omega:(0:Int)<4),Af,q1,Aa]
   rcases w1 with⟨w1,w2,w3⟩|⟨w1,a0',a1,n1,z0,z1,z2,z3,z4,z5,z6⟩
   ·rw [w1]at g1⊢;exact⟨1,0,0,0,0,true,⟨_,_,_,g1,GT u 1 f o1,GT u 1 f o1,GT u 1 f o1⟩,rfl,by simp⟩
   have ea0:a0'=1:=by omega
   subst ea0;rw [w1]at g1⊢;have x1:oI r1.2.1:=⟨by omega,by omega⟩;simp only [Aj,Ac,Af]at g1⊢;rw [show((0:Int)==0)=true from rfl,Af,show ad 0 1=1 from ad1 (i:=0) (by omega)];simp only;obtain⟨r2,p2,q2,y1⟩:=HT u r1.2.1 (by omega) x1;have g2:=Jm u r1.2.1 f p2;rw [AA,hB];unfold Ev;rw [Ad (by omega:(1:Int)<4),Af,q2,Aa]
   rcases y1 with⟨y1,_,_⟩|⟨y1,b0,a2,n2,y2,y3,y4,y5,y6,y7,y8⟩
   ·rw [y1]at g2⊢;exact⟨r1.2.1,r1.1,0,0,0,true,⟨_,_,_,g1,g2,GT u _ f x1,GT u _ f x1⟩,rfl,by simp⟩
   have eb:b0=a1:=by omega
   subst eb;rw [y1]at g2⊢;have x2:oI r2.2.1:=⟨by omega,by omega⟩;simp only [Aj,Ac,Af]at g2⊢;rw [show((1:Int)==0)=false from rfl,Ac,show((1:Int)==1)=true from rfl,Af,show ad 1 1=2 from ad1 (i:=1) (by omega)];simp only;obtain⟨r3,p3,q3,k1⟩:=HT u r2.2.1 (by omega) x2;have g3:=Jm u r2.2.1 f p3;rw [AA,hB];unfold Ev;rw [Ad (by omega:(2:Int)<4),Af,q3,Aa]
   rcases k1 with⟨k1,_,_⟩|⟨k1,c0,a3,n3,k2,k3,k4,k5,k6,k7,k8⟩
   ·rw [k1]at g3⊢;exact⟨r2.2.1,r1.1,r2.1,0,0,true,⟨_,_,_,g1,g2,g3,GT u _ f x2⟩,rfl,by simp⟩
   have ec:c0=a2:=by omega
   subst ec;rw [k1]at g3⊢;have x3:oI r3.2.1:=⟨by omega,by omega⟩;simp only [Aj,Ac,Af]at g3⊢;rw [show((2:Int)==0)=false from rfl,Ac,show((2:Int)==1)=false from rfl,Ac,show((2:Int)==2)=true from rfl,Af,show ad 2 1=3 from ad1 (i:=2) (by omega)];simp only;obtain⟨r4,p4,q4,l1⟩:=HT u r3.2.1 (by omega) x3;have g4:=Jm u r3.2.1 f p4;rw [AA,hB];unfold Ev;rw [Ad (by omega:(3:Int)<4),Af,q4,Aa]
   rcases l1 with⟨l1,_,_⟩|⟨l1,d0,a4,n4,l2,l3,l4,l5,l6,l7,l8⟩
   ·rw [l1]at g4⊢;exact⟨r3.2.1,r1.1,r2.1,r3.1,0,true,⟨_,_,_,g1,g2,g3,g4⟩,rfl,by simp⟩
   have ed:d0=a3:=by omega
   subst ed;rw [l1]at g4⊢;simp only [Aj,Ac,Af]at g4⊢;rw [show((3:Int)==0)=false from rfl,Ac,show((3:Int)==1)=false from rfl,Ac,show((3:Int)==2)=false from rfl,Ac,show((3:Int)==3)=true from rfl,Af,show ad 3 1=4 from ad1 (i:=3) (by omega)];simp only;rw [AA,hB];unfold Ev;rw [Ae (by omega:¬(4:Int)<4),Ac];exact⟨r4.2.1,r1.1,r2.1,r3.1,r4.1,false,⟨_,_,_,g1,g2,g3,g4⟩,rfl,λ_=>⟨b0,c0,d0,a4,n1,n2,n3,n4,z2,y4,k4,l4,l3,z3,y5,k5,l5,l6,z5,y7,k7,l7,z6,y8,k8,l8⟩⟩
  obtain⟨a,m1,m2,m3,m4,bad,⟨c1,c2,c3,f1,f2,f3,f4⟩,f5,f6⟩:=four_ (λs:Int×Int×Int×Int×Int×Int=>Ev (u,true) s.1 s.2.1 s.2.2.1 s.2.2.2.1 s.2.2.2.2.1 s.2.2.2.2.2) (λ_ _ _ _ _ _=>rfl);rw [f5];simp only [f1,f2,f3,f4,Aa]
  cases bad with
  |true=>exact⟨YP,false,rfl,rfl,λ_=>rfl,by simp⟩
  |false=>
   obtain⟨a1,a2,a3,a4,n1,n2,n3,n4,rfl,rfl,rfl,rfl,rfl,i1,i2,i3,i4,i5,j1,j2,j3,j4,s1,s2,s3,s4⟩:=f6 rfl;simp only [Ac,Aa,B6];have r:sx u 0=some (((L u)[0]'(by omega)).toNat:Int):=EE u (i:=0) (by omega);have j:sub u (a4:Int) (Gb u)=some (u.extract a4 (L u).length):=by rw [BM];exact EZ u (by omega) (by omega)
   rw [r,j];simp only [Aa];have hk:=cF ((L u)[0]'(by omega));have hw:IntKind.i64.wrap (((L u)[0]'(by omega)).toNat:Int)=((L u)[0]'(by omega)).toNat:=Ns (by omega) (by omega);rw [hw];obtain⟨po,po1,po2,_⟩:=Ug (Page.mk (((L u)[0]'(by omega)).toNat:Int) n1 n2 n3 n4 (u.extract a4 (L u).length));rw [po2];simp only [Aa]
   cases po with
   |false=>
    have:EQ (Page.mk (((L u)[0]'(by omega)).toNat:Int) n1 n2 n3 n4 (u.extract a4 (L u).length))=some (bs [],false):=by
     unfold EQ;rw [po1];rfl
    rw [this];exact⟨YP,false,rfl,rfl,λ_=>rfl,by simp⟩
   |true=>
    have hT:L (u.extract a4 (L u).length)=(L u).drop a4:=by
     rw [HU];exact AO (by simp)
    have g:L u=[(L u)[0]'(by omega)]++Cv n1++Cv n2++Cv n3++Cv n4++L (u.extract a4 (L u).length):=by
     rw [hT,s1,s2,s3,s4];have h0:L u=[(L u)[0]'(by omega)]++(L u).drop 1:=by
      have:=Bi (l:=L u) (i:=0) (by omega);simpa using this
     have d1:=OQ (L u) (a:=1) (b:=a1) (by omega);have d2:=OQ (L u) (a:=a1) (b:=a2) (by omega);have d3:=OQ (L u) (a:=a2) (b:=a3) (by omega);have d4:=OQ (L u) (a:=a3) (b:=a4) (by omega);simp only [Ao];rw [<-d4,<-d3,<-d2,<-d1];exact h0
    rw [UT _ u ((L u)[0]'(by omega)) n1 n2 n3 n4 po1 rfl rfl rfl rfl rfl j1 j2 j3 j4 f g];obtain⟨v',hv',hs'⟩:=(Ud u).2 f;rw [hv]at hv'
    injection hv' with hv'
    subst hv';rw [hs',Aa];have:seq (u++four v) t=true:=by rw [Kc,A6];exact q.symm
    simp only [Aj,Ac,Aa,this];exact⟨_,true,rfl,rfl,by simp,λ_=>po1⟩
def nl (l:List Block):Nat:=(l.map λb=>b.Leaves.length).sum
def PU (f:Flash) (y:A4):Prop:=∃b x,gi f.Blocks y.Block=some b/\gi b.Leaves y.Leaf=some x/\(x.Is==1)=true/\EP x.Text=some (y.Page,true)
theorem UR {k:Nat} {b:Block} {x:Leaf} (f:Flash) (hf:bM f) (hb:f.Blocks[i]?=some b) (hx:b.Leaves[k]?=some x):Ok f i k=some (bif x.Is==1 then(x.Text,true)else(bs [],false)):=by
 have h1:=(Ag.1 hb).1;have h2:=(Ag.1 hx).1;have h3:=hf.1;have h4:=hf.2 b (A7 hb);unfold Ok;rw [C4 (by rw [BW];omega) (by rw [BW];omega),WQ,BW,Ad (by omega:(0:Int)<=(i:Int)),Ad (by omega:(i:Int)<=(f.Blocks.length:Int)-1)];simp only [Aa,H3,Aj,Ac,AB,hb];rw [C4 (by rw [BW];omega) (by rw [BW];omega),WQ,BW,Ad (by omega:(0:Int)<=(k:Int)),Ad (by omega:(k:Int)<=(b.Leaves.length:Int)-1)];simp only [Aa,H3,Aj,Ac,hx]
 cases h:x.Is==1 with
 |true=>
  have:(x.Is !=1)=false:=by simp [bne,h]
  simp [this]
 |false=>
  have:(x.Is !=1)=true:=by simp [bne,h]
  simp [this]
theorem RO (f:Flash) (hf:bM f) (hT:∀b∈f.Blocks,∀x∈b.Leaves,(L x.Text).length<=1048576) (hn:nl f.Blocks<=1048576):
  ∃X,Au (λs:List A4×Int=>Es f s.1 s.2) ([],0)=some X/\Au (λs:Int×List A4=>Ip f s.1 s.2) (0,[])=some X/\X.length<=nl f.Blocks/\∀y∈X,PU f y:=by
 refine SI (body:=λs:List A4×Int=>Es f s.1 s.2) (body':=λs:Int×List A4=>Ip f s.1 s.2) (λs i=>(s,i)) (λs i=>(i,s)) f.Blocks.length (λi a=>a.length<=((f.Blocks.take i).map λb=>b.Leaves.length).sum/\∀y∈a,PU f y) (λX=>X.length<=nl f.Blocks/\∀y∈X,PU f y) ?_ ?_ (s:=[]) ⟨by simp,by simp⟩
 ·intro a i hi ⟨c,d⟩;have hb:f.Blocks[i]?=some f.Blocks[i]:=Ab hi;have hm:f.Blocks[i]∈f.Blocks:=AC _;have j:=Px (λb:Block=>b.Leaves.length) f.Blocks i hi;have l:=MC (λb:Block=>b.Leaves.length) f.Blocks (i+1);unfold nl at hn;have m:=hf.1;refine .inl ?_;simp only [Es,Ip,AG,Ad hi,Af,AB,hb,Aa];obtain⟨u,q1,q2,q3⟩:=SI (body:=λs:List A4×Int=>EG f (i:Int) s.1 s.2) (body':=λs:Int×List A4=>JL (i:Int) f.Blocks[i] s.1 s.2) (λs i=>(s,i)) (λs i=>(i,s)) f.Blocks[i].Leaves.length (λk u=>u.length<=a.length+k/\∀y∈u,PU f y) (λu=>u.length<=a.length+f.Blocks[i].Leaves.length/\∀y∈u,PU f y)
   (λu k hk hu=>by
    have hx:f.Blocks[i].Leaves[k]?=some f.Blocks[i].Leaves[k]:=Ab hk;have g:f.Blocks[i].Leaves[k]∈f.Blocks[i].Leaves:=AC _;have n:=hf.2 _ hm
    have h:∀y:A4,ap 72 u [y]=some (u++ [y]):=λy=>Ct (by simp only [An];omega)
    refine .inl ?_;obtain⟨p,ok,r1,r2,r3,r4⟩:=Jv f.Blocks[i].Leaves[k].Text (by have:=hT _ hm _ g;omega);simp only [EG,JL,AG,Ad hk,Af,AB,hb,hx,Aa,UR f hf hb hx,r2,h];have o:=hu.1
    cases e:f.Blocks[i].Leaves[k].Is==1 with
    |false=>
     obtain⟨p',ok',t1,_⟩:=Jv (bs []) (by rw [El];simp);simp only [Ac,Aa,t1];refine⟨u,by rw [ad1 (by omega)],by cases ok<;>(simp only [Af,Ac,Aa];rw [ad1 (by omega)]),by omega,hu.2⟩
    |true=>
     simp only [Af,Aa,r1]
     cases ok with
     |false=>exact⟨u,by simp only [Ac];rw [ad1 (by omega)],by simp only [Ac,Aa];rw [ad1 (by omega)],by omega,hu.2⟩
     |true=>
      refine⟨u++ [A4.mk i k p],by simp only [Af];rw [ad1 (by omega)],by simp only [Af,Aa];rw [ad1 (by omega)],by simp only [Ah,An];omega,λy hy=>?_⟩
      rcases Ai.1 hy with hy|hy
      ·exact hu.2 y hy
      rw [Ay]at hy;subst hy
      exact⟨_,_,by simp only [AB];exact hb,by simp only [AB];exact hx,e,r1⟩)
   (λu hu=>⟨u,by simp only [EG,AB,hb,Aa,AG,Ap,Av,Ac],by simp only [JL,AG,Ap,Av,Ac],hu⟩) (s:=a) ⟨by omega,d⟩
  rw [q1,q2];simp only [Aa];rw [ad1 (by omega)];exact⟨u,rfl,rfl,by omega,q3.2⟩
 intro a ⟨c,d⟩;refine⟨a,by simp only [Es,AG,Ap,Av,Ac],by simp only [Ip,AG,Ap,Av,Ac],?_,d⟩;rw [AP]at c;exact c
theorem bC {l:List γ} {i j:Int} {x y:γ} (h:gi l j=some y):∃z,gi (si l i x) j=some z:=by
 obtain⟨h1,h2⟩:=DK h;have:=(Ag.1 h2).1;unfold gi;rw [Aw h1];exact⟨_,Ab (by simp only [si,Hp];exact this)⟩
theorem gF (l:List A4) (k:Int):JA l k=(Bn (M8 BQ) 0 k l).map (Sum.map (λs=>(s.2,s.1)) id):=by
 unfold JA Bn oO gE
 cases hk:decide (k>0)with
 |false=>rfl
 |true=>
  simp only [Af]
  cases h1:gi l (sb k 1)with
  |none=>cases h2:gi l k<;>simp
  |some x=>
   cases h2:gi l k with
   |none=>simp
   |some y=>
    simp only [Aa];have e:(decide (x.Page.Seq>y.Page.Seq))=M8 BQ y x:=rfl;rw [e]
    cases M8 BQ y x with
    |false=>rfl
    |true=>
     simp only [Af,h1,h2,Aa];obtain⟨z,hz⟩:=bC (i:=k) (x:=x) h1;rw [hz];rfl
theorem tI {l l':List γ} {i j:Int} (h:gE l i j=some l'):l'.length=l.length:=by
 unfold gE at h;obtain⟨x,_,h⟩:=Ar.1 h;obtain⟨y,_,h⟩:=Ar.1 h
 injection h with h
 subst h;simp [si]
theorem uU {a j:Int} {l r:List A4} (h:Au (λs:Int×List A4=>Bn (M8 BQ) a s.1 s.2) (j,l)=some r):r.length=l.length:=by
 refine nF (λs:Int×List A4=>s.2.length=l.length) (λr=>r.length=l.length) ?_ ?_ (s:=(j,l)) rfl h
 ·rintro⟨j,m⟩ s' hm hb;simp only [Bn]at hb;obtain⟨c,_,hb⟩:=Ar.1 hb
  cases c with
  |false=>cases hb
  |true=>
   simp only [Af]at hb;obtain⟨m',h1,hb⟩:=Ar.1 hb
   injection hb with hb
   injection hb with hb
   subst hb;exact(tI h1).trans hm
 rintro⟨j,m⟩ b hm hb;simp only [Bn]at hb;obtain⟨c,_,hb⟩:=Ar.1 hb
 cases c with
 |false=>
  simp only [Ac]at hb
  injection hb with hb
  injection hb with hb
  subst hb;exact hm
 |true=>
  simp only [Af]at hb;obtain⟨m',h1,hb⟩:=Ar.1 hb;cases hb
theorem jP (f:Flash) (hf:bM f) (hT:∀b∈f.Blocks,∀x∈b.Leaves,(L x.Text).length<=1048576) (hn:nl f.Blocks<=1048576):
  ∃r,Ft f=some r/\Jq f=some r/\r.length<=nl f.Blocks/\(∀y∈r,PU f y)/\Ri BQ r:=by
 obtain⟨X,h1,h2,h3,h4⟩:=RO f hf hT hn;obtain⟨r,h5,h6,h7⟩:=Y2 BQ X (by omega);obtain⟨r',h8,h9,h10⟩:=Ih BQ [] X [] (by simp only [Bk];omega);have hr:r'=r:=Ob BQ h9 h6 (λk=>by rw [h7 k,<-h10 k]);subst hr;refine⟨r',?_,?_,?_,?_,h6⟩
 ·unfold Ft;rw [h1,Aa];simp only [A5,Az,Bk,Ht]at h8;unfold BO at h8;rw [show ad ((0:Nat):Int) 1=1 from rfl]at h8;have hc:Au (λs:List A4×Int=>JB s.1 s.2) (X,1)=Au (λs:Int×List A4=>Bs (M8 BQ) ((0:Nat):Int) (X.length:Int) s.1 s.2) (1,X):=by
   refine eC (body:=λs:Int×List A4=>Bs (M8 BQ) ((0:Nat):Int) (X.length:Int) s.1 s.2) (body':=λs:List A4×Int=>JB s.1 s.2) (λs=>(s.2,s.1)) (λs=>s.2.length=X.length) ?_ ?_ (1,X) rfl
   ·rintro⟨j,m⟩ hm;simp only at hm;simp only [JB,Bs,BW,hm]
    cases decide (j<(X.length:Int))with
    |false=>rfl
    |true=>
     simp only [Af];rw [iL (body:=λs:Int×List A4=>Bn (M8 BQ) ((0:Nat):Int) s.1 s.2) (body':=λs:List A4×Int=>JA s.1 s.2) (λs=>(s.2,s.1)) (λs=>gF s.2 s.1) (j,m)];cases Au (λs:Int×List A4=>Bn (M8 BQ) ((0:Nat):Int) s.1 s.2) (j,m)<;>rfl
   rintro⟨j,m⟩ s' hm hb;simp only [Bs]at hb
   cases hc:decide (j<(X.length:Int))with
   |false=>rw [hc,Ac]at hb;cases hb
   |true=>
    rw [hc,Af]at hb;obtain⟨m',h1,hb⟩:=Ar.1 hb
    injection hb with hb
    injection hb with hb
    subst hb;exact(uU h1).trans hm
  rw [hc];exact h8
 ·unfold Jq;rw [h2,Aa,h5];rfl
 ·rw [<-h7.len];exact h3
 exact λy hy=>h4 y ((h7.mem).1 hy)
theorem Mu {S:Type} {body:S->Option (S⊕List α)} (a:List α->Int->S) (g:Nat->α->α) (l0:List α) (h1:∀(i:Nat) (l:List α) x,l.length=l0.length->l[i]?=some x->l0[i]?=some x->body (a l (i:Nat))=some (.inl (a (l.set i (g i x)) ((i+1:Nat):Int)))) (h2:∀l:List α,l.length=l0.length->body (a l (l0.length:Nat))=some (.inr l)):Au body (a l0 0)=some (l0.mapIdx g):=by
 obtain⟨b,h3,h4⟩:=Bg (body:=body) a l0.length (λi l=>l.length=l0.length/\∀j,l[j]?=if j<i then(l0[j]?).map (g j)else l0[j]?) (λb=>b=l0.mapIdx g)
  (λl i hi hs=>by
   obtain⟨hl,hs⟩:=hs;have c:l0[i]?=some l0[i]:=Ab hi;have hx:l[i]?=some l0[i]:=by rw [hs,Ax (Ap _),c]
   refine .inl ⟨_,h1 i l _ hl hx c,by rw [Hp,hl],λj=>?_⟩;rw [Ci];by_cases e:i=j
   ·subst e;rw [Aw rfl,Aw (by omega),Aw (by omega),c];rfl
   rw [Ax e,hs];by_cases h:j<i
   ·rw [Aw h,Aw (by omega)]
   rw [Ax h,Ax (by omega)])
  (λl hs=>⟨l,h2 l hs.1,by
   apply C7;intro j;rw [hs.2,JR];by_cases h:j<l0.length
   ·rw [Aw h]
   rw [Ax h,D1 (by omega)]
   rfl⟩) (s:=l0) ⟨rfl,λj=>by rw [Ax (by omega)]⟩
 rw [h3,h4]
abbrev Ks:=List BI
def dk:BI:=BI.mk true []
def BD (K:Ks) (i:Int):BI:=(gi K i).getD dk
def JQ (k:BI) (j:Nat):Int:=(k.Kids[j]?).getD 0
def NC (K:Ks) (i:Nat) (leaf:Bool) (n:Int):Bool:=bif leaf then decide (0<=n)else(n== -1||(decide (0<=n/\n<=(i:Int)-1)&&(BD K n).Leaf))
def CU (K:Ks):Bool:=K.zipIdx.all λz=>z.1.Kids.length==4&&z.1.Kids.all (NC K z.2 z.1.Leaf)
def D6 (K:Ks) (r:Int):Bool:=r== -1||(decide (0<=r/\r<(K.length:Int))&&!(BD K r).Leaf)
def Ph (K:Ks) (root:Int) (s:Nat):Int:=if root<0 then 0 else if JQ (BD K root) (s/4)<0 then 0 else JQ (BD K (JQ (BD K root) (s/4))) (s %4)
def E4 (K:Ks) (root:Int):List Int:=(List.range 16).map (Ph K root)
variable {K X:Ks}
theorem PS (h:i<K.length):BD K (i:Int)=K[i]:=by
 unfold BD;rw [AB,Ab h];rfl
theorem Hy {i:Int} (h0:0<=i) (h:i<(K.length:Int)):gi K i=some (BD K i):=by
 unfold BD;rw [Qd h0 h];rfl
theorem Ex (x a b:Int):BY x a b=some (decide (a<=x/\x<=b)):=by
 rw [WQ];congr 1;rw [Ee];simp
theorem HS:CU K=true↔∀i:Nat,i<K.length->(BD K (i:Int)).Kids.length=4/\∀n∈(BD K (i:Int)).Kids,NC K i (BD K (i:Int)).Leaf n=true:=by
 unfold CU;rw [G7];constructor
 ·intro h i hi;have:=h (K[i],i) (by rw [List.mem_zipIdx_iff_getElem?];exact Ab hi);rw [Ak,G7]at this;rw [PS hi];exact⟨by simpa using this.1,this.2⟩
 intro h z hz;rw [List.mem_zipIdx_iff_getElem?]at hz;obtain⟨a,hz⟩:=Ag.1 hz;have:=h z.2 a;rw [PS a,hz]at this;rw [Ak,G7];exact⟨by simpa using this.1,this.2⟩
theorem JE (a:Arena) (ha:a.Knots.length<=1048576):Gt a=some (CU a.Knots):=by
 unfold Gt;have h:=WL (body:=λs:Int=>DX a s) a.Knots (λi k=>k.Kids.length==4&&k.Kids.all (NC a.Knots i k.Leaf)) (.inr false) (.inl ()) (by omega)
  (λi k hk=>by
   have hi:=(Ag.1 hk).1;simp only [DX,AG,Ad hi,Af,AB,hk,Aa];by_cases h4:k.Kids.length=4
   ·have e1:(ln k.Kids !=4)=false:=by simp [ln,h4]
    have e2:(k.Kids.length==4)=true:=by simp [h4]
    simp only [e1,Ac,e2,CH];have q:=WL (body:=λs:Int=>DW a (i:Int) k s) k.Kids (λ_ n=>NC a.Knots i k.Leaf n) (.inr (.inr (.inr false))) (.inl ()) (by omega)
     (λj n hn=>by
      have hj:=(Ag.1 hn).1;simp only [DW];rw [Ad (by omega:(j:Int)<4),Af,AB,hn];simp only [Aa,NC]
      cases hl:k.Leaf with
      |true=>
       simp only [Af,Aj,Ac];by_cases h0:n<0
       ·rw [Ad h0,Ae (by omega:¬0<=n)];rfl
       rw [Ae h0,Ad (by omega:0<=n)];simp only [Ac,Aa,Af];rw [ad1 (by omega)]
      |false=>
       simp only [Ac,AJ,Af];by_cases h1:n= -1
       ·subst h1;simp only [bne_self_eq_false,Ac,Aa,BEq.rfl,Bool.true_or,Af];rw [ad1 (by omega)]
       have e3:(n != -1)=true:=by simp [h1]
       have e4:(n== -1)=false:=by simp [h1]
       rw [e3,e4];simp only [Af,Tv];rw [C4 (by omega) (by omega),Ex];simp only [Aa];by_cases h2:0<=n/\n<=(i:Int)-1
       ·rw [Ad h2];simp only [Aj,Ac];rw [Hy h2.1 (by omega)];simp only [Aa,CH]
        cases(BD a.Knots n).Leaf with
        |true=>simp only [Aj,Ac,Af];rw [ad1 (by omega)]
        |false=>rfl
       rw [Ae h2];rfl)
     (by simp only [DW];rw [Ae (by omega:¬((k.Kids.length:Nat):Int)<4),Ac])
    rw [q];have hz:(k.Kids.zipIdx.all λz=>NC a.Knots i k.Leaf z.1)=k.Kids.all (NC a.Knots i k.Leaf):=by
     rw [show(λz:Int×Nat=>NC a.Knots i k.Leaf z.1)=(NC a.Knots i k.Leaf)∘Prod.fst from rfl,<-List.all_map];congr 1;simp
    simp only [Aa];rw [hz]
    cases k.Kids.all (NC a.Knots i k.Leaf)with
    |true=>simp only [Af,B6];rw [ad1 (by omega)]
    |false=>rfl
   have e1:(ln k.Kids !=4)=true:=by simp [ln];omega
   have e2:(k.Kids.length==4)=false:=by simp [h4]
   simp only [e1,Af,e2,Bool.false_and,Ac])
  (by simp only [DX,AG,Ap,Av,Ac])
 rw [h];unfold CU;simp only [Aa];cases(a.Knots.zipIdx.all λz=>z.1.Kids.length==4&&z.1.Kids.all (NC a.Knots z.2 z.1.Leaf))<;>rfl
theorem L8 (a:Arena) (ha:a.Knots.length<=1048576) (r:Int):Hc a r=some (D6 a.Knots r):=by
 unfold Hc D6
 cases hr:(r== -1)with
 |true=>rfl
 |false=>
  simp only [Ac,Tv];rw [BW,C4 (by omega) (by omega),Ex];simp only [Aa];by_cases h:0<=r/\r<(a.Knots.length:Int)
  ·rw [Ad h,Ad (by omega:0<=r/\r<=(a.Knots.length:Int)-1)];simp only [Af,CH];rw [Hy h.1 h.2];rfl
  rw [Ae h,Ae (by omega:¬(0<=r/\r<=(a.Knots.length:Int)-1))];rfl
theorem Ck (h:D6 K r=true):r= -1\/(0<=r/\r<(K.length:Int)/\(BD K r).Leaf=false):=by
 unfold D6 at h;simp only [Cx,Dm,Ak,A6,CP]at h
 rcases h with h|h
 ·exact .inl h
 exact .inr ⟨h.1.1,h.1.2,h.2⟩
theorem ES (hK:CU K=true) (h0:0<=r) (h1:r<(K.length:Int)):(BD K r).Kids.length=4/\∀j,j<4->(BD K r).Kids[j]?=some (JQ (BD K r) j)/\NC K r.toNat (BD K r).Leaf (JQ (BD K r) j)=true:=by
 have:=HS.1 hK r.toNat (by omega);rw [show((r.toNat:Nat):Int)=r by omega]at this;refine⟨this.1,λj hj=>?_⟩;have a:j<(BD K r).Kids.length:=by omega
 have e:(BD K r).Kids[j]?=some (JQ (BD K r) j):=by unfold JQ;rw [Ab a];rfl
 exact⟨e,this.2 _ (A7 e)⟩
theorem FI (hK:CU K=true) (h0:0<=r) (h1:r<(K.length:Int)) (hl:(BD K r).Leaf=false) (hj:j<4):JQ (BD K r) j= -1\/(0<=JQ (BD K r) j/\JQ (BD K r) j<r/\(BD K (JQ (BD K r) j)).Leaf=true):=by
 have:=((ES hK h0 h1).2 j hj).2;rw [hl]at this;simp only [NC,Ac,Cx,Dm,Ak,A6]at this
 rcases this with h|⟨⟨h2,h3⟩,h4⟩
 ·exact .inl h
 exact .inr ⟨h2,by omega,h4⟩
theorem qV (hK:CU K=true) (h0:0<=r) (h1:r<(K.length:Int)) (hl:(BD K r).Leaf=true) (hj:j<4):0<=JQ (BD K r) j:=by
 have:=((ES hK h0 h1).2 j hj).2;rw [hl]at this;simpa [NC]using this
theorem wW (h:s<16):qu (s:Int) 4=((s/4:Nat):Int):=by
 unfold qu;rw [show Int.tdiv (s:Int) 4=((s/4:Nat):Int) by rw [Int.tdiv_eq_ediv_of_nonneg (by omega)];omega];exact Ns (by omega) (by omega)
theorem oU:Int.tmod (s:Int) 4=((s %4:Nat):Int):=by
 rw [JT (by omega)];omega
theorem Us (a:Arena) (hK:CU a.Knots=true) (hr:D6 a.Knots r=true) (hs:s<16):Mf a r (s:Int)=some (Ph a.Knots r s):=by
 unfold Mf Ph
 rcases Ck hr with rfl|⟨h0,h1,hl⟩
 ·rfl
 rw [Ae (by omega:¬r<0),Ax (by omega),Ac,Hy h0 h1];simp only [Aa];rw [wW hs,AB,((ES hK h0 h1).2 (s/4) (by omega)).1];simp only [Aa]
 rcases FI hK h0 h1 hl (show s/4<4 by omega)with e|⟨e1,e2,e3⟩
 ·rw [e];rfl
 rw [Ae (by omega),Ax (by omega),Ac,Hy e1 (by omega)];simp only [Aa];rw [oU,AB,((ES hK e1 (by omega)).2 (s %4) (by omega)).1];rfl
theorem Ww (a:Arena) (ha:a.Knots.length<=1048576) (hK:CU a.Knots=true) (hr:D6 a.Knots r=true) (hs:s<16):Oo a r (s:Int)=some (Ph a.Knots r s):=by
 unfold Oo;rw [JE a ha,L8 a ha,Ex,hK,hr];simp only [Aa,Aj,Ac];rw [Ad (by omega:0<=(s:Int)/\(s:Int)<=15)];simp only [Aj,Ac];rw [Us a hK hr hs]
 try rfl
theorem Mm (a:Arena) (ha:a.Knots.length<=1048576) (hK:CU a.Knots=true) (hr:D6 a.Knots r=true):IN a r=some (E4 a.Knots r):=by
 unfold IN;obtain⟨b,h1,h2⟩:=Bg (body:=λs:List Int×Int=>GQ a r s.1 s.2) (λ(o:List Int) i=>(o,i)) 16 (λi o=>o=(List.range i).map (Ph a.Knots r)) (λb=>b=E4 a.Knots r)
  (λo i hi ho=>by
   refine .inl ⟨_,?_,rfl⟩;simp only [GQ];rw [Ad (by omega:(i:Int)<16),Af,Ww a ha hK hr hi];simp only [Aa];rw [Ct (by rw [ho];simp;omega)];simp only [Aa]
   rw [ad1 (by omega),ho,Ed,Cq,List.map_singleton])
  (λo ho=>⟨_,by simp only [GQ];rw [Ae (by omega:¬((16:Nat):Int)<16),Ac],ho⟩) (s:=[]) rfl
 have h1':Au (λs:List Int×Int=>GQ a r s.1 s.2) ([],0)=some b:=h1;rw [h1',h2];rfl
theorem Ky {by_:Nat} (h:l.length*by_<=140737488355328):ap by_ [] l=some l:=by
 rw [Ct (by simpa using h),A5]
def rV (K:Ks):Prop:=K.length<=1048576/\∀k∈K,k.Kids.length<=1048576
theorem KI (hK:CU K=true) (h:K.length<=1048576):rV K:=by
 refine⟨h,λk hk=>?_⟩;obtain⟨i,hi,rfl⟩:=AF hk;have:=(HS.1 hK i hi).1;rw [PS hi]at this;omega
theorem Sy (a:Arena) (h:rV a.Knots):LM a=some a:=by
 unfold LM;have h1:=SJ (body:=λs:Int×List BI=>J5 a s.1 s.2) a.Knots (λk=>k)
  (λi k b hk ho=>by
   have hi:=(Ag.1 hk).1;have hm:=h.2 k (A7 hk);have:=h.1;simp only [J5,AG,Ad hi,Af,AB,hk,Aa];rw [Ky (by omega)];simp only [Aa];rw [Ct (by simp;omega)];simp only [Aa]
   rw [ad1 (by omega)])
  (λb=>by simp only [J5,AG,Ap,Av,Ac])
 rw [h1];simp only [Aa,List.map_id']
theorem FC (s:Store) (h:rV s.Arena.Knots) (hv:s.Vols.length<=1048576):DZ s=some s:=by
 unfold DZ;rw [Ky (by omega),Sy _ h];rfl
def MP (K:Ks) (r:Int) (s:Nat) (n:Int):List Int:=(if r<0 then [0,0,0,0]else if JQ (BD K r) (s/4)<0 then [0,0,0,0]else(BD K (JQ (BD K r) (s/4))).Kids).set (s %4) n
def QZ (K:Ks) (r:Int) (s:Nat):List Int:=(if r<0 then [-1,-1,-1,-1]else(BD K r).Kids).set (s/4) (K.length:Int)
def IA (K:Ks) (r:Int) (s:Nat) (n:Int):Ks:=K++ [BI.mk true (MP K r s n),BI.mk false (QZ K r s)]
theorem mk4:mk 8 (0:Int) 4=some [0,0,0,0]:=by rw [show(4:Int)=((4:Nat):Int)from rfl,TK (by omega) (by omega)];rfl
theorem eS {k:BI} (h:j<k.Kids.length):gi k.Kids (j:Int)=some (JQ k j):=by
 unfold JQ;rw [AB,Ab h];rfl
theorem Ws (a:Arena) (ha:a.Knots.length<=1048000) (hK:CU a.Knots=true) (hr:D6 a.Knots r=true) (hs:s<16) (hn:0<=n):
  Vx a r (s:Int) n=some (Arena.mk (IA a.Knots r s n),(a.Knots.length:Int)+1):=by
 unfold Vx;rw [Sy _ (KI hK (by omega)),JE a (by omega),L8 a (by omega),Ex,hK,hr];simp only [Aa,Aj,Ac];rw [Ad (by omega:0<=(s:Int)/\(s:Int)<=15),Ae (by omega:¬n<0)];simp only [Aj,Ac,Aa];rw [mk4];simp only [Aa];have fin:∀(lf tp:List Int),lf.length=4->tp.length=4->IA a.Knots r s n=a.Knots++ [BI.mk true (lf.set (s %4) n),BI.mk false (tp.set (s/4) (a.Knots.length:Int))]->
   ((gi lf (Int.tmod (s:Int) 4)).bind λx4=>(gi tp (qu (s:Int) 4)).bind λx5=>(ap 32 a.Knots [(BI.mk true (si lf (Int.tmod (s:Int) 4) n)),(BI.mk false (si tp (qu (s:Int) 4) (ln a.Knots)))]).bind λq4=>some ((Arena.mk q4),(sb (ln q4) 1)))=some (Arena.mk (IA a.Knots r s n),(a.Knots.length:Int)+1):=by
  intro lf tp h1 h2 h3;rw [wW hs,oU,AB,AB,Ab (by omega),Ab (by omega)];simp only [Aa];rw [Ct (by simp;omega),E6,E6,BW,<-h3];simp only [Aa];rw [BW,h3,Ah,C4 (by simp;omega) (by simp;omega)];simp only [A0,Bk];congr 2;omega
 rcases Ck hr with rfl|⟨h0,h1,hl⟩
 ·rw [Ae (by omega:¬(-1:Int)>=0)];simp only [Ac,Aa];exact fin _ _ rfl rfl rfl
 rw [Ad (by omega:r>=0),Af,Hy h0 h1];have h4:=(ES hK h0 h1).1;simp only [Aa];rw [Ky (by omega)];simp only [Aa];rw [wW hs,eS (by omega:s/4<(BD a.Knots r).Kids.length)];simp only [Aa];rw [<-wW hs]
 rcases FI hK h0 h1 hl (show s/4<4 by omega)with e|⟨e1,e2,e3⟩
 ·rw [Ae (by omega:¬JQ (BD a.Knots r) (s/4)>=0)];simp only [Ac,Aa];exact fin _ _ rfl h4 (by unfold IA MP QZ;simp only [Ax (show¬r<0 by omega),Aw (show JQ (BD a.Knots r) (s/4)<0 by omega)])
 rw [Ad (by omega:JQ (BD a.Knots r) (s/4)>=0),Af,Hy e1 (by omega)];have h5:=(ES hK e1 (by omega)).1;simp only [Aa];rw [Ky (by omega)];simp only [Aa];exact fin _ _ h5 h4 (by unfold IA MP QZ;simp only [Ax (show¬r<0 by omega),Ax (show¬JQ (BD a.Knots r) (s/4)<0 by omega)])
def M1 (K:Ks) (r:Int) (i:Nat):Bool:=decide (0<=r)&&(decide (r=(i:Int))||(BD K r).Kids.any λn=>decide (n=(i:Int)))
theorem aN (n:Nat) (f:Nat->α) (g:Nat->α->α):((List.range n).map f).mapIdx g=(List.range n).map λi=>g i (f i):=by
 apply C7;intro j;rw [JR,AL,AL];by_cases h:j<n
 ·rw [Ps h];rfl
 rw [D1 (by simpa using h)];rfl
theorem N4 (n:Nat) (f:Nat->α) (i:Nat) (x:α) (g:Nat->α) (h:∀j,j<n->g j=if j=i then x else f j):((List.range n).map f).set i x=(List.range n).map g:=by
 apply C7;intro j;rw [Ci,AL,AL];by_cases hj:j<n
 ·rw [Ps hj];simp only [Bz,h j hj,Be,Ch];by_cases e:i=j
  ·rw [Aw e,Aw (by omega),Aw e.symm]
  rw [Ax e,Ax (ED e)]
 rw [D1 (by simpa using hj)];simp only [Option.map_none,Be,Ch];split
 ·rw [Ax (by omega)]
 rfl
theorem Hl {n:Nat} {f:Nat->α} (h:i<n):((List.range n).map f)[i]?=some (f i):=by
 rw [AL,Ps h];rfl
theorem Sm {l:List Int} {m:Nat} (h:l[m]?=some x) (p:Int->Bool):(l.take (m+1)).any p=((l.take m).any p||p x):=by
 rw [DR,h,List.any_append];simp
theorem cW (a:Arena) (ha:a.Knots.length<=1048576) (hK:CU a.Knots=true) (hr:D6 a.Knots r=true):Sx a r=some ((List.range a.Knots.length).map (M1 a.Knots r)):=by
 unfold Sx;rw [BW,TK (by omega) (by omega)];simp only [Aa]
 rcases Ck hr with rfl|⟨h0,h1,hl⟩
 ·simp only [show decide ((-1:Int)<0)=true from rfl,Af];congr 1;rw [show(M1 a.Knots (-1))=λ_=>false from rfl,IW,Ch]
 rw [Ae (by omega:¬r<0),Ac];obtain⟨m,rfl⟩:∃m:Nat,r=(m:Int):=⟨r.toNat,by omega⟩;rw [AB,List.getElem?_replicate,Aw (by omega)];simp only [Aa];rw [E6];obtain⟨h4,hk⟩:=ES hK h0 h1;obtain⟨b,q1,q2⟩:=Bg (body:=λs:List Bool×Int=>Jb a (m:Int) s.1 s.2) (λ(o:List Bool) i=>(o,i)) 4
  (λi o=>o=(List.range a.Knots.length).map λ(j:Nat)=>decide ((m:Int)=(j:Int))||((BD a.Knots (m:Int)).Kids.take i).any λn=>decide (n=(j:Int)))
  (λb=>b=(List.range a.Knots.length).map (M1 a.Knots (m:Int)))
  (λo i hi ho=>by
   obtain⟨e,_⟩:=hk i hi;simp only [Jb];rw [Ad (by omega:(i:Int)<4),Af,Hy h0 h1];simp only [Aa];rw [AB,e];simp only [Aa]
   rcases FI hK h0 h1 hl hi with e1|⟨e1,e2,e3⟩
   ·rw [e1,Ae (by omega:¬(-1:Int)>=0),Ac,ad1 (by omega)];refine .inl ⟨o,rfl,?_⟩;rw [ho];apply CG;intro j hj;rw [Sm e,e1,Ae (by omega:¬(-1:Int)=(j:Int)),NU]
   obtain⟨c,hc⟩:∃c:Nat,JQ (BD a.Knots (m:Int)) i=(c:Int):=⟨(JQ (BD a.Knots (m:Int)) i).toNat,by omega⟩;rw [hc,Ad (by omega:(c:Int)>=0),Af]
   try simp only [Aa]
   rw [ho,AB,Hl (by omega)];simp only [Aa];rw [E6,ad1 (by omega)];refine .inl ⟨_,rfl,?_⟩;apply N4;intro j hj;rw [Sm e,hc];by_cases d:j=c
   ·subst d;simp
   rw [Ax d,Ae (by omega:¬(c:Int)=(j:Int)),NU])
  (λo ho=>⟨_,by simp only [Jb];rw [Ae (by omega:¬((4:Nat):Int)<4),Ac],by
   rw [ho];apply CG;intro j hj;rw [AO (by omega)];unfold M1
   rw [Ad h0,CH]⟩) (s:=(List.replicate a.Knots.length false).set m true) (by
   rw [<-Ch (n:=a.Knots.length),<-IW,Ch];apply N4;intro j hj;simp only [It,List.any_nil,NU];by_cases e:j=m
   ·subst e;simp
   rw [Ax e,Ae (by omega)])
 have q1':Au (λs:List Bool×Int=>Jb a (m:Int) s.1 s.2) ((List.replicate a.Knots.length false).set m true,0)=some b:=q1;rw [q1',q2];rfl
def C1 (K:Ks) (R:List Int) (i:Nat):Bool:=R.any λr=>M1 K r i
def XS (K:Ks) (R:List Int) (i:Nat):Nat:=((List.range i).filter (C1 K R)).length
def LP (K:Ks) (R:List Int) (n:Int):Int:=if 0<=n then(XS K R n.toNat:Int)else n
def Vr (K:Ks) (R:List Int) (i:Nat):BI:=BI.mk (BD K (i:Int)).Leaf (bif(BD K (i:Int)).Leaf then(BD K (i:Int)).Kids else(BD K (i:Int)).Kids.map (LP K R))
def Ra (K:Ks) (R:List Int):Ks:=((List.range K.length).filter (C1 K R)).map (Vr K R)
theorem Ig (l:List α) (f:α->α):l.mapIdx (λ_ x=>f x)=l.map f:=by
 apply C7;intro j;rw [JR,AL]
theorem Nt (hr:r∈R) (h0:0<=r):C1 K R r.toNat=true:=by
 unfold C1;rw [CN];exact⟨r,hr,by unfold M1;rw [Ad h0,Ad (by omega:r=(r.toNat:Int))];rfl⟩
theorem VR (hK:CU K=true) (hR:∀r∈R,D6 K r=true) (hu:C1 K R i=true) (hl:(BD K (i:Int)).Leaf=false):(i:Int)∈R:=by
 unfold C1 at hu;rw [CN]at hu;obtain⟨r,hr,h⟩:=hu;unfold M1 at h;simp only [Ak,Cx,A6,CN]at h;obtain⟨h0,h⟩:=h
 rcases h with h|⟨n,hn,h⟩
 ·rw [<-h];exact hr
 rcases Ck (hR r hr)with e|⟨_,h1,a⟩
 ·omega
 obtain⟨h4,hk⟩:=ES hK h0 h1;obtain⟨j,hj,b⟩:=AF hn;have e:=(hk j (by omega)).1;rw [Ab hj,b]at e
 injection e with e
 rcases FI hK h0 h1 a (show j<4 by omega)with k1|⟨_,_,k3⟩
 ·omega
 rw [<-e,h,hl]at k3;cases k3
theorem Sg (hr:r∈R) (h0:0<=r) (hn:n∈(BD K r).Kids) (h1:0<=n):C1 K R n.toNat=true:=by
 unfold C1;rw [CN];refine⟨r,hr,?_⟩;unfold M1;rw [Ad h0,CH,Cx,CN];exact .inr ⟨n,hn,by rw [A6];omega⟩
theorem vW (i:Nat):XS K R i<=i:=by
 have:=Dc (C1 K R) (List.range i);rw [Ch]at this;exact this
theorem XI (a:Arena) (ha:a.Knots.length<=1048576) (R:List Int) (hc:R.length<=1048576) (hR:∀r∈R,D6 a.Knots r=true):Au (λs:Bool×Int=>Fs a R s.1 s.2) (true,0)=some true:=by
 obtain⟨b,h1,h2⟩:=Bg (body:=λs:Bool×Int=>Fs a R s.1 s.2) (λ(o:Bool) i=>(o,i)) R.length (λ_ o=>o=true) (λb=>b=true)
  (λo i hi ho=>by
   have hx:=Ab hi;simp only [Fs,AG,Ad hi,Af,Aa,ho,AB,hx];rw [L8 a ha,hR _ (AC hi)];simp only [Aa];rw [ad1 (by omega)]
   exact .inl ⟨true,rfl,rfl⟩)
  (λo ho=>⟨o,by simp only [Fs,AG,Ap,Av,Ac,Aa],ho⟩) (s:=true) rfl
 rw [h2]at h1;exact h1
theorem ZL (a:Arena) (ha:a.Knots.length<=1048576) (hK:CU a.Knots=true) (R:List Int) (hc:R.length<=1048576) (hR:∀r∈R,D6 a.Knots r=true):
  Au (λs:List Bool×Int=>Fq a R s.1 s.2) (List.replicate a.Knots.length false,0)=some ((List.range a.Knots.length).map (C1 a.Knots R)):=by
 obtain⟨b,h1,h2⟩:=Bg (body:=λs:List Bool×Int=>Fq a R s.1 s.2) (λ(o:List Bool) i=>(o,i)) R.length (λi o=>o=(List.range a.Knots.length).map λ(j:Nat)=>(R.take i).any λr=>M1 a.Knots r j) (λb=>b=(List.range a.Knots.length).map (C1 a.Knots R))
  (λo i hi ho=>by
   have hx:=Ab hi;simp only [Fq,AG,Ad hi,Af,Aa,AB,hx];rw [cW a ha hK (hR _ (AC hi))];simp only [Aa];have d:o.length=a.Knots.length:=by rw [ho];simp
   have q:=Mu (body:=λs:List Bool×Int=>GV ((List.range a.Knots.length).map (M1 a.Knots R[i])) s.1 s.2) (λl i=>(l,i)) (λk x=>x||M1 a.Knots R[i] k) o
    (λk l x hl c e=>by
     have hk:k<a.Knots.length:=by have:=(Ag.1 c).1;omega
     simp only [GV,AG];rw [Ad (by simpa using hk),Af,AB,c];simp only [Aa]
     cases x with
     |true=>simp only [Af,Bool.true_or];rw [E6,ad1 (by omega)]
     |false=>
      simp only [Ac,Tv];rw [AB,Hl hk];simp only [Aa]
      rw [E6,ad1 (by omega)])
    (λl hl=>by simp only [GV,AG];rw [d,Ae (by simp),Ac])
   rw [q];simp only [Aa];rw [ad1 (by omega),ho,aN];refine .inl ⟨_,rfl,?_⟩;apply CG;intro j hj;rw [DR,hx,List.any_append]
   simp)
  (λo ho=>⟨o,by simp only [Fq,AG,Ap,Av,Ac],by rw [ho,AO (by omega)];rfl⟩) (s:=List.replicate a.Knots.length false) (by
   simp only [It,List.any_nil]
   rw [IW,Ch])
 rw [<-h2];exact h1
def Q9 (K:Ks) (R:List Int) (i:Nat):List Int:=(List.range K.length).map λ(j:Nat)=>if j<i/\C1 K R j=true then(XS K R j:Int)else 0
theorem XJ (a:Arena) (ha:a.Knots.length<=1048576) (hK:CU a.Knots=true) (R:List Int) (hR:∀r∈R,D6 a.Knots r=true):
  Au (λs:List Int×Int×List BI=>Fp a ((List.range a.Knots.length).map (C1 a.Knots R)) s.1 s.2.1 s.2.2) (List.replicate a.Knots.length 0,0,[])=some (Q9 a.Knots R a.Knots.length,Ra a.Knots R):=by
 obtain⟨b,h1,h2⟩:=Bg (body:=λs:List Int×Int×List BI=>Fp a ((List.range a.Knots.length).map (C1 a.Knots R)) s.1 s.2.1 s.2.2) (λ(o:List Int×List BI) i=>(o.1,i,o.2)) a.Knots.length
  (λi o=>o=(Q9 a.Knots R i,((List.range i).filter (C1 a.Knots R)).map (Vr a.Knots R))) (λb=>b=(Q9 a.Knots R a.Knots.length,Ra a.Knots R))
  (λo i hi ho=>by
   subst ho;simp only [Fp,AG,Ad hi,Af];rw [AB,Hl hi];simp only [Aa]
   cases hu:C1 a.Knots R i with
   |false=>
    simp only [AJ,Af];rw [ad1 (by omega)];refine .inl ⟨(Q9 a.Knots R i,((List.range i).filter (C1 a.Knots R)).map (Vr a.Knots R)),rfl,?_⟩;congr 1
    ·unfold Q9;apply CG;intro j hj;by_cases e:j=i
     ·subst e;rw [Ax (by omega),Ax (by rw [hu];simp)]
     by_cases h:j<i/\C1 a.Knots R j=true
     ·rw [Aw h,Aw ⟨by omega,h.2⟩]
     rw [Ax h,Ax (λh3=>h ⟨by omega,h3.2⟩)]
    rw [Ed,AR,Cl (by rw [hu];simp)];simp
   |true=>
    simp only [Aj,Ac];have h0:(0:Int)<=(i:Int):=by omega
    have d:(i:Int)<(a.Knots.length:Int):=by omega
    rw [Hy h0 d];obtain⟨h4,hk⟩:=ES hK h0 d;simp only [Aa];rw [Ky (by omega)];simp only [Aa];have inner:Au (λs:Int×List Int=>Fo (Q9 a.Knots R i) ((BD a.Knots (i:Int)).Leaf,(BD a.Knots (i:Int)).Kids) s.1 s.2) (0,(BD a.Knots (i:Int)).Kids)=some (Vr a.Knots R i).Kids:=by
     unfold Vr
     cases hl:(BD a.Knots (i:Int)).Leaf with
     |true=>rw [AA];rfl
     |false=>
      have q:=Mu (body:=λs:Int×List Int=>Fo (Q9 a.Knots R i) (false,(BD a.Knots (i:Int)).Kids) s.1 s.2) (λl k=>(k,l)) (λ_ x=>LP a.Knots R x) (BD a.Knots (i:Int)).Kids
       (λk l x t f g=>by
        have m:k<4:=by have:=(Ag.1 g).1;omega
        have ex:x=JQ (BD a.Knots (i:Int)) k:=by have:=(hk k m).1;rw [g]at this;injection this
        simp only [Fo];rw [Ad (by omega:(k:Int)<4)];simp only [Af,Aa,AJ];rw [AB,f];simp only [Aa]
        rcases FI hK h0 d hl m with e|⟨e1,e2,e3⟩
        ·rw [Ae (by omega:¬x>=0),Ac,ad1 (by omega)];have:LP a.Knots R x=x:=by unfold LP;rw [Ax (by omega)]
         rw [this,show l.set k x=l from by
          apply C7;intro j;rw [Ci];split
          ·rename_i e5;subst e5;rw [Aw (Ag.1 f).1,f]
          rfl]
        rw [Ad (by omega:x>=0),Af];obtain⟨c,hc⟩:∃c:Nat,x=(c:Int):=⟨x.toNat,by omega⟩;have u:x∈(BD a.Knots (i:Int)).Kids:=A7 g;have n:=Sg (VR hK hR hu hl) h0 u (by omega);rw [hc]at n;rw [hc,AB];unfold Q9;rw [Hl (by omega)];simp only [Aa];rw [Aw ⟨by omega,n⟩,E6,ad1 (by omega)];unfold LP;rw [Aw (by omega)]
        rfl)
       (λl t=>by
        simp only [Fo];rw [h4,Ae (by omega:¬((4:Nat):Int)<4)]
        rfl)
      rw [Ig]at q;exact q
    rw [inner];simp only [Aa];have v:gi (Q9 a.Knots R i) (i:Int)=some 0:=by
     unfold Q9;rw [AB,Hl hi,Ax (by omega)]
    rw [v];simp only [Aa];have w:=vW (K:=a.Knots) (R:=R) i;have p:(((List.range i).filter (C1 a.Knots R)).map (Vr a.Knots R)).length=XS a.Knots R i:=by rw [Be];rfl
    rw [Ct (by rw [p];simp;omega)];simp only [Aa];rw [ad1 (by omega),BW,p,E6];refine .inl ⟨(_,_),rfl,?_⟩;congr 1
    ·unfold Q9;apply N4;intro j hj;by_cases e:j=i
     ·subst e;rw [Aw ⟨by omega,hu⟩,Aw rfl]
     rw [Ax e];by_cases h:j<i/\C1 a.Knots R j=true
     ·rw [Aw h,Aw ⟨by omega,h.2⟩]
     rw [Ax h,Ax (λh3=>h ⟨by omega,h3.2⟩)]
    rw [Ed,AR,Ca hu,FP,Cq]
    rfl)
  (λo ho=>⟨o,by simp only [Fp,AG,Ap,Av,Ac],ho⟩) (s:=(List.replicate a.Knots.length 0,[])) (by
   unfold Q9;simp only [Nat.not_lt_zero,false_and,FV];rw [IW,Ch]
   rfl)
 rw [<-h2];exact h1
theorem gV (a:Arena) (ha:a.Knots.length<=1048576) (R:List Int) (hc:R.length<=1048576) (hR:∀r∈R,D6 a.Knots r=true):
  Au (λs:List Int×Int=>Fl (Q9 a.Knots R a.Knots.length,Ra a.Knots R) s.1 s.2) (R,0)=some (R.map (LP a.Knots R)):=by
 have q:=Mu (body:=λs:List Int×Int=>Fl (Q9 a.Knots R a.Knots.length,Ra a.Knots R) s.1 s.2) (λl k=>(l,k)) (λ_ x=>LP a.Knots R x) R
  (λk l x f b d=>by
   have hk:=(Ag.1 d).1;have g:=(Ag.1 b).1;simp only [Fl,AG,Ad g,Af,AB,b,Aa]
   rcases Ck (hR x (A7 d))with e|⟨e1,e2,e3⟩
   ·rw [Ae (by omega:¬x>=0),Ac,ad1 (by omega)];have:LP a.Knots R x=x:=by unfold LP;rw [Ax (by omega)]
    rw [this,show l.set k x=l from by
     apply C7;intro j;rw [Ci];split
     ·rename_i e5;subst e5
      first
       |rw [Aw g,b]
       |exact b.symm
     rfl]
   rw [Ad (by omega:x>=0),Af];obtain⟨c,h⟩:∃c:Nat,x=(c:Int):=⟨x.toNat,by omega⟩;have i:=Nt (K:=a.Knots) (A7 d) e1;rw [h]at i;rw [h,AB];unfold Q9;rw [Hl (by omega)];simp only [Aa];rw [Aw ⟨by omega,i⟩,E6,ad1 (by omega)];unfold LP;rw [Aw (by omega)]
   rfl)
  (λl f=>by simp only [Fl,BW,f];rw [Ae (by omega),Ac])
 rw [Ig]at q;exact q
theorem Wq (a:Arena) (ha:a.Knots.length<=1048576) (hK:CU a.Knots=true) (R:List Int) (hc:R.length<=1048576) (hR:∀r∈R,D6 a.Knots r=true):
  J7 a R=some (Arena.mk (Ra a.Knots R),R.map (LP a.Knots R)):=by
 unfold J7;rw [Ky (by omega),JE a ha,hK];simp only [Aa];rw [XI a ha R hc hR];simp only [Aa,Aj,Ac];rw [BW,TK (by omega) (by omega)];simp only [Aa];rw [ZL a ha hK R hc hR];simp only [Aa];rw [TK (by omega) (by omega)];simp only [Aa];rw [XJ a ha hK R hR];simp only [Aa];rw [gV a ha R hc hR];rfl
theorem Xd (p:Nat->Bool) (hp:p i=true):∀{n:Nat},i<n->((List.range n).filter p)[((List.range i).filter p).length]?=some i
 |0,h=>by omega
 |n+1,h=>by
  rw [Ed,AR];by_cases e:i=n
  ·subst e;rw [AS (A3 _),Qo,Ca hp];rfl
  have h2:=Xd p hp (show i<n by omega);have h3:=(Ag.1 h2).1;rw [AM h3,h2]
theorem eY {n:Nat} (p:Nat->Bool) (hp:p i=true) (h:i<n):((List.range i).filter p).length<((List.range n).filter p).length:=(Ag.1 (Xd p hp h)).1
theorem eX (p:Nat->Bool):∀{n j:Nat},j<((List.range n).filter p).length->∃i,i<n/\p i=true/\((List.range i).filter p).length=j
 |0,j,h=>by simp at h
 |n+1,j,h=>by
  rw [Ed,AR,Ah]at h;by_cases e:j<((List.range n).filter p).length
  ·obtain⟨i,h1,h2,h3⟩:=eX p e;exact⟨i,by omega,h2,h3⟩
  by_cases hp:p n=true
  ·rw [Ca hp]at h;simp at h;exact⟨n,by omega,hp,by omega⟩
  rw [Cl hp]at h;simp at h;omega
theorem Z6:(Ra K R).length=XS K R K.length:=by unfold Ra XS;rw [Be]
theorem Qq (hu:C1 K R i=true) (hi:i<K.length):BD (Ra K R) (XS K R i:Nat)=Vr K R i/\XS K R i<(Ra K R).length:=by
 have h:=eY (C1 K R) hu hi;have h2:XS K R i<(Ra K R).length:=by rw [Z6];exact h
 refine⟨?_,h2⟩;unfold BD;rw [AB];unfold Ra;rw [AL];have:=Xd (C1 K R) hu hi;rw [show XS K R i=((List.range i).filter (C1 K R)).length from rfl,this];rfl
theorem oX (hj:j<(Ra K R).length):∃i,i<K.length/\C1 K R i=true/\XS K R i=j:=by
 rw [Z6]at hj;exact eX (C1 K R) hj
theorem zN (hu:C1 K R i=true) (h:i<j):XS K R i<XS K R j:=eY _ hu h
theorem VZ (i:Nat):(Vr K R i).Leaf=(BD K (i:Int)).Leaf:=rfl
theorem kG (hK:CU K=true) (hi:i<K.length):(Vr K R i).Kids.length=4:=by
 have:=(HS.1 hK i hi).1;unfold Vr
 cases(BD K (i:Int)).Leaf with
 |true=>exact this
 |false=>simp only [Ac,Be];exact this
theorem kH (hl:(BD K (i:Int)).Leaf=false) (hj:j<(BD K (i:Int)).Kids.length):JQ (Vr K R i) j=LP K R (JQ (BD K (i:Int)) j):=by
 unfold JQ Vr;rw [hl];simp only [Ac];rw [AL,Ab hj];rfl
theorem Rh (hl:(BD K (i:Int)).Leaf=true):(Vr K R i).Kids=(BD K (i:Int)).Kids:=by
 unfold Vr;rw [hl];rfl
theorem Q7 (h:n<0):LP K R n=n:=by unfold LP;rw [Ax (by omega)]
theorem Q8 (n:Nat):LP K R (n:Int)=(XS K R n:Int):=by unfold LP;rw [Aw (by omega)];rfl
theorem wO (hK:CU K=true) (hR:∀r∈R,D6 K r=true):CU (Ra K R)=true:=by
 rw [HS];intro j hj;obtain⟨i,hi,hu,rfl⟩:=oX hj;rw [(Qq hu hi).1];refine⟨kG hK hi,λn hn=>?_⟩;have h0:(0:Int)<=(i:Int):=by omega
 have h1:(i:Int)<(K.length:Int):=by omega
 obtain⟨h4,hk⟩:=ES hK h0 h1;rw [VZ]
 cases hl:(BD K (i:Int)).Leaf with
 |true=>
  rw [Rh hl]at hn;have:=(HS.1 hK i hi).2 n hn;rw [hl]at this;simpa [NC]using this
 |false=>
  obtain⟨m,hm,b⟩:=AF hn;rw [kG hK hi]at hm;have e:n=LP K R (JQ (BD K (i:Int)) m):=by
   rw [<-kH hl (by omega),<-b];unfold JQ;rw [Ab];rfl
  rcases FI hK h0 h1 hl hm with k1|⟨k1,k2,k3⟩
  ·rw [k1,Q7 (by omega)]at e;subst e;rfl
  obtain⟨c,hc⟩:∃c:Nat,JQ (BD K (i:Int)) m=(c:Int):=⟨_,(Bp k1).symm⟩;rw [hc]at e k2 k3;rw [Q8]at e;have a:=Sg (VR hK hR hu hl) h0 (A7 (hk m hm).1) (by omega);rw [hc]at a;have d:c<K.length:=by omega
  have f:XS K R c<XS K R i:=zN (by simpa using a) (by omega);subst e;simp only [NC,Ac,Cx,Dm,Ak,A6];refine .inr ⟨by omega,?_⟩;rw [(Qq (by simpa using a) d).1,VZ];exact k3
theorem pN (hR:∀r∈R,D6 K r=true) (hr:r∈R):D6 (Ra K R) (LP K R r)=true:=by
 rcases Ck (hR r hr)with e|⟨h0,h1,hl⟩
 ·rw [e,Q7 (by omega)];rfl
 obtain⟨c,rfl⟩:∃c:Nat,r=(c:Int):=⟨_,(Bp h0).symm⟩;have a:=Nt (K:=K) hr h0;rw [Bc]at a;obtain⟨g1,g2⟩:=Qq a (by omega);rw [Q8];unfold D6;rw [Ad (by omega),g1,VZ,hl];simp
theorem kQ (hK:CU K=true) (hR:∀r∈R,D6 K r=true) (hr:r∈R):E4 (Ra K R) (LP K R r)=E4 K r:=by
 unfold E4;apply CG;intro s hs;rw [Iu]at hs;unfold Ph
 rcases Ck (hR r hr)with e|⟨h0,h1,hl⟩
 ·rw [e,Q7 (by omega),Aw (by omega),Aw (by omega)]
 obtain⟨c,rfl⟩:∃c:Nat,r=(c:Int):=⟨_,(Bp h0).symm⟩;have a:=Nt (K:=K) hr h0;rw [Bc]at a;obtain⟨g1,g2⟩:=Qq a (by omega);obtain⟨h4,hk⟩:=ES hK h0 h1;rw [Q8,g1,kH hl (by omega)];simp only [Ax (show¬((XS K R c:Nat):Int)<0 by omega),Ax (show¬((c:Nat):Int)<0 by omega)]
 rcases FI hK h0 h1 hl (show s/4<4 by omega)with k1|⟨k1,k2,k3⟩
 ·rw [k1,Q7 (by omega)];rfl
 obtain⟨d,hd⟩:∃d:Nat,JQ (BD K (c:Int)) (s/4)=(d:Int):=⟨_,(Bp k1).symm⟩;have b:=Sg hr h0 (A7 (hk (s/4) (by omega)).1) k1;rw [hd]at b k2 k3;rw [hd,Q8];simp only [Ax (show¬((XS K R d:Nat):Int)<0 by omega),Ax (show¬((d:Nat):Int)<0 by omega)];rw [(Qq (by simpa using b) (by omega)).1];unfold JQ;rw [Rh k3]
theorem tJ (hK:CU K=true) (hR:∀r∈R,D6 K r=true) (hj:j<(Ra K R).length):C1 (Ra K R) (R.map (LP K R)) j=true:=by
 obtain⟨i,hi,hu,rfl⟩:=oX hj;have hu':=hu;unfold C1 at hu';rw [CN]at hu';obtain⟨r,hr,h⟩:=hu';unfold M1 at h;simp only [Ak,Cx,A6,CN]at h;obtain⟨h0,h⟩:=h;unfold C1;rw [CN];refine⟨LP K R r,AH.2 ⟨r,hr,rfl⟩,?_⟩;obtain⟨c,rfl⟩:∃c:Nat,r=(c:Int):=⟨_,(Bp h0).symm⟩;rw [Q8];unfold M1;simp only [Ak,Cx,A6,CN];refine⟨by omega,?_⟩
 rcases h with h|⟨n,hn,h⟩
 ·have:c=i:=by omega
  subst this;exact .inl rfl
 right
 rcases Ck (hR _ hr)with e|⟨_,h1,hl⟩
 ·omega
 have a:=Nt (K:=K) hr h0;rw [Bc]at a;rw [(Qq a (by omega)).1];refine⟨(XS K R i:Int),?_,rfl⟩;unfold Vr;rw [hl];simp only [Ac,AH];exact⟨n,hn,by rw [h,Q8]⟩
theorem Mv {i:Int} (h0:0<=i) (h:i<(K.length:Int)):BD (K++X) i=BD K i:=by
 obtain⟨c,rfl⟩:∃c:Nat,i=(c:Int):=⟨_,(Bp h0).symm⟩;unfold BD;rw [AB,AB,AM (by omega)]
theorem pK (h:D6 K r=true):D6 (K++X) r=true:=by
 rcases Ck h with e|⟨h0,h1,hl⟩
 ·rw [e];rfl
 unfold D6;rw [Mv h0 h1,hl,Ad (by rw [Ah];omega)];simp
theorem kM (hK:CU K=true) (h:D6 K r=true):E4 (K++X) r=E4 K r:=by
 unfold E4;apply CG;intro s hs;rw [Iu]at hs;unfold Ph
 rcases Ck h with e|⟨h0,h1,hl⟩
 ·rw [e];rfl
 rw [Mv h0 h1];simp only [Ax (show¬r<0 by omega)]
 rcases FI hK h0 h1 hl (show s/4<4 by omega)with k1|⟨k1,k2,k3⟩
 ·rw [k1];rfl
 rw [Mv k1 (by omega)]
theorem YZ (hK:CU K=true) (hr:D6 K r=true) (hs:s<16) (n:Int):(MP K r s n).length=4:=by
 unfold MP;rw [Hp]
 rcases Ck hr with e|⟨h0,h1,hl⟩
 ·rw [Aw (by omega)];rfl
 rw [Ax (by omega)]
 rcases FI hK h0 h1 hl (show s/4<4 by omega)with k1|⟨k1,k2,k3⟩
 ·rw [Aw (by omega)];rfl
 rw [Ax (by omega)];exact(ES hK k1 (by omega)).1
theorem cH (hK:CU K=true) (hr:D6 K r=true) (s:Nat):(QZ K r s).length=4:=by
 unfold QZ;rw [Hp]
 rcases Ck hr with e|⟨h0,h1,hl⟩
 ·rw [Aw (by omega)];rfl
 rw [Ax (by omega)];exact(ES hK h0 h1).1
theorem TN:BD (IA K r s n) (K.length:Int)=BI.mk true (MP K r s n):=by
 unfold BD IA;rw [AB,AS (A3 _),Qo];rfl
theorem TM:BD (IA K r s n) ((K.length:Int)+1)=BI.mk false (QZ K r s):=by
 unfold BD IA;rw [show(K.length:Int)+1=((K.length+1:Nat):Int)from rfl,AB,AS (by omega),show K.length+1-K.length=1 by omega];rfl
theorem wX (hK:CU K=true) (hr:D6 K r=true) (hs:s<16) (hn:0<=n):CU (IA K r s n)=true:=by
 rw [HS];intro j hj;have a:(IA K r s n).length=K.length+2:=by unfold IA;simp
 rw [a]at hj;by_cases h:j<K.length
 ·have hk:BD (IA K r s n) (j:Int)=BD K (j:Int):=Mv (by omega) (by omega);rw [hk];obtain⟨h4,h5⟩:=HS.1 hK j h;refine⟨h4,λm hm=>?_⟩;have:=h5 m hm
  cases hl:(BD K (j:Int)).Leaf with
  |true=>rw [hl]at this;exact this
  |false=>
   rw [hl]at this;simp only [NC,Ac,Cx,Dm,Ak,A6]at this⊢
   rcases this with e|⟨e1,e2⟩
   ·exact .inl e
   refine .inr ⟨e1,?_⟩;rw [show BD (IA K r s n) m=BD K m from Mv e1.1 (by omega)];exact e2
 by_cases e:j=K.length
 ·subst e;rw [TN];refine⟨YZ hK hr hs n,λm hm=>?_⟩;simp only [NC,Af,A6];unfold MP at hm
  rcases CK hm with hm|hm
  ·rcases Ck hr with e|⟨h0,h1,hl⟩
   ·rw [Aw (by omega)]at hm;simp at hm;omega
   rw [Ax (by omega)]at hm
   rcases FI hK h0 h1 hl (show s/4<4 by omega)with k1|⟨k1,k2,k3⟩
   ·rw [Aw (by omega)]at hm;simp at hm;omega
   rw [Ax (by omega)]at hm;have hq:=HS.1 hK (JQ (BD K r) (s/4)).toNat (by omega);rw [Bp k1,k3]at hq;have:=hq.2 m hm;simpa [NC]using this
  omega
 have:j=K.length+1:=by omega
 subst this;rw [show((K.length+1:Nat):Int)=(K.length:Int)+1 from rfl,TM];refine⟨cH hK hr s,λm hm=>?_⟩;simp only [NC,Ac,Cx,Dm,Ak,A6];unfold QZ at hm
 rcases CK hm with hm|hm
 ·rcases Ck hr with e|⟨h0,h1,hl⟩
  ·rw [Aw (by omega)]at hm;simp at hm;omega
  rw [Ax (by omega)]at hm;obtain⟨q,hq,rfl⟩:=AF hm;obtain⟨h4,hk⟩:=ES hK h0 h1;have e5:=(hk q (by omega)).1;rw [Ab hq]at e5
  injection e5 with e5
  rw [e5]
  rcases FI hK h0 h1 hl (show q<4 by omega)with k1|⟨k1,k2,k3⟩
  ·exact .inl k1
  refine .inr ⟨by omega,?_⟩;rw [show BD (IA K r s n) (JQ (BD K r) q)=BD K (JQ (BD K r) q)from Mv k1 (by omega)];exact k3
 refine .inr ⟨by omega,?_⟩;rw [hm,TN]
theorem mV:D6 (IA K r s n) ((K.length:Int)+1)=true:=by
 unfold D6;rw [TM,Ad (by unfold IA;simp;omega)];simp
theorem kW (hK:CU K=true) (hr:D6 K r=true) (hs:s<16):E4 (IA K r s n) ((K.length:Int)+1)=(E4 K r).set s n:=by
 unfold E4;symm;apply N4;intro t ht;unfold Ph;rw [TM];simp only [Ax (show¬((K.length:Int)+1)<0 by omega)];have a:=cH hK hr s;have b:=YZ hK hr hs n;by_cases hq:t/4=s/4
 ·have e1:JQ (BI.mk false (QZ K r s)) (t/4)=(K.length:Int):=by
   unfold JQ QZ;rw [hq,Ci,Aw rfl];unfold QZ at a;rw [Hp]at a;rw [Aw (by rw [a];omega)];rfl
  rw [e1,Ax (by omega),TN];have e2:JQ (BI.mk true (MP K r s n)) (t %4)=if t %4=s %4 then n else(if r<0 then 0 else if JQ (BD K r) (s/4)<0 then 0 else JQ (BD K (JQ (BD K r) (s/4))) (t %4)):=by
   unfold JQ MP;unfold MP at b;rw [Hp]at b;rw [Ci];by_cases e:s %4=t %4
   ·rw [Aw e,Aw (by rw [b];omega),Aw e.symm];rfl
   rw [Ax e,Ax (ED e)];have zero:([0,0,0,0]:List Int)[t %4]?.getD 0=0:=by
    have:t %4<4:=by omega
    generalize t %4=q at this
    match q,this with
    |0,_=>rfl
    |1,_=>rfl
    |2,_=>rfl
    |3,_=>rfl
   by_cases c1:r<0
   ·rw [Aw c1,Aw c1];exact zero
   rw [Ax c1,Ax c1];unfold JQ;by_cases c2:((BD K r).Kids[s/4]?).getD 0<0
   ·rw [Aw c2,Aw c2];exact zero
   rw [Ax c2,Ax c2]
  rw [e2,hq];by_cases e:t=s
  ·rw [Aw e,Aw (by rw [e])]
  rw [Ax e,Ax (by omega)]
 rw [Ax (show¬t=s by intro e;rw [e]at hq;exact hq rfl)];have e1:JQ (BI.mk false (QZ K r s)) (t/4)=if r<0 then-1 else JQ (BD K r) (t/4):=by
  unfold JQ QZ;rw [Ci,Ax (ED hq)];by_cases c1:r<0
  ·rw [Aw c1,Aw c1];have:t/4<4:=by omega
   generalize t/4=q at this
   match q,this with
   |0,_=>rfl
   |1,_=>rfl
   |2,_=>rfl
   |3,_=>rfl
  rw [Ax c1,Ax c1]
 rw [e1]
 rcases Ck hr with e|⟨h0,h1,hl⟩
 ·rw [e];rfl
 simp only [Ax (show¬r<0 by omega)]
 rcases FI hK h0 h1 hl (show t/4<4 by omega)with k1|⟨k1,k2,k3⟩
 ·rw [k1];rfl
 rw [show BD (IA K r s n) (JQ (BD K r) (t/4))=BD K (JQ (BD K r) (t/4))from Mv k1 (by omega)]
def Lf (n:Nat) (p:Nat->Bool):Nat:=((List.range n).filter p).length
theorem Ku (n:Nat) (p:Nat->Bool):Lf (n+1) p=Lf n p+(if p n=true then 1 else 0):=by
 unfold Lf;rw [Ed,AR,Ah];by_cases h:p n=true
 ·rw [Aw h,Ca h];rfl
 rw [Ax h,Cl h];rfl
theorem VF (p q:Nat->Bool):∀n,Lf n (λj=>p j||q j)<=Lf n p+Lf n q
 |0=>by simp [Lf]
 |n+1=>by
  have:=VF p q n;rw [Ku,Ku,Ku];cases p n<;>cases q n<;>simp<;>omega
theorem Xj (x:Int):∀n,Lf n (λj=>decide (x=(j:Int)))<=1/\(x>=(n:Int)->Lf n (λj=>decide (x=(j:Int)))=0)
 |0=>by simp [Lf]
 |n+1=>by
  obtain⟨h1,h2⟩:=Xj x n;rw [Ku];by_cases h:x=(n:Int)
  ·have:=h2 (by omega);rw [Aw (by simpa using h)];exact⟨by omega,λh3=>by omega⟩
  rw [Ax (by simpa using h)];exact⟨by omega,λh3=>by rw [h2 (by omega)]⟩
theorem rP (l:List Int) (n:Nat):Lf n (λj=>l.any λx=>decide (x=(j:Int)))<=l.length:=by
 induction l with
 |nil=>simp [Lf]
 |cons x l ih=>
  simp only [List.any_cons,A0];have:=VF (λj=>decide (x=(j:Int))) (λj=>l.any λx=>decide (x=(j:Int))) n;have:=(Xj x n).1;omega
theorem u9 {n:Nat} {q:Nat->Bool} (h:∀j,j<n->p j=true->q j=true):Lf n p<=Lf n q:=by
 induction n with
 |zero=>simp [Lf]
 |succ n ih=>
  have:=ih (λj hj=>h j (by omega));rw [Ku,Ku];by_cases e:p n=true
  ·rw [Aw e,Aw (h n (by omega) e)];omega
  rw [Ax e];omega
theorem fC {n:Nat} (h:∀j,j<n->p j=true):Lf n p=n:=by
 induction n with
 |zero=>rfl
 |succ n ih=>rw [Ku,Aw (h n (by omega)),ih (λj hj=>h j (by omega))]
theorem uX (hK:CU K=true) (hr:D6 K r=true) (n:Nat):Lf n (M1 K r)<=5:=by
 have h1:=VF (λj=>decide (r=(j:Int))) (λj=>(BD K r).Kids.any λn=>decide (n=(j:Int))) n;have h2:=(Xj r n).1;have h3:=rP (BD K r).Kids n
 have h4:Lf n (M1 K r)<=Lf n (λj=>decide (r=(j:Int))||(BD K r).Kids.any λn=>decide (n=(j:Int))):=u9 λj _ h=>by
  unfold M1 at h;rw [Ak]at h;exact h.2
 rcases Ck hr with e|⟨h0,hl,_⟩
 ·have:Lf n (M1 K r)=Lf n (λ_=>false):=by rw [e];rfl
  rw [this];unfold Lf;rw [B7.2 (by simp)];simp
 have:=(ES hK h0 hl).1;omega
theorem VS (hK:CU K=true) (n:Nat):∀(R:List Int),(∀r∈R,D6 K r=true)->Lf n (C1 K R)<=5*R.length
 |[],_=>by simp [Lf,C1]
 |r::R,h=>by
  have h1:=VS hK n R (λx hx=>h x (by simp [hx]));have h2:=uX hK (h r (by simp)) n;have h3:=VF (M1 K r) (C1 K R) n;have h4:Lf n (C1 K (r::R))=Lf n (λj=>M1 K r j||C1 K R j):=rfl;rw [h4,A0];omega
theorem mJ (hK:CU K=true) (hR:∀r∈R,D6 K r=true):(Ra K R).length<=5*R.length:=by
 rw [Z6];exact VS hK _ R hR
def B9 (s:Store):List Int:=s.Vols.map Vol.Root
structure StoreR (s:Store):Prop where
 len:s.Vols.length<=3
 ar:CU s.Arena.Knots=true
 nx:1<=s.Next/\s.Next<=1000000000
 ids:∀v∈s.Vols,1<=v.Id/\v.Id<=9
 asc:(s.Vols.map Vol.Id).Pairwise (·<·)
 root:∀r∈B9 s,D6 s.Arena.Knots r=true
 lt:∀r∈B9 s,∀x∈E4 s.Arena.Knots r,x<s.Next
 few:s.Arena.Knots.length<=1000
structure CV (s:Store):Prop extends StoreR s where
 used:∀i,i<s.Arena.Knots.length->C1 s.Arena.Knots (B9 s) i=true
theorem CV.small {s:Store} (h:CV s):s.Arena.Knots.length<=15:=by
 have h1:=VS h.ar s.Arena.Knots.length (B9 s) h.root;rw [fC h.used]at h1;have:(B9 s).length=s.Vols.length:=by unfold B9;rw [Be]
 have:=h.len;omega
def BJ (s:Store):List (Int×List Int):=s.Vols.map λv=>(v.Id,E4 s.Arena.Knots v.Root)
def JZ (s:Store):Store:=Store.mk (s.Vols.map λv=>Vol.mk v.Id (LP s.Arena.Knots (B9 s) v.Root)) (Arena.mk (Ra s.Arena.Knots (B9 s))) s.Next
theorem Oy (s:Store):B9 (JZ s)=(B9 s).map (LP s.Arena.Knots (B9 s)):=by
 unfold B9 JZ;simp only [EY];rfl
theorem kF {s:Store} (h:StoreR s):CV (JZ s):=by
 have b:(B9 s).length=s.Vols.length:=by unfold B9;rw [Be]
 refine⟨⟨by unfold JZ;simpa using h.len,wO h.ar h.root,h.nx,?_,?_,?_,?_,?_⟩,?_⟩
 ·intro v hv;unfold JZ at hv;simp only [AH]at hv;obtain⟨w,hw,rfl⟩:=hv;exact h.ids w hw
 ·have:((JZ s).Vols.map Vol.Id)=s.Vols.map Vol.Id:=by unfold JZ;simp only [EY];rfl
  rw [this];exact h.asc
 ·intro r hr;rw [Oy]at hr;obtain⟨q,hq,rfl⟩:=AH.1 hr;exact pN h.root hq
 ·intro r hr;rw [Oy]at hr;obtain⟨q,hq,rfl⟩:=AH.1 hr;have:=kQ h.ar h.root hq;intro x hx;have a:x∈E4 s.Arena.Knots q:=by rw [<-this];exact hx
  exact h.lt q hq x a
 ·have:=mJ h.ar h.root;have:=h.len;show(Ra s.Arena.Knots (B9 s)).length<=1000;omega
 intro i hi;rw [Oy];exact tJ h.ar h.root hi
theorem Yy {s:Store} (h:StoreR s):BJ (JZ s)=BJ s:=by
 unfold BJ;show(s.Vols.map λv=>Vol.mk v.Id (LP s.Arena.Knots (B9 s) v.Root)).map _=_;rw [EY];apply CG;intro v hv;have:=kQ h.ar h.root (show v.Root∈B9 s from AH.2 ⟨v,hv,rfl⟩);show(v.Id,E4 (Ra s.Arena.Knots (B9 s)) (LP s.Arena.Knots (B9 s) v.Root))=_;rw [this]
theorem Rj (s:Store) (hv:s.Vols.length<=1048576):Me s=some (B9 s):=by
 unfold Me;obtain⟨b,h1,h2⟩:=Bg (body:=λq:List Int×Int=>Hb s q.1 q.2) (λ(o:List Int) i=>(o,i)) s.Vols.length (λi o=>o=(s.Vols.take i).map Vol.Root) (λb=>b=B9 s)
  (λo i hi ho=>by
   have hx:=Ab hi;simp only [Hb,AG,Ad hi,Af,AB,hx,Aa];rw [Ct (by rw [ho];simp;omega)];simp only [Aa];rw [ad1 (by omega)]
   exact .inl ⟨_,rfl,by rw [ho,DR,hx,Cq];rfl⟩)
  (λo ho=>⟨o,by simp only [Hb,AG,Ap,Av,Ac],by rw [ho,AO (A3 _)];rfl⟩) (s:=[]) rfl
 have h1':Au (λq:List Int×Int=>Hb s q.1 q.2) ([],0)=some b:=h1;rw [h1',h2];rfl
theorem I6 {s:Store} (h:StoreR s):GP s=some (JZ s):=by
 have hl:=h.len;have hf:=h.few;have d:(B9 s).length=s.Vols.length:=by unfold B9;rw [Be]
 unfold GP;rw [Rj s (by omega)];simp only [Aa];rw [Wq _ (by omega) h.ar _ (by omega) h.root];simp only [Aa];rw [Ky (by omega)];simp only [Aa];have q:=Mu (body:=λq:Int×List Vol=>I7 ((B9 s).map (LP s.Arena.Knots (B9 s)),Ra s.Arena.Knots (B9 s)) q.1 q.2) (λl i=>(i,l)) (λ_ v=>Vol.mk v.Id (LP s.Arena.Knots (B9 s) v.Root)) s.Vols
  (λi l x a b c=>by
   have hi:=(Ag.1 b).1;simp only [I7,AG,Ad hi,Af];have:gi ((B9 s).map (LP s.Arena.Knots (B9 s))) (i:Int)=some (LP s.Arena.Knots (B9 s) x.Root):=by
    rw [AB,AL];unfold B9;rw [AL,c];rfl
   rw [this,AB,b];simp only [Aa]
   rw [E6,ad1 (by omega)])
  (λl a=>by simp only [I7,BW,a];rw [Ae (by omega),Ac])
 rw [Ig]at q;rw [q];rfl
theorem VY {s:Store} (h:CV s):JZ s=s:=by
 have c:∀i,i<=s.Arena.Knots.length->XS s.Arena.Knots (B9 s) i=i:=λi hi=>fC (λj hj=>h.used j (by omega))
 have a:∀n:Int,n<(s.Arena.Knots.length:Int)->LP s.Arena.Knots (B9 s) n=n:=λn hn=>by
  unfold LP;split
  ·rw [c _ (by omega)];omega
  rfl
 have b:∀r∈B9 s,LP s.Arena.Knots (B9 s) r=r:=λr hr=>by
  rcases Ck (h.root r hr)with e|⟨h0,h1,_⟩
  ·rw [e,Q7 (by omega)]
  exact a r h1
 have d:Ra s.Arena.Knots (B9 s)=s.Arena.Knots:=by
  unfold Ra;rw [Ga.2 (λi hi=>h.used i (by simpa using hi))];apply C7;intro i;rw [AL];by_cases hi:i<s.Arena.Knots.length
  ·rw [Ps hi,Ab hi];simp only [Bz];congr 1;have h0:(0:Int)<=(i:Int):=by omega
   have h1:(i:Int)<(s.Arena.Knots.length:Int):=by omega
   unfold Vr
   cases hl:(BD s.Arena.Knots (i:Int)).Leaf with
   |true=>
    simp only [Af];rw [<-hl,PS hi]
   |false=>
    simp only [Ac];have:(BD s.Arena.Knots (i:Int)).Kids.map (LP s.Arena.Knots (B9 s))=(BD s.Arena.Knots (i:Int)).Kids:=by
     conv=>rhs;rw [<-RY (BD s.Arena.Knots (i:Int)).Kids]
     apply CG;intro n hn;obtain⟨q,hq,rfl⟩:=AF hn;obtain⟨h4,hk⟩:=ES h.ar h0 h1;have e5:=(hk q (by omega)).1;rw [Ab hq]at e5
     injection e5 with e5
     rw [e5]
     rcases FI h.ar h0 h1 hl (show q<4 by omega)with k1|⟨k1,k2,k3⟩
     ·rw [k1,Q7 (by omega)];rfl
     exact a _ (by omega)
    rw [this,<-hl,PS hi]
  rw [D1 (by simpa using hi),D1 (by omega)];rfl
 unfold JZ;rw [d];have:(s.Vols.map λv=>Vol.mk v.Id (LP s.Arena.Knots (B9 s) v.Root))=s.Vols:=by
  conv=>rhs;rw [<-RY s.Vols]
  apply CG;intro v hv;rw [b _ (AH.2 ⟨v,hv,rfl⟩)];rfl
 rw [this]
theorem Xm (hs:s<16):Ph K r s∈E4 K r:=AH.2 ⟨s,by simpa using hs,rfl⟩
theorem N6 {l:List Int} {y:Int} (h:l.Pairwise (·<·)) (a:i<j) (hx:l[i]?=some x) (hy:l[j]?=some y):x<y:=by
 obtain⟨h1,rfl⟩:=Ag.1 hx;obtain⟨h2,rfl⟩:=Ag.1 hy;exact List.pairwise_iff_getElem.1 h i j h1 h2 a
theorem P7 {s:Store} (h:CV s):Nz s=some true:=by
 have hl:=h.len;have hf:=h.few;have d:(B9 s).length=s.Vols.length:=by unfold B9;rw [Be]
 unfold Nz;rw [BW,Ae (by omega),Ac,JE _ (by omega),h.ar,Ex,Ad h.nx];simp only [Aa,Aj,Ac];obtain⟨b,h1,h2⟩:=Bg (body:=λq:Int=>Ic s q) (λ(_:Unit) i=>i) s.Vols.length (λ_ _=>True) (λb=>b= .inl ())
  (λ_ i hi _=>by
   have hx:=Ab hi;have hm:s.Vols[i]∈s.Vols:=AC hi;have hr:s.Vols[i].Root∈B9 s:=AH.2 ⟨_,hm,rfl⟩;simp only [Ic,AG,Ad hi,Af,AB,hx,Aa];rw [Ex,Ad (h.ids _ hm),L8 _ (by omega),h.root _ hr];simp only [Aa,Aj,Ac];have a:(bif(decide ((i:Int)>0))then((gi s.Vols (sb (i:Int) 1)).bind λx2=>bif(decide (x2.Id>=s.Vols[i].Id))then(some true)else(some false))else(some false):Option Bool)=some false:=by
    by_cases h0:i=0
    ·rw [Ae (by omega:¬(i:Int)>0),Ac]
    rw [Ad (by omega:(i:Int)>0),Af,C4 (by omega) (by omega),show(i:Int)-1=((i-1:Nat):Int) by omega,AB,Ab (by omega)];simp only [Aa];have:=N6 h.asc (show i-1<i by omega) (x:=s.Vols[i-1].Id) (y:=s.Vols[i].Id) (by rw [AL,Ab (by omega)];rfl) (by rw [AL,Ab (by omega)];rfl);rw [Ae (by omega),Ac]
   rw [a];simp only [Aa,Ac];obtain⟨c,q1,q2⟩:=Bg (body:=λq:Int=>Ib s s.Vols[i] q) (λ(_:Unit) i=>i) 16 (λ_ _=>True) (λb=>b= .inl ())
    (λ_ k hk _=>by
     simp only [Ib];rw [Ad (by omega:(k:Int)<16),Af,Us _ h.ar (h.root _ hr) hk];simp only [Aa];have:=h.lt _ hr _ (Xm hk);rw [Ae (by omega),Ac,ad1 (by omega)]
     exact .inl ⟨(),rfl,trivial⟩)
    (λ_ _=>⟨_,by simp only [Ib];rw [Ae (by omega:¬((16:Nat):Int)<16),Ac],rfl⟩) (s:=()) trivial
   have q1':Au (λq:Int=>Ib s s.Vols[i] q) 0=some c:=q1;rw [q1',q2];simp only [Aa,B6];rw [ad1 (by omega)]
   exact .inl ⟨(),rfl,trivial⟩)
  (λ_ _=>⟨_,by simp only [Ic,AG,Ap,Av,Ac],rfl⟩) (s:=()) trivial
 have h1':Au (λq:Int=>Ic s q) 0=some b:=h1;rw [h1',h2];simp only [Aa,B6];rw [Rj s (by omega)];simp only [Aa];rw [Wq _ (by omega) h.ar _ (by omega) h.root];simp only [Aa];have:Ra s.Arena.Knots (B9 s)=s.Arena.Knots:=by
  have:=VY h;unfold JZ at this;have:=BR (λz=>z.Arena.Knots) this;exact this
 rw [this];simp
def O7 (x:Leaf):Nat:=bif x.Is==0 then 1 else 0
theorem r6 (l:List Leaf):(l.map O7).sum<=l.length:=by
 induction l with
 |nil=>simp
 |cons x l ih=>
  have:O7 x<=1:=by unfold O7;cases x.Is==0<;>simp
  simp only [BZ,NT,A0];omega
theorem Zs (b:Block) (h:b.Leaves.length<=1048576):NE b=some ((b.Leaves.map O7).sum:Int):=by
 unfold NE;obtain⟨v,h1,rfl⟩:=Bg (body:=λs:Int×Int=>HP b s.1 s.2) (λ(s:Int) i=>(s,i)) b.Leaves.length (λk s=>s=(((b.Leaves.take k).map O7).sum:Nat)) (λv=>v=((b.Leaves.map O7).sum:Nat))
  (λs k hk hs=>by
   have hx:b.Leaves[k]?=some b.Leaves[k]:=Ab hk;have e:=Px O7 b.Leaves k hk;have e2:=MC O7 b.Leaves (k+1);have e3:=r6 b.Leaves;refine .inl ?_;simp only [HP,AG,Ad hk,Af,AB,hx,Aa];have e4:O7 b.Leaves[k]=bif b.Leaves[k].Is==0 then 1 else 0:=rfl
   cases hb:b.Leaves[k].Is==0 with
   |true=>
    rw [hb]at e4;simp only [Af]at e4⊢;rw [ad1 (by omega),C6 (by omega) (by omega)];exact⟨_,rfl,by omega⟩
   |false=>
    rw [hb]at e4;simp only [Ac]at e4⊢;rw [ad1 (by omega)]
    exact⟨_,rfl,by omega⟩)
  (λs hs=>⟨s,by simp only [HP,AG,Ap,Av,Ac],by rw [AP]at hs;exact hs⟩) (s:=0) (by simp)
 rw [h1];rfl
theorem oE (f:Flash) (hf:bM f) (hn:nl f.Blocks<=1048576):∃v:Int,Mi f=some v/\eN f=some v/\0<=v/\v<=nl f.Blocks:=by
 unfold Mi eN;obtain⟨v,h1,h2,h3⟩:=SI (body:=λs:Int×Int=>KQ f s.1 s.2) (body':=λs:Int×Int=>MT f s.1 s.2) (λ(s:Int) i=>(s,i)) (λ(s:Int) i=>(s,i)) f.Blocks.length (λi n=>0<=n/\n<=(((f.Blocks.take i).map λb=>b.Leaves.length).sum:Nat)) (λv=>0<=v/\v<=nl f.Blocks)
  (λn i hi hs=>by
   have hb:f.Blocks[i]?=some f.Blocks[i]:=Ab hi;have hm:f.Blocks[i]∈f.Blocks:=AC _;have d:=Px (λb:Block=>b.Leaves.length) f.Blocks i hi;have g:=MC (λb:Block=>b.Leaves.length) f.Blocks (i+1);unfold nl at hn;have h:=hf.1;have c:=hf.2 _ hm;have j:=r6 f.Blocks[i].Leaves;refine .inl ?_;simp only [KQ,MT,AG,Ad hi,Af,AB,hb,Aa,Zs _ c];obtain⟨u,q1,rfl⟩:=Bg (body:=λs:Int×Int=>KP f (i:Int) s.1 s.2) (λ(s:Int) i=>(s,i)) f.Blocks[i].Leaves.length (λk s=>s=n+(bif f.Blocks[i].Bad then 0 else((f.Blocks[i].Leaves.take k).map O7).sum:Nat)) (λv=>v=n+(bif f.Blocks[i].Bad then 0 else(f.Blocks[i].Leaves.map O7).sum:Nat))
    (λs k hk hs=>by
     have hx:f.Blocks[i].Leaves[k]?=some f.Blocks[i].Leaves[k]:=Ab hk;have e:=Px O7 f.Blocks[i].Leaves k hk;have e2:=MC O7 f.Blocks[i].Leaves (k+1);refine .inl ?_;simp only [KP,AB,hb,Aa,AG,Ad hk,Af,hx]
     cases a:f.Blocks[i].Bad with
     |true=>
      rw [a]at hs;simp only [Aj,Ac,Af]at hs⊢;rw [ad1 (by omega)];exact⟨_,rfl,hs⟩
     |false=>
      rw [a]at hs;simp only [AJ,Ac,Af]at hs⊢;have e4:O7 f.Blocks[i].Leaves[k]=bif f.Blocks[i].Leaves[k].Is==0 then 1 else 0:=rfl
      cases hb:f.Blocks[i].Leaves[k].Is==0 with
      |true=>
       rw [hb]at e4;simp only [Af]at e4⊢;rw [ad1 (by omega),C6 (by omega) (by omega)];exact⟨_,rfl,by omega⟩
      |false=>
       rw [hb]at e4;simp only [Ac]at e4⊢;rw [ad1 (by omega)]
       exact⟨_,rfl,by omega⟩)
    (λs hs=>⟨s,by simp only [KP,AB,hb,Aa,AG,Ap,Av,Ac],by rw [AP]at hs;exact hs⟩) (s:=n) (by cases f.Blocks[i].Bad<;>simp)
   rw [q1];simp only [Aa]
   cases f.Blocks[i].Bad with
   |true=>
    simp only [Af,Aj,Ac];rw [ad1 (by omega)];exact⟨_,rfl,by simp,by omega,by omega⟩
   |false=>
    simp only [Af,AJ,Ac];rw [ad1 (by omega),C6 (by omega) (by omega)]
    exact⟨_,rfl,rfl,by omega,by omega⟩)
  (λn hs=>by
   rw [AP]at hs
   exact⟨n,by simp only [KQ,AG,Ap,Av,Ac],by simp only [MT,AG,Ap,Av,Ac],hs⟩) (s:=0) (by simp)
 rw [h1,h2];exact⟨v,rfl,rfl,h3⟩
end Go.TI
