/- A block that goes bad is not written any more. No condition; no program is in sight. -/
import Derived.Test.YtiaanofedbfeeabGreatBBD
set_option linter.unusedVariables false
set_option linter.unusedSimpArgs false
namespace Go.TI
open Go
def u32 (s:Int):Prop:=0<=s/\s<4294967296
theorem sC (s:Int) (hs:u32 s):∃v,Ap (λs:Int×Int=>IT s.1 s.2) (s,0)=some v/\Ap (λs:Int×Int=>Jd s.1 s.2) (s,0)=some v/\u32 v:=
 I4 (body:=λs:Int×Int=>IT s.1 s.2) (body':=λs:Int×Int=>Jd s.1 s.2) (λ(s:Int) i=>(s,i)) 8 (λ_ s=>u32 s) u32
  (λs i hi hs=>by
   simp only[IT,Jd];rw[Ad (by omega:(i:Int)<8),Ae,Ae,an1 hs.1 hs.2,<-ADT hs.1 hs.2];refine⟨rfl,.inl ?_⟩;have hw:u32 (IntKind.u32.wrap<|Int.tdiv s 2):=by rw[IntKind.wrap_u32];constructor<;>omega
   cases Int.tmod s 2==1
   ·exact⟨_,by rw[Ac,ad1],hw⟩
   exact⟨_,by rw[Ae,ad1],ACu _ _⟩)
  (λs hs=>by
   simp only[IT,Jd]
   grind) (s:=s) hs
theorem r9 (s:Int) (t:ByteArray) (hs:u32 s) (ht:(L t).length<=9223372036854775806):∃v,SM s t=some v/\Tf s t=some v/\u32 v:=by
 obtain⟨v,h1,h2,h3⟩:=I4 (body:=λs:Int×Int=>K3 t s.1 s.2) (body':=λs:Int×Int=>KO t s.1 s.2) (λ(s:Int) i=>(s,i)) (L t).length (λ_ s=>u32 s) u32
  (λs i hi hs=>by
   obtain⟨v,h1,h2,h3⟩:=sC (xr s<|IntKind.u32.wrap ((L t)[i]).toNat)<|ACu _ _;simp only[K3,KO];rw[Ad (by rw[B9];omega:(i:Int)<FM t),Ae,Ae,Fl t hi,Aa,Aa,h1,h2]
   exact⟨rfl,.inl ⟨v,by rw[Aa,ad1],h3⟩⟩)
  (λs hs=>by
   simp only[K3,KO];rw[Af (by rw[B9];omega:¬((L t).length:Int)<FM t),Ac,Ac]
   grind) (s:=s) hs
 unfold SM Tf
 grind
theorem oW (t:ByteArray) (ht:(L t).length<=9223372036854775806):∃v,OF t=some v/\Y3 t=some v/\u32 v:=by
 obtain⟨v,h1,h2,h3⟩:=r9 4294967295 t ⟨by omega,by omega⟩ ht;unfold OF Y3
 grind
def four (v:Int):ByteArray:=Fo [IntKind.u8.wrap<|Int.fdiv v<|2^(min (24:Int).toNat IntKind.u32.bits),IntKind.u8.wrap<|Int.fdiv v<|2^(min (16:Int).toNat IntKind.u32.bits),IntKind.u8.wrap<|Int.fdiv v<|2^(min (8:Int).toNat IntKind.u32.bits),IntKind.u8.wrap v]
theorem VR (v:Int):(L (four v)).length=4:=by rfl
theorem gH (t:ByteArray):IC t=K6 t:=by
 unfold IC K6;by_cases h:(FM t)>20000
 ·grind
 rw[Af h,Ac,Ac];rw[B9]at h;obtain⟨v,h1,h2,_⟩:=oW t (by omega);rw[h1,h2];rfl
theorem Ty (t:ByteArray):(20000<(L t).length->K6 t=some (bs [],false))/\((L t).length<=20000->∃v,OF t=some v/\K6 t=some (t++four v,true)):=by
 unfold K6;rw[B9];refine⟨λh=>by rw[cT],λh=>?_⟩;obtain⟨v,h1,h2,_⟩:=oW t (by omega);rw[cF,h1];refine⟨v,rfl,?_⟩;have:L3 v=some (four v):=rfl;rw[Aa,this,Aa,FU _ _ (by rw[VR];omega),Aa]
theorem oT (t:ByteArray) (ht:(L t).length<=9223372036854775806):∃u ok,L5 t=some (u,ok)/\Q8 t=some (u,ok)/\(ok=true->(L u).length<=20000/\∃v,OF u=some v/\t=u++four v)/\(ok=false->u=bs []):=by
 unfold L5 Q8;have e4:sb (FM t) 4=((L t).length:Int)-4:=by rw[B9,Cj]
 rw[e4];by_cases h4:(L t).length<4
 ·rw[Ad (by omega:((L t).length:Int)-4<0),Ad (by rw[B9];omega:FM t<4)]
  grind
 rw[Af (by omega:¬((L t).length:Int)-4<0),Af (by rw[B9];omega:¬FM t<4)];simp only[Ac];have en:((L t).length:Int)-4=(((L t).length-4:Nat):Int):=by omega
 rw[en,B9];have b:sub t 0 (((L t).length-4:Nat):Int)=some (t.extract 0<|(L t).length-4):=FK t (i:=0) (by omega) (by omega);have a:sub t (((L t).length-4:Nat):Int) ((L t).length:Int)=some (t.extract ((L t).length-4) (L t).length):=FK t (by omega) (by omega);rw[b,a];simp only[Aa];have hu:(L<|t.extract 0<|(L t).length-4).length=(L t).length-4:=by rw[IP];simp
 obtain⟨k1,k2⟩:=Ty<|t.extract 0<|(L t).length-4;rw[gH];by_cases hb:20000<(L t).length-4
 ·grind
 obtain⟨v,h1,h2⟩:=k2 (by omega);rw[Af (by omega:¬(((L t).length-4:Nat):Int)>20000),h1,h2];have h3:L3 v=some (four v):=rfl;simp only[Ac,Aa,h3,Ah];have c:seq (t.extract ((L t).length-4) (L t).length) (four v)=seq (t.extract 0 ((L t).length-4)++four v) t:=by
  rw[Rp,Rp,DZ,IP,IP,DU,A5,A5];have e1:List.take ((L t).length-((L t).length-4)) (List.drop ((L t).length-4)<|L t)=(L t).drop ((L t).length-4):=AN (by simp);have e2:List.take ((L t).length-4-0) (List.drop 0<|L t)=(L t).take ((L t).length-4):=by simp
  rw[e1,e2];constructor
  ·intro h;rw[<-h,Ci]
  grind
 rw[c]
 cases hs:seq (t.extract 0 ((L t).length-4)++four v) t with
 |false=>grind
 |true=>
  rw[Lu,A5]at hs
  grind
theorem IY (n:Nat) (h:n<=1099511627776):∃s,HA (n:Int)=some s/\L s=Cw n:=by
 unfold HA;obtain⟨m,o,h1,h2,h3,h4⟩:=fZ (body:=λs:Int×List Int=>OE s.1 s.2) (λ_ _=>rfl) n [] (by simpa using h);rw[h1,Aa];have:IntKind.u8.wrap (m:Int)=m:=by rw[IntKind.wrap_u8];omega
 rw[this,BP (by grind),Aa];refine⟨_,rfl,?_⟩;rw[LX,h4];simp
def ACA (t:ByteArray) (at_:Int) (r:Int×Int×Bool):Prop:=(r.2.2=false/\r.1=0/\r.2.1=0)\/(r.2.2=true/\∃(a b n:Nat),at_=a/\r.2.1=b/\r.1=n/\a<b/\b<=(L t).length/\n<=1000000000/\Cw n=((L t).drop a).take (b-a))
theorem YV (l:List UInt8) (a k:Nat) (h:a+k<l.length):(l.drop a).take (k+1)=(l.drop a).take k++ [l[a+k]]:=by
 rw[Ao (by simp;omega),UP]
theorem iW (k:Nat) (h:k<5):(128:Nat)^k<=268435456:=by
 have:k<=4:=by omega
 calc 128^k<=128^4:=Nat.pow_le_pow_right (by omega) this
  _=268435456:=by decide
theorem Yo:∀ds:List UInt8,Fx ds<128^ds.length
 |[]=>by simp[Fx]
 |d::ds=>by
  have:=Yo ds;simp only[Fx,A7,Yj];omega
theorem ABq (x k:Nat) (hx:x<128) (hk:k<5):shl .i64 (x:Int) (ml 7 (k:Int))=some ((x*128^k:Nat):Int):=by
 have h7:ml 7 (k:Int)=((7*k:Nat):Int):=by rw[PE (by omega)<|by omega];omega
 unfold shl;rw[h7,Av<|by omega];have e:(2:Int)^(min ((7*k:Nat):Int).toNat IntKind.i64.bits)=((128^k:Nat):Int):=by
  have hb:IntKind.i64.bits=64:=rfl;have h128:(128:Nat)^k=2^(7*k):=by rw[Nat.pow_mul]
  grind
 rw[e];have hp:=iW k hk;have hm:x*128^k<=128*268435456:=dQ (by omega) hp;have ec:(x:Int)*((128^k:Nat):Int)=((x*128^k:Nat):Int):=by norm_cast
 rw[ec,Pw (by omega)<|by omega]
theorem gR (x:Nat):Int.tmod (x:Int) 128=((x %128:Nat):Int):=rfl
theorem IL (t:ByteArray) (at_:Int) (ht:(L t).length<=4611686018427387904) (o:oI at_):∃r,Kh t at_=some r/\Ko t at_=some r/\ACA t at_ r:=by
 have fails:∀(at_:Int),(at_<0\/((L t).length:Int)<=at_)->oI at_->Ko t at_=some (0,0,false):=by
  intro at_ h o;unfold Ko;rw[A0];simp only[H8];rw[cT];by_cases h0:at_>=0
  ·rw[Ad h0,Ae,B9,Cj,Af<|by omega];rfl
  grind
 by_cases h4:0<=at_/\at_<(L t).length
 ·obtain⟨a,rfl⟩:=C0 h4.1;have ha:a<(L t).length:=by omega
  have h5:∀(B1:Int×Int×Int->Option ((Int×Int×Int)⊕Unit⊕(Int×Int×Bool))) (B2:Int×Int->Option ((Int×Int)⊕Unit⊕(Int×Int×Bool))),(∀n sc i,B1 (n,sc,i)=DT t (a:Int) n sc i)->(∀n k,B2 (n,k)=H8 t (a:Int) n k)->∀(m k:Nat),k+m=5->a+k<=(L t).length->(∀d∈((L t).drop a).take k,128<=d.toNat)->
    ∃r,(Ap B1 (((Fx (((L t).drop a).take k):Nat):Int),((128^k:Nat):Int),((a+k:Nat):Int))=some r/\Ap B2 (((Fx (((L t).drop a).take k):Nat):Int),(k:Int))=some r)/\(r= .inl ()\/∃q,r= .inr q/\ACA t (a:Int) q):=by
   intro B1 B2 p u m
   induction m with
   |zero=>
    intro k hk h6 hd;have f:k=5:=by omega
    subst f;refine⟨.inl (),⟨?_,?_⟩,.inl rfl⟩
    ·rw[A0];simp only[p,DT];rw[C6,Af (by omega:¬((a+5:Nat):Int)<(a:Int)+5)]
     grind
    rw[A0];simp only[u,H8];rfl
   |succ m ih=>
    intro k hk h6 hd;rw[A0,A0 B2];simp only[p,u,DT,H8];have f:k<5:=by omega
    rw[C6 (b:=5) (by omega) (by omega),Ad (by omega:((a+k:Nat):Int)<(a:Int)+5),Ad (by omega:(k:Int)<5),Ad (by omega:(a:Int)>=0),B9,Cj];by_cases v:a+k<(L t).length
    ·rw[Ad (by omega:((a+k:Nat):Int)<((L t).length:Int)),Ad (by omega:(a:Int)<((L t).length:Int)-k)];have eak:ad (a:Int) (k:Int)=((a+k:Nat):Int):=by rw[C6];omega
     simp only[Ae,Aa,Fl t v,eak];have hx:=lG<|(L t)[a+k];have j:=YV (L t) a k v;have w:(((L t).drop a).take k).length=k:=by simp;omega
     have g:=O9 (((L t).drop a).take k) [(L t)[a+k]];rw[<-j,w]at g;have h7:=Yo<|((L t).drop a).take k;rw[w]at h7;have hp:=iW k f;generalize a4:(L t)[a+k]=x at hx j g;simp only[Fx,Nat.mul_zero,HV]at g;have hw:IntKind.i64.wrap (x.toNat:Int)=x.toNat:=Pw (by omega) (by omega);have a2:x.toNat %128*128^k<=127*268435456:=dQ (by omega) hp;have emul:ml ((x.toNat %128:Nat):Int) ((128^k:Nat):Int)=((x.toNat %128*128^k:Nat):Int):=by
      have ec:((x.toNat %128:Nat):Int)*((128^k:Nat):Int)=((x.toNat %128*128^k:Nat):Int):=by norm_cast
      rw[PE (by rw[ec];omega) (by rw[ec];omega),ec]
     have enew:ad (((Fx (((L t).drop a).take k):Nat)):Int) ((x.toNat %128*128^k:Nat):Int)=((Fx (((L t).drop a).take<|k+1):Nat):Int):=by
      rw[C6,g,sJ<|128^k];omega
     rw[hw,gR,ABq _ k (by omega) f];simp only[Aa,emul,enew];by_cases l:x.toNat<128
     ·rw[Ad (by omega:(x.toNat:Int)<128),Af (by omega:¬(x.toNat:Int)>=128)];simp only[Ae,Ac];have ek1:ad ((a+k:Nat):Int) 1=((a+k+1:Nat):Int):=ad1 (by omega);have c:=fY (((L t).drop a).take k) x hd l;rw[<-j]at c;have h8:(((L t).drop a).take k≠ [])↔0<k:=by grind
      rw[h8]at c;have y:sub t (a:Int) ((a+k+1:Nat):Int)=some (t.extract a<|a+k+1):=FK t (by omega) (by omega);rw[ek1,y];by_cases a3:Fx (((L t).drop a).take<|k+1)>1000000000
      ·rw[Ad (by omega:((Fx (((L t).drop a).take<|k+1):Nat):Int)>1000000000)];refine⟨.inr (0,0,false),⟨rfl,?_⟩,.inr ⟨_,rfl,.inl ⟨rfl,rfl,rfl⟩⟩⟩
       grind
      rw[Af (by omega:¬((Fx (((L t).drop a).take<|k+1):Nat):Int)>1000000000)];obtain⟨s,h9,a0⟩:=IY (Fx<|((L t).drop a).take<|k+1) (by omega);simp only[Ac,Aa,h9];have z:seq s (t.extract a<|a+k+1)=decide (¬(x.toNat=0/\0<k)):=by
       rw[Rp,a0,IP,show a+k+1-a=k+1 by omega,DU,A5,A5];exact c
      rw[z];by_cases hz:x.toNat=0/\0<k
      ·rw[Af λe=>e hz];refine⟨.inr (0,0,false),⟨rfl,?_⟩,.inr ⟨_,rfl,.inl ⟨rfl,rfl,rfl⟩⟩⟩
       grind
      rw[Ad hz];refine⟨.inr (((Fx (((L t).drop a).take<|k+1):Nat):Int),((a+k+1:Nat):Int),true),⟨rfl,?_⟩,.inr ⟨_,rfl,.inr ⟨rfl,a,a+k+1,_,rfl,rfl,rfl,by omega,by omega,by omega,?_⟩⟩⟩
      ·by_cases a1:x.toNat=0
       ·have:((x.toNat:Int)==0)=true:=by rw[a1];rfl
        rw[this,Af (by omega:¬(k:Int)>0)];rfl
       grind
      rw[show a+k+1-a=k+1 by omega];exact c.2 hz
     rw[Af (by omega:¬(x.toNat:Int)<128),Ad (by omega:(x.toNat:Int)>=128)];simp only[Ae,Ac];have e1:ml ((128^k:Nat):Int) 128=((128^(k+1):Nat):Int):=by
      rw[PE (by omega) (by omega),Yj];norm_cast
     have e2:ad ((a+k:Nat):Int) 1=((a+(k+1):Nat):Int):=ad1 (by omega);have e3:ad (k:Int) 1=((k+1:Nat):Int):=ad1 (by omega);rw[e1,e2,e3];exact ih (k+1) (by omega) (by omega)<|by grind
    rw[Af (by omega:¬((a+k:Nat):Int)<((L t).length:Int)),Af (by omega:¬(a:Int)<((L t).length:Int)-k)];simp
  obtain⟨r,⟨h1,h2⟩,h3⟩:=h5 (λs=>DT t (a:Int) s.1 s.2.1 s.2.2) (λs=>H8 t (a:Int) s.1 s.2) (λ_ _ _=>rfl) (λ_ _=>rfl) 5 0 rfl (by omega) (by simp);unfold Kh Ko;have hw:BM (a:Int) 0 (FM t)=some true:=by
   unfold BM;rw[cT,B9,Ad<|by omega]
  rw[hw];simp only[Aa,Ah,Ac];simp only[Jh,Fx,Nat.pow_zero,HV]at h1 h2;rw[show((0:Nat):Int)=0 from rfl,show((1:Nat):Int)=1 from rfl]at h1;rw[show((0:Nat):Int)=0 from rfl]at h2;rw[h1,h2]
  rcases h3 with rfl|⟨q,rfl,h3⟩
  ·exact⟨_,rfl,rfl,.inl ⟨rfl,rfl,rfl⟩⟩
  grind
 have hf:=fails at_ (by omega) o;refine⟨(0,0,false),?_,hf,.inl ⟨rfl,rfl,rfl⟩⟩;unfold Kh;by_cases h0:0<=at_/\at_<=(L t).length
 ·have hw:BM at_ 0 (FM t)=some true:=by
   unfold BM;rw[cT,B9,Ad<|by omega]
  rw[hw];simp only[Aa,Ah,Ac];rw[A0];simp only[DT];rw[Af (by rw[B9];omega:¬at_<FM t)];rfl
 have hw:BM at_ 0 (FM t)=some false:=by
  unfold BM;by_cases h1:at_>=0
  ·rw[Ad h1,Ae,B9,Af<|by omega]
  grind
 rw[hw];rfl
theorem aN:He=BM:=rfl
variable {r n x:Int} {R:List Int} {i s j:Nat} {α γ:Type} {p:Nat->Bool} {l:List α}
theorem CQ {i:Int} {x:α} (h:gi l i=some x):0<=i/\l[i.toNat]?=some x:=by
 unfold gi at h;split at h
 ·exact⟨by assumption,h⟩
 cases h
theorem QS:NH=Gd:=by
 have h2:N2=EH:=by
  funext x y;unfold N2 EH
  cases decide (y<ln x.Leaves)with
  |false=>rfl
  |true=>
   simp only[Ae]
   cases gi x.Leaves y with
   |none=>rfl
   |some z=>rfl
 funext f;unfold NH Gd;have:N3 f=EI f:=by
  funext i;unfold N3 EI;rw[h2];rfl
 rw[this];rfl
def JW (f:Flash):Prop:=f.Blocks.length<=1048576/\∀b∈f.Blocks,b.Leaves.length<=1048576
theorem Rr (x a b:Int):BM x a b=some (decide (a<=x)&&decide (x<=b)):=by
 unfold BM;by_cases h:x>=a
 ·rw[Ad h,Ae,Dn]
 rw[Af h,Ac,Bool.false_and]
theorem ABR (x:Leaf):∃v,NB x=some v:=by
 unfold NB;cases x.Is==0
 ·simp only[Ac];cases x.Is==1
  ·simp only[Ac];cases x.Is==2<;>exact⟨_,rfl⟩
  simp only[Ae,Rr,Aa];exact⟨_,rfl⟩
 exact⟨_,rfl⟩
theorem UL (f:Flash) (h:JW f):∃v,Gd f=some v/\(v=true->f.Blocks.length<=10/\∀b∈f.Blocks,b.Leaves.length=4):=by
 have a:=AS (body:=λs:Int=>EI f s) (λ(_:Unit) i=>i) f.Blocks.length (λi _=>∀j b,j<i->f.Blocks[j]?=some b->b.Leaves.length=4) (λr=>r= .inr false\/r= .inl ()/\∀b∈f.Blocks,b.Leaves.length=4)
  (λs i hi hs=>by
   obtain⟨x,hx⟩:∃x,f.Blocks[i]?=some x:=⟨_,Ab hi⟩;have hM:=h.1;have hL:=h.2 x<|Aq hx;simp only[EI,Ez hi,Aw,hx,Aa,Rr];by_cases h4:x.Leaves.length=4
   ·have e1:(ln x.Leaves !=4)=false:=by simp[ln,h4]
    simp only[e1,Ac,Aa]
    cases hw:(decide (0<=x.Wear)&&decide (x.Wear<=1000000000))with
    |false=>exact .inr ⟨_,rfl,.inl rfl⟩
    |true=>
     simp only[Ah,Ac];obtain⟨r,h5,h6⟩:=AS (body:=λs:Int=>EH x s) (λ(_:Unit) i=>i) x.Leaves.length (λ_ _=>True) (λr=>r= .inl ()\/r= .inr (.inr<|.inr false))
      (λs k hk _=>by
       obtain⟨y,hy⟩:∃y,x.Leaves[k]?=some y:=⟨_,Ab hk⟩;obtain⟨v,hv⟩:=ABR y;simp only[EH,Ez hk,Aw,hy,Aa,hv];have fin:∀j:Bool,(∃s':Unit,(bif j then some (.inr<|.inr<|.inr<|.inr false)else some (.inl<|ad (k:Int) 1):Option (Int⊕Unit⊕Int⊕Unit⊕Bool))=some (.inl (((k+1:Nat)):Int))/\True)\/∃b,(bif j then some (.inr<|.inr<|.inr<|.inr false)else some (.inl<|ad (k:Int) 1):Option (Int⊕Unit⊕Int⊕Unit⊕Bool))=some (.inr b)/\(b= .inl ()\/b= .inr (.inr<|.inr false)):=by
        intro j
        cases j with
        |true=>exact .inr ⟨_,rfl,.inr rfl⟩
        |false=>exact .inl ⟨(),by rw[Ac,ad1],trivial⟩
       cases v with
       |false=>exact fin true
       |true=>
        simp only[Ah,Ac];by_cases c:0<k
        ·rw[cT,Cj,KX (by omega) (by omega),Aa];cases(x.Leaves[((k:Int)-1).toNat]'(by omega)).Is==0
         ·exact fin false
         exact fin<|y.Is !=0
        rw[Af (by omega:¬(k:Int)>0)]
        exact fin false)
      (λs _=>⟨_,by simp only[EH,Ec],.inl rfl⟩) (s:=()) trivial
     rw[h5,Aa]
     rcases h6 with rfl|rfl
     ·refine .inl ⟨(),by rw[Bz,ad1],?_⟩;intro j b hj hb;by_cases e:j=i
      ·subst e;rw[hx]at hb;injection hb with hb;rw[<-hb];exact h4
      exact hs j b (by omega) hb
     exact .inr ⟨_,rfl,.inl rfl⟩
   have e1:(ln x.Leaves !=4)=true:=by simp[ln];omega
   simp only[e1,Ae,Aa]
   exact .inr ⟨_,rfl,.inl rfl⟩)
  (λs hs=>⟨_,by simp only[EI,Ec],.inr ⟨rfl,λb hb=>by
   obtain⟨j,hj,e⟩:=AC hb
   exact hs j b hj (by rw[<-e];exact Ab hj)⟩⟩) (s:=()) (λj b hj=>absurd hj<|by omega)
 obtain⟨r,h1,h2⟩:=a;unfold Gd;rw[h1,Aa]
 rcases h2 with rfl|⟨rfl,h2⟩
 ·exact⟨false,rfl,by simp⟩
 simp only[Bz,Rr,Aa];refine⟨_,rfl,λe=>⟨?_,h2⟩⟩;rw[Ak,A5,A5,B4]at e;omega
theorem Tz (p:Page):∃v,K9 p=some v/\Sx p=some v/\(v=true->(p.Kind=1\/p.Kind=2)/\(1<=p.Seq/\p.Seq<=1000000000)/\(1<=p.Tx/\p.Tx<=1000000000)/\(1<=p.Count/\p.Count<=9)/\(0<=p.Part/\p.Part<p.Count)/\FM p.Text<=90):=by
 unfold K9 Sx;rw[aN];simp only[Rr,Aa];by_cases h1:1<=p.Seq/\p.Seq<=1000000000
 ·by_cases h2:1<=p.Tx/\p.Tx<=1000000000
  ·by_cases h3:1<=p.Count/\p.Count<=9
   ·have e:sb p.Count 1=p.Count-1:=Cj (by omega) (by omega);rw[e];by_cases h4:0<=p.Part/\p.Part<=p.Count-1
    ·by_cases h5:FM p.Text>90
     ·refine⟨false,?_,?_,by simp⟩
      ·grind
      grind
     by_cases k2:p.Kind=2
     ·exact⟨true,by grind,by grind,λ_=>⟨.inr k2,h1,h2,h3,⟨h4.1,by omega⟩,by omega⟩⟩
     by_cases k1:p.Kind=1
     ·exact⟨p.Count==1,by grind,by grind,λ_=>⟨.inl k1,h1,h2,h3,⟨h4.1,by omega⟩,by omega⟩⟩
     have hk:(decide (1<=p.Kind)&&decide (p.Kind<=2))=false:=by grind
     have e1:(p.Kind==1)=false:=by simpa using k1
     have e2:(p.Kind==2)=false:=by simpa using k2
     exact⟨false,by simp[hk],by grind,by simp⟩
    have e4:(decide (0<=p.Part)&&decide (p.Part<=p.Count-1))=false:=by grind
    refine⟨false,?_,?_,by simp⟩
    ·grind
    grind
   have e3:(decide (1<=p.Count)&&decide (p.Count<=9))=false:=by grind
   refine⟨false,?_,?_,by simp⟩
   ·grind
   simp[h1,h2,e3]
  have e2:(decide (1<=p.Tx)&&decide (p.Tx<=1000000000))=false:=by grind
  refine⟨false,?_,?_,by simp⟩
  ·grind
  simp[h1,e2]
 have e1:(decide (1<=p.Seq)&&decide (p.Seq<=1000000000))=false:=by grind
 refine⟨false,?_,?_,by simp⟩
 ·grind
 simp[e1]
def fE:Page:=Page.mk 0 0 0 0 0<|bs []
theorem H5 (u:ByteArray) (a:Int) (hu:(L u).length<=20000) (ha:oI a):Dt (EA.mk u a true)=some (0,EA.mk u a true):=by
 obtain⟨r,h1,_,_⟩:=IL u a (by omega) ha;unfold Dt
 grind
theorem Km {r:Int×Int×Bool} (u:ByteArray) (a:Int) (hu:(L u).length<=20000) (h:Kh u a=some r):Dt (EA.mk u a false)=some (cond r.2.2 (r.1,EA.mk u r.2.1 false) (0,EA.mk u a true)):=by
 unfold Dt
 grind
theorem QY {a b:Nat} (l:List UInt8) (h:a<=b):l.drop a=(l.drop a).take (b-a)++l.drop b:=by
 have:=(Ci (b-a)<|l.drop a).symm;rw[CI,show a+(b-a)=b by omega]at this;exact this
theorem XT (p:Page) (u:ByteArray) (k:UInt8) (n1 n2 n3 n4:Nat) (hp:K9 p=some true) (hk:p.Kind=(k.toNat:Int)) (h1:p.Seq=n1) (h2:p.Tx=n2) (h3:p.Part=n3) (h4:p.Count=n4) (b1:n1<=1000000000) (b2:n2<=1000000000) (b3:n3<=1000000000) (b4:n4<=1000000000) (hu:(L u).length<=20000) (e:L u=[k]++Cw n1++Cw n2++Cw n3++Cw n4++L p.Text):E9 p=K6 u:=by
 obtain⟨s1,q1,r1⟩:=IY n1 (by omega);obtain⟨s2,q2,r2⟩:=IY n2 (by omega);obtain⟨s3,q3,r3⟩:=IY n3 (by omega);obtain⟨s4,q4,r4⟩:=IY n4 (by omega);have hl:=BG List.length e;simp only[Ai,A8]at hl;have hb:Kd p.Kind=some (Fo [IntKind.u8.wrap p.Kind]):=rfl;have a:L (Fo [IntKind.u8.wrap p.Kind])=[k]:=by
  rw[LX,hk,IntKind.wrap_u8];have:=lG k;have e2:((k.toNat:Int) %256).toNat=k.toNat:=by omega
  simp only[BJ,sK,e2,UInt8.ofNat_toNat]
 unfold E9;rw[hp];simp only[Aa,Ah,Ac,hb,h1,h2,h3,h4,q1,q2,q3,q4];rw[FU _ _ (by grind),Aa,FU _ _ (by rw[DZ,a,r1,r2];grind),Aa,FU _ _ (by rw[DZ,DZ,a,r1,r2,r3];grind),Aa,FU _ _ (by rw[DZ,DZ,DZ,a,r1,r2,r3,r4];grind),Aa,FU _ _ (by rw[DZ,DZ,DZ,DZ,a,r1,r2,r3,r4];grind),Aa];have:Fo [IntKind.u8.wrap p.Kind]++s1++s2++s3++s4++p.Text=u:=by
  apply Lf;rw[DZ,DZ,DZ,DZ,DZ,a,r1,r2,r3,r4,e]
 rw[this]
 cases K6 u with
 |none=>rfl
 |some v=>rfl
theorem IM (t:ByteArray) (ht:(L t).length<=9223372036854775806):∃p ok,F7 t=some (p,ok)/\QE t=some (p,ok)/\(ok=false->p=fE)/\(ok=true->K9 p=some true):=by
 obtain⟨u,uok,j,k,m,n⟩:=oT t ht;unfold F7 QE;rw[j,k];simp only[Aa];have o1:oI 1:=⟨by omega,by omega⟩
 cases uok with
 |false=>
  have:=n rfl;subst this;have hz:(L<|bs []).length<=20000:=by rw[EY];simp
  simp only[AD,Ae,Aa,H5 _ _ hz o1];exact⟨fE,false,rfl,rfl,λ_=>rfl,by simp⟩
 |true=>
  obtain⟨e,v,hv,o⟩:=m rfl;simp only[Ah,Ac,Aa];by_cases he:(L u).length<1
  ·have g:seq u (bs [])=true:=by
    rw[Rp,A5,EY]
    grind
   rw[Ad (by rw[B9];omega:FM u<1),g];simp only[Ae,H5 _ _ e o1,Aa];exact⟨fE,false,rfl,rfl,λ_=>rfl,by simp⟩
  have g:seq u (bs [])=false:=by
   rw[Rp,DI,EY]
   grind
  rw[Af (by rw[B9];omega:¬FM u<1),g];simp only[Ac];have four_:∀(B:Int×Int×Int×Int×Int×Int->Option ((Int×Int×Int×Int×Int×Int)⊕(Int×Int×Int×Int×Int)⊕(Page×Bool))),(∀x y a b c d,B (x,y,a,b,c,d)=EM (u,true) x y a b c d)->
    ∃(a:Int) (m1 m2 m3 m4:Int) (bad:Bool),(∃c1 c2 c3,Dt (EA.mk u 1 false)=some (m1,c1)/\Dt c1=some (m2,c2)/\Dt c2=some (m3,c3)/\Dt c3=some (m4,EA.mk u a bad))/\
     Ap B (1,0,0,0,0,0)=some (bif bad then .inr (fE,false)else .inl (a,m1,m2,m3,m4))/\(bad=false->∃(a1 a2 a3 a4 n1 n2 n3 n4:Nat),m1=n1/\m2=n2/\m3=n3/\m4=n4/\a=a4/\1<a1/\a1<a2/\a2<a3/\a3<a4/\a4<=(L u).length/\n1<=1000000000/\n2<=1000000000/\n3<=1000000000/\n4<=1000000000/\
      Cw n1=((L u).drop 1).take (a1-1)/\Cw n2=((L u).drop a1).take (a2-a1)/\Cw n3=((L u).drop a2).take (a3-a2)/\Cw n4=((L u).drop a3).take (a4-a3)):=by
   intro B hB;obtain⟨r1,p1,q1,w1⟩:=IL u 1 (by omega) o1;have g1:=Km u 1 e p1;rw[A0,hB];unfold EM;rw[cT,q1,Aa]
   rcases w1 with⟨w1,w2,w3⟩|⟨w1,a0',a1,n1,z0,z1,z2,z3,z4,z5,z6⟩
   ·rw[w1]at g1⊢;exact⟨1,0,0,0,0,true,⟨_,_,_,g1,H5 u 1 e o1,H5 u 1 e o1,H5 u 1 e o1⟩,rfl,by simp⟩
   have ea0:a0'=1:=by omega
   subst ea0;rw[w1]at g1⊢;have x1:oI r1.2.1:=⟨by omega,by omega⟩;simp only[Ah,Ac,Ae]at g1⊢;rw[show((0:Int)==0)=true from rfl,Ae,show ad 0 1=1 from ad1 (i:=0)<|by omega];simp only;obtain⟨r2,p2,q2,y1⟩:=IL u r1.2.1 (by omega) x1;have g2:=Km u r1.2.1 e p2;rw[A0,hB];unfold EM;rw[cT,q2,Aa]
   rcases y1 with⟨y1,_,_⟩|⟨y1,b0,a2,n2,y2,y3,y4,y5,y6,y7,y8⟩
   ·rw[y1]at g2⊢;exact⟨r1.2.1,r1.1,0,0,0,true,⟨_,_,_,g1,g2,H5 u _ e x1,H5 u _ e x1⟩,rfl,by simp⟩
   have eb:b0=a1:=by omega
   subst eb;rw[y1]at g2⊢;have x2:oI r2.2.1:=⟨by omega,by omega⟩;simp only[Ah,Ac,Ae]at g2⊢;rw[show((1:Int)==0)=false from rfl,Ac,show((1:Int)==1)=true from rfl,Ae,show ad 1 1=2 from ad1 (i:=1)<|by omega];simp only;obtain⟨r3,p3,q3,k1⟩:=IL u r2.2.1 (by omega) x2;have g3:=Km u r2.2.1 e p3;rw[A0,hB];unfold EM;rw[cT,q3,Aa]
   rcases k1 with⟨k1,_,_⟩|⟨k1,c0,a3,n3,k2,k3,k4,k5,k6,k7,k8⟩
   ·rw[k1]at g3⊢;exact⟨r2.2.1,r1.1,r2.1,0,0,true,⟨_,_,_,g1,g2,g3,H5 u _ e x2⟩,rfl,by simp⟩
   have ec:c0=a2:=by omega
   subst ec;rw[k1]at g3⊢;have x3:oI r3.2.1:=⟨by omega,by omega⟩;simp only[Ah,Ac,Ae]at g3⊢;rw[show((2:Int)==0)=false from rfl,Ac,show((2:Int)==1)=false from rfl,Ac,show((2:Int)==2)=true from rfl,Ae,show ad 2 1=3 from ad1 (i:=2)<|by omega];simp only;obtain⟨r4,p4,q4,l1⟩:=IL u r3.2.1 (by omega) x3;have g4:=Km u r3.2.1 e p4;rw[A0,hB];unfold EM;rw[cT,q4,Aa]
   rcases l1 with⟨l1,_,_⟩|⟨l1,d0,a4,n4,l2,l3,l4,l5,l6,l7,l8⟩
   ·rw[l1]at g4⊢;exact⟨r3.2.1,r1.1,r2.1,r3.1,0,true,⟨_,_,_,g1,g2,g3,g4⟩,rfl,by simp⟩
   have ed:d0=a3:=by omega
   subst ed;rw[l1]at g4⊢;simp only[Ah,Ac,Ae]at g4⊢;rw[show((3:Int)==0)=false from rfl,Ac,show((3:Int)==1)=false from rfl,Ac,show((3:Int)==2)=false from rfl,Ac,show((3:Int)==3)=true from rfl,Ae,show ad 3 1=4 from ad1 (i:=3)<|by omega];simp only;rw[A0,hB];unfold EM;rw[cF];exact⟨r4.2.1,r1.1,r2.1,r3.1,r4.1,false,⟨_,_,_,g1,g2,g3,g4⟩,rfl,λ_=>⟨b0,c0,d0,a4,n1,n2,n3,n4,z2,y4,k4,l4,l3,z3,y5,k5,l5,l6,z5,y7,k7,l7,z6,y8,k8,l8⟩⟩
  obtain⟨a,m1,m2,m3,m4,bad,⟨c1,c2,c3,f1,f2,f3,f4⟩,f5,f6⟩:=four_ (λs:Int×Int×Int×Int×Int×Int=>EM (u,true) s.1 s.2.1 s.2.2.1 s.2.2.2.1 s.2.2.2.2.1 s.2.2.2.2.2) λ_ _ _ _ _ _=>rfl;rw[f5];simp only[f1,f2,f3,f4,Aa]
  cases bad with
  |true=>exact⟨fE,false,rfl,rfl,λ_=>rfl,by simp⟩
  |false=>
   obtain⟨a1,a2,a3,a4,n1,n2,n3,n4,rfl,rfl,rfl,rfl,rfl,i1,i2,i3,i4,i5,j1,j2,j3,j4,s1,s2,s3,s4⟩:=f6 rfl;simp only[Ac,Aa,Bz];have q:sx u 0=some (((L u)[0]'(by omega)).toNat:Int):=Fl u (i:=0) (by omega);have h:sub u (a4:Int) (FM u)=some (u.extract a4 (L u).length):=by rw[B9];exact FK u (by omega)<|by omega
   rw[q,h];simp only[Aa];have hk:=lG ((L u)[0]'(by omega));have hw:IntKind.i64.wrap (((L u)[0]'(by omega)).toNat:Int)=((L u)[0]'(by omega)).toNat:=Pw (by omega) (by omega);rw[hw];obtain⟨po,po1,po2,_⟩:=Tz (Page.mk (((L u)[0]'(by omega)).toNat:Int) n1 n2 n3 n4<|u.extract a4 (L u).length);rw[po2];simp only[Aa]
   cases po with
   |false=>
    have:E9 (Page.mk (((L u)[0]'(by omega)).toNat:Int) n1 n2 n3 n4<|u.extract a4 (L u).length)=some (bs [],false):=by
     unfold E9;rw[po1];rfl
    rw[this];exact⟨fE,false,rfl,rfl,λ_=>rfl,by simp⟩
   |true=>
    have hT:L (u.extract a4 (L u).length)=(L u).drop a4:=by
     rw[IP];exact AN<|by simp
    have f:L u=[(L u)[0]'(by omega)]++Cw n1++Cw n2++Cw n3++Cw n4++L (u.extract a4 (L u).length):=by
     rw[hT,s1,s2,s3,s4];have h0:L u=[(L u)[0]'(by omega)]++(L u).drop 1:=by
      have:=AT (l:=L u) (i:=0) (by omega);simpa using this
     have d1:=QY (L u) (a:=1) (b:=a1) (by omega);have d2:=QY (L u) (a:=a1) (b:=a2) (by omega);have d3:=QY (L u) (a:=a2) (b:=a3) (by omega);have d4:=QY (L u) (a:=a3) (b:=a4) (by omega);simp only[Ax];rw[<-d4,<-d3,<-d2,<-d1];exact h0
    rw[XT _ u ((L u)[0]'(by omega)) n1 n2 n3 n4 po1 rfl rfl rfl rfl rfl j1 j2 j3 j4 e f];obtain⟨v',hv',hs'⟩:=(Ty u).2 e;rw[hv]at hv'
    injection hv' with hv'
    subst hv';rw[hs',Aa];have:seq (u++four v) t=true:=by rw[Lu,A5];exact o.symm
    simp only[Ah,Ac,Aa,this];exact⟨_,true,rfl,rfl,by simp,λ_=>po1⟩
def Pv (x:Leaf):Nat:=x.Text.size
def Ky (x:Block):Nat:=zl Pv x.Leaves
def NM (x:Flash):Nat:=zl Ky x.Blocks
theorem ACb (f:Flash) (h:NM f<=1048576):JW f/\∀b∈f.Blocks,∀x∈b.Leaves,(L x.Text).length<=1048576:=by
 have h1:=R9 (z:=Ky) (l:=f.Blocks);unfold NM at h;refine⟨⟨by omega,λb hb=>?_⟩,λb hb x hx=>?_⟩
 ·have h2:=gM (z:=Ky) hb;have h3:=R9 (z:=Pv) (l:=b.Leaves);have e:Ky b=zl Pv b.Leaves:=rfl;omega
 have h2:=gM (z:=Ky) hb;have h3:=gM (z:=Pv) hx;have e:Ky b=zl Pv b.Leaves:=rfl;have e2:Pv x=x.Text.size:=rfl;rw[Xh];omega
def nl (l:List Block):Nat:=(l.map λb=>b.Leaves.length).sum
theorem AD2 (f:Flash):nl f.Blocks<=NM f:=by
 unfold nl NM zl;have:∀l:List Block,(l.map λb=>b.Leaves.length).sum<=(l.map Ky).sum:=by
  intro l
  induction l with
  |nil=>simp
  |cons b l ih=>
   have:=R9 (z:=Pv) (l:=b.Leaves);have e:Ky b=zl Pv b.Leaves:=rfl;simp only[BJ,FG];omega
 have:=this f.Blocks;omega
def Sj (f:Flash) (y:Ar):Prop:=∃b x,gi f.Blocks y.Block=some b/\gi b.Leaves y.Leaf=some x/\(x.Is==1)=true/\F7 x.Text=some (y.Page,true)
theorem XQ {k:Nat} {b:Block} {x:Leaf} (f:Flash) (hf:JW f) (hb:f.Blocks[i]?=some b) (hx:b.Leaves[k]?=some x):Qh f i k=some (cond (x.Is==1) (x.Text,true) (bs [],false)):=by
 have h1:=(Ag.1 hb).1;have h2:=(Ag.1 hx).1;have h3:=hf.1;have h4:=hf.2 b<|Aq hb;unfold Qh;rw[Cj (by rw[B4];omega) (by rw[B4];omega),Rr,B4,Ad (by omega:(0:Int)<=(i:Int)),Ad (by omega:(i:Int)<=(f.Blocks.length:Int)-1)];simp only[Aa,Ku,Ah,Ac,Aw,hb];rw[Cj (by rw[B4];omega) (by rw[B4];omega),Rr,B4,Ad (by omega:(0:Int)<=(k:Int)),Ad (by omega:(k:Int)<=(b.Leaves.length:Int)-1)];simp only[Aa,Ku,Ah,Ac,hx]
 cases h:x.Is==1 with
 |true=>
  have:(x.Is !=1)=false:=by simp[bne,h]
  simp[this]
 |false=>
  have:(x.Is !=1)=true:=by simp[bne,h]
  simp[this]
theorem aR (f:Flash) (hf:JW f) (hT:∀b∈f.Blocks,∀x∈b.Leaves,(L x.Text).length<=1048576) (hn:nl f.Blocks<=1048576):
  ∃X,Ap (λs:List Ar×Int=>EG f s.1 s.2) ([],0)=some X/\Ap (λs:Int×List Ar=>Je f s.1 s.2) (0,[])=some X/\X.length<=nl f.Blocks/\∀y∈X,Sj f y:=by
 refine Sh (body:=λs:List Ar×Int=>EG f s.1 s.2) (body':=λs:Int×List Ar=>Je f s.1 s.2) (λs i=>(s,i)) (λs i=>(i,s)) f.Blocks.length (λi a=>a.length<=((f.Blocks.take i).map λb=>b.Leaves.length).sum/\∀y∈a,Sj f y) (λX=>X.length<=nl f.Blocks/\∀y∈X,Sj f y) ?_ ?_ (s:=[]) ⟨by simp,by simp⟩
 ·intro a i hi ⟨c,d⟩;have hb:f.Blocks[i]?=some f.Blocks[i]:=Ab hi;have hm:f.Blocks[i]∈f.Blocks:=A3 _;have j:=RC (λb:Block=>b.Leaves.length) f.Blocks i hi;have l:=OA (λb:Block=>b.Leaves.length) f.Blocks<|i+1;unfold nl at hn;have m:=hf.1;refine .inl ?_;simp only[EG,Je,Ez hi,Aw,hb,Aa];obtain⟨u,q1,q2,q3⟩:=Sh (body:=λs:List Ar×Int=>Gt f (i:Int) s.1 s.2) (body':=λs:Int×List Ar=>KS (i:Int) f.Blocks[i] s.1 s.2) (λs i=>(s,i)) (λs i=>(i,s)) f.Blocks[i].Leaves.length (λk u=>u.length<=a.length+k/\∀y∈u,Sj f y) (λu=>u.length<=a.length+f.Blocks[i].Leaves.length/\∀y∈u,Sj f y)
   (λu k hk hu=>by
    have hx:f.Blocks[i].Leaves[k]?=some f.Blocks[i].Leaves[k]:=Ab hk;have g:f.Blocks[i].Leaves[k]∈f.Blocks[i].Leaves:=A3 _;have n:=hf.2 _ hm
    have h:∀y:Ar,ap 72 u [y]=some (u++ [y]):=λy=>BP (by simp only[A8];omega)
    refine .inl ?_;obtain⟨p,ok,r1,r2,r3,r4⟩:=IM f.Blocks[i].Leaves[k].Text (by have:=hT _ hm _ g;omega);simp only[Gt,KS,Ez hk,Aw,hb,hx,Aa,XQ f hf hb hx,r2,h];have o:=hu.1
    cases e:f.Blocks[i].Leaves[k].Is==1 with
    |false=>
     obtain⟨p',ok',t1,_⟩:=IM (bs []) (by rw[EY];simp);simp only[Ac,Aa,t1];refine⟨u,by rw[ad1],by cases ok<;>(simp only[Ae,Ac,Aa];rw[ad1]),by omega,hu.2⟩
    |true=>
     simp only[Ae,Aa,r1]
     cases ok with
     |false=>exact⟨u,by simp only[Ac];rw[ad1],by simp only[Ac,Aa];rw[ad1],by omega,hu.2⟩
     |true=>
      refine⟨u++ [Ar.mk i k p],by simp only[Ae];rw[ad1],by simp only[Ae,Aa];rw[ad1],by simp only[Ai,A8];omega,λy hy=>?_⟩
      rcases Al.1 hy with hy|hy
      ·exact hu.2 y hy
      rw[AE]at hy;subst hy
      exact⟨_,_,by simp only[Aw];exact hb,by simp only[Aw];exact hx,e,r1⟩)
   (λu hu=>⟨u,by simp only[Gt,Aw,hb,Aa,Ec],by simp only[KS,Ec],hu⟩) (s:=a) ⟨by omega,d⟩
  rw[q1,q2,Aa,ad1];exact⟨u,rfl,rfl,by omega,q3.2⟩
 intro a ⟨c,d⟩;refine⟨a,by simp only[EG,Ec],by simp only[Je,Ec],?_,d⟩;rw[Bc]at c;exact c
theorem j8 {l:List γ} {i j:Int} {x y:γ} (h:gi l j=some y):∃z,gi (si l i x) j=some z:=by
 obtain⟨h1,h2⟩:=CQ h;have:=(Ag.1 h2).1;unfold gi;rw[Ay h1];exact⟨_,Ab (by simp only[si,G4];exact this)⟩
theorem pN (l:List Ar) (k:Int):K7 l k=(Bn (Nx BC) 0 k l).map (Sum.map (λs=>(s.2,s.1)) id):=by
 unfold K7 Bn wZ pM
 cases hk:decide (k>0)with
 |false=>rfl
 |true=>
  simp only[Ae]
  cases h1:gi l (sb k 1)with
  |none=>cases h2:gi l k<;>simp
  |some x=>
   cases h2:gi l k with
   |none=>simp
   |some y=>
    simp only[Aa];have e:(decide<|x.Page.Seq>y.Page.Seq)=Nx BC y x:=rfl;rw[e]
    cases Nx BC y x with
    |false=>rfl
    |true=>
     simp only[Ae,h1,h2,Aa];obtain⟨z,hz⟩:=j8 (i:=k) (x:=x) h1;rw[hz];rfl
theorem ABm {l l':List γ} {i j:Int} (h:pM l i j=some l'):l'.length=l.length:=by
 unfold pM at h;obtain⟨x,_,h⟩:=Aj.1 h;obtain⟨y,_,h⟩:=Aj.1 h
 injection h with h
 subst h;simp[si]
theorem AB1 {a j:Int} {l r:List Ar} (h:Ap (λs:Int×List Ar=>Bn (Nx BC) a s.1 s.2) (j,l)=some r):r.length=l.length:=by
 refine vS (λs:Int×List Ar=>s.2.length=l.length) (λr=>r.length=l.length) ?_ ?_ (s:=(j,l)) rfl h
 ·rintro⟨j,m⟩ s' hm hb;simp only[Bn]at hb;obtain⟨c,_,hb⟩:=Aj.1 hb
  cases c with
  |false=>cases hb
  |true=>
   simp only[Ae]at hb;obtain⟨m',h1,hb⟩:=Aj.1 hb
   injection hb with hb
   injection hb with hb
   subst hb;exact(ABm h1).trans hm
 rintro⟨j,m⟩ b hm hb;simp only[Bn]at hb;obtain⟨c,_,hb⟩:=Aj.1 hb
 cases c with
 |false=>
  simp only[Ac]at hb
  injection hb with hb
  injection hb with hb
  subst hb;exact hm
 |true=>
  simp only[Ae]at hb;obtain⟨m',h1,hb⟩:=Aj.1 hb;cases hb
theorem bG (f:Flash) (hf:JW f) (hT:∀b∈f.Blocks,∀x∈b.Leaves,(L x.Text).length<=1048576) (hn:nl f.Blocks<=1048576):
  ∃r,Ga f=some r/\Gi f=some r/\r.length<=nl f.Blocks/\(∀y∈r,Sj f y)/\srt BC r:=by
 obtain⟨X,h1,h2,h3,h4⟩:=aR f hf hT hn;obtain⟨r,h5,h6,h7⟩:=eG BC X (by omega);obtain⟨r',h8,h9,h10⟩:=Ja BC [] X [] (by simp only[BV];omega);have hr:r'=r:=NQ BC h9 h6 (λk=>by rw[h7 k,<-h10 k]);subst hr;refine⟨r',?_,?_,?_,?_,h6⟩
 ·unfold Ga;rw[h1,Aa];simp only[A6,A4,BV,HU]at h8;unfold BI at h8;rw[show ad ((0:Nat):Int) 1=1 from rfl]at h8;have hc:Ap (λs:List Ar×Int=>K8 s.1 s.2) (X,1)=Ap (λs:Int×List Ar=>Bu (Nx BC) ((0:Nat):Int) (X.length:Int) s.1 s.2) (1,X):=by
   refine nF (body:=λs:Int×List Ar=>Bu (Nx BC) ((0:Nat):Int) (X.length:Int) s.1 s.2) (body':=λs:List Ar×Int=>K8 s.1 s.2) (λs=>(s.2,s.1)) (λs=>s.2.length=X.length) ?_ ?_ (1,X) rfl
   ·rintro⟨j,m⟩ hm;simp only at hm;simp only[K8,Bu,B4,hm]
    cases decide (j<(X.length:Int))with
    |false=>rfl
    |true=>
     simp only[Ae];rw[qT (body:=λs:Int×List Ar=>Bn (Nx BC) ((0:Nat):Int) s.1 s.2) (body':=λs:List Ar×Int=>K7 s.1 s.2) (λs=>(s.2,s.1)) (λs=>pN s.2 s.1) (j,m)];cases Ap (λs:Int×List Ar=>Bn (Nx BC) ((0:Nat):Int) s.1 s.2) (j,m)<;>rfl
   rintro⟨j,m⟩ s' hm hb;simp only[Bu]at hb
   cases hc:decide (j<(X.length:Int))with
   |false=>rw[hc,Ac]at hb;cases hb
   |true=>
    rw[hc,Ae]at hb;obtain⟨m',h1,hb⟩:=Aj.1 hb
    injection hb with hb
    injection hb with hb
    subst hb;exact(AB1 h1).trans hm
  rw[hc];exact h8
 ·unfold Gi;rw[h2,Aa,h5];rfl
 ·rw[<-h7.len];exact h3
 exact λy hy=>h4 y<|(h7.mem).1 hy
theorem Ok {S:Type} {body:S->Option (S⊕List α)} (a:List α->Int->S) (g:Nat->α->α) (l0:List α) (h1:∀(i:Nat) (l:List α) x,l.length=l0.length->l[i]?=some x->l0[i]?=some x->body (a l (i:Nat))=some (.inl (a (l.set i (g i x)) ((i+1:Nat):Int)))) (h2:∀l:List α,l.length=l0.length->body (a l (l0.length:Nat))=some (.inr l)):Ap body (a l0 0)=some (l0.mapIdx g):=by
 obtain⟨b,h3,h4⟩:=AS (body:=body) a l0.length (λi l=>l.length=l0.length/\∀j,l[j]?=if j<i then(l0[j]?).map (g j)else l0[j]?) (λb=>b=l0.mapIdx g)
  (λl i hi hs=>by
   obtain⟨hl,hs⟩:=hs;have c:l0[i]?=some l0[i]:=Ab hi;have hx:l[i]?=some l0[i]:=by rw[hs,Av<|FE _,c]
   refine .inl ⟨_,h1 i l _ hl hx c,by rw[G4,hl],λj=>?_⟩;rw[Cz];by_cases e:i=j
   ·subst e;rw[Ay rfl,Ay (by omega),Ay (by omega),c];rfl
   rw[Av e,hs];by_cases h:j<i
   ·rw[Ay h,Ay<|by omega]
   rw[Av h,Av<|by omega])
  (λl hs=>⟨l,h2 l hs.1,by
   apply CF;intro j;rw[hs.2,Li];by_cases h:j<l0.length
   ·rw[Ay h]
   rw[Av h,Hw<|by omega]
   rfl⟩) (s:=l0) ⟨rfl,λj=>by rw[Av<|by omega]⟩
 rw[h3,h4]
abbrev Ks:=List B6
def dk:B6:=B6.mk true []
def BA (K:Ks) (i:Int):B6:=(gi K i).getD dk
def LG (k:B6) (j:Nat):Int:=(k.Kids[j]?).getD 0
def PG (K:Ks) (i:Nat) (leaf:Bool) (n:Int):Bool:=bif leaf then decide (0<=n)else(n== -1||(decide (0<=n/\n<=(i:Int)-1)&&(BA K n).Leaf))
def CX (K:Ks):Bool:=K.zipIdx.all λz=>z.1.Kids.length==4&&z.1.Kids.all (PG K z.2 z.1.Leaf)
def DD (K:Ks) (r:Int):Bool:=r== -1||(decide (0<=r/\r<(K.length:Int))&&!(BA K r).Leaf)
def Ru (K:Ks) (root:Int) (s:Nat):Int:=if root<0 then 0 else if LG (BA K root) (s/4)<0 then 0 else LG (BA K<|LG (BA K root)<|s/4)<|s %4
def Fe (K:Ks) (root:Int):List Int:=(List.range 16).map<|Ru K root
variable {K X:Ks}
theorem Ol (h:i<K.length):BA K (i:Int)=K[i]:=by
 unfold BA;rw[Aw,Ab h];rfl
theorem Ib {i:Int} (h0:0<=i) (h:i<(K.length:Int)):gi K i=some (BA K i):=by
 unfold BA;rw[KX h0 h];rfl
theorem EB (x a b:Int):BM x a b=some (decide (a<=x/\x<=b)):=by
 rw[Rr];congr 1;rw[DU];simp
theorem GF:CX K=true↔∀i:Nat,i<K.length->(BA K (i:Int)).Kids.length=4/\∀n∈(BA K (i:Int)).Kids,PG K i (BA K (i:Int)).Leaf n=true:=by
 unfold CX;rw[Jj];constructor
 ·intro h i hi;have:=h (K[i],i) (by rw[List.mem_zipIdx_iff_getElem?];exact Ab hi);rw[Ak,Jj]at this;rw[Ol hi];exact⟨by simpa using this.1,this.2⟩
 intro h z hz;rw[List.mem_zipIdx_iff_getElem?]at hz;obtain⟨a,hz⟩:=Ag.1 hz;have:=h z.2 a;rw[Ol a,hz]at this;rw[Ak,Jj];exact⟨by simpa using this.1,this.2⟩
theorem KC (a:Arena) (ha:a.Knots.length<=1048576):Ha a=some (CX a.Knots):=by
 unfold Ha;have h:=ZI (body:=λs:Int=>Es a s) a.Knots (λi k=>k.Kids.length==4&&k.Kids.all (PG a.Knots i k.Leaf)) (.inr false) (.inl ()) (by omega)
  (λi k hk=>by
   have hi:=(Ag.1 hk).1;simp only[Es,Ez hi,Aw,hk,Aa];by_cases h4:k.Kids.length=4
   ·have e1:(ln k.Kids !=4)=false:=by simp[ln,h4]
    have e2:(k.Kids.length==4)=true:=by simp[h4]
    simp only[e1,Ac,e2,Dn];have q:=ZI (body:=λs:Int=>EK a (i:Int) k s) k.Kids (λ_ n=>PG a.Knots i k.Leaf n) (.inr<|.inr<|.inr false) (.inl ()) (by omega)
     (λj n hn=>by
      have hj:=(Ag.1 hn).1;simp only[EK];rw[cT,Aw,hn];simp only[Aa,PG]
      cases hl:k.Leaf with
      |true=>
       simp only[Ae,Ah,Ac];by_cases h0:n<0
       ·rw[Ad h0,Af (by omega:¬0<=n)];rfl
       rw[Af h0,Ad (by omega:0<=n)];simp only[Ac,Aa,Ae];rw[ad1]
      |false=>
       simp only[Ac,AD,Ae];by_cases h1:n= -1
       ·subst h1;simp only[bne_self_eq_false,Ac,Aa,BEq.rfl,Bool.true_or,Ae];rw[ad1]
       have e3:(n != -1)=true:=by simp[h1]
       have e4:(n== -1)=false:=by simp[h1]
       rw[e3,e4];simp only[Ae,Wl];rw[Cj,EB];simp only[Aa];by_cases h2:0<=n/\n<=(i:Int)-1
       ·rw[Ad h2];simp only[Ah,Ac];rw[Ib h2.1<|by omega];simp only[Aa,Dn]
        cases(BA a.Knots n).Leaf with
        |true=>simp only[Ah,Ac,Ae];rw[ad1]
        |false=>rfl
       rw[Af h2];rfl)
     (by simp only[EK];rw[cF])
    rw[q];have hz:(k.Kids.zipIdx.all λz=>PG a.Knots i k.Leaf z.1)=k.Kids.all (PG a.Knots i k.Leaf):=by
     rw[show(λz:Int×Nat=>PG a.Knots i k.Leaf z.1)=(PG a.Knots i k.Leaf)∘Prod.fst from rfl,<-List.all_map];congr 1;simp
    rw[Aa,hz]
    cases k.Kids.all (PG a.Knots i k.Leaf)with
    |true=>simp only[Ae,Bz];rw[ad1]
    |false=>rfl
   have e1:(ln k.Kids !=4)=true:=by simp[ln];omega
   have e2:(k.Kids.length==4)=false:=by simp[h4]
   simp only[e1,Ae,e2,Bool.false_and,Ac])
  (by simp only[Es,Ec])
 rw[h];unfold CX;simp only[Aa];cases(a.Knots.zipIdx.all λz=>z.1.Kids.length==4&&z.1.Kids.all (PG a.Knots z.2 z.1.Leaf))<;>rfl
theorem Nn (a:Arena) (ha:a.Knots.length<=1048576) (r:Int):HI a r=some (DD a.Knots r):=by
 unfold HI DD
 cases hr:(r== -1)with
 |true=>rfl
 |false=>
  simp only[Ac,Wl];rw[B4,Cj,EB];simp only[Aa];by_cases h:0<=r/\r<(a.Knots.length:Int)
  ·rw[Ad h,Ad (by omega:0<=r/\r<=(a.Knots.length:Int)-1)];simp only[Ae,Dn];rw[Ib h.1 h.2];rfl
  rw[Af h,Af (by omega:¬(0<=r/\r<=(a.Knots.length:Int)-1))];rfl
theorem Ca (h:DD K r=true):r= -1\/(0<=r/\r<(K.length:Int)/\(BA K r).Leaf=false):=by
 unfold DD at h;simp only[Cq,Cd,Ak,A5,CG]at h
 rcases h with h|h
 ·exact .inl h
 exact .inr ⟨h.1.1,h.1.2,h.2⟩
theorem FB (hK:CX K=true) (h0:0<=r) (h1:r<(K.length:Int)):(BA K r).Kids.length=4/\∀j,j<4->(BA K r).Kids[j]?=some (LG (BA K r) j)/\PG K r.toNat (BA K r).Leaf (LG (BA K r) j)=true:=by
 have:=GF.1 hK r.toNat (by omega);rw[show((r.toNat:Nat):Int)=r by omega]at this;refine⟨this.1,λj hj=>?_⟩;have a:j<(BA K r).Kids.length:=by omega
 have e:(BA K r).Kids[j]?=some (LG (BA K r) j):=by unfold LG;rw[Ab a];rfl
 exact⟨e,this.2 _<|Aq e⟩
theorem Gv (hK:CX K=true) (h0:0<=r) (h1:r<(K.length:Int)) (hl:(BA K r).Leaf=false) (hj:j<4):LG (BA K r) j= -1\/(0<=LG (BA K r) j/\LG (BA K r) j<r/\(BA K (LG (BA K r) j)).Leaf=true):=by
 have:=((FB hK h0 h1).2 j hj).2;rw[hl]at this;simp only[PG,Ac,Cq,Cd,Ak,A5]at this
 rcases this with h|⟨⟨h2,h3⟩,h4⟩
 ·exact .inl h
 exact .inr ⟨h2,by omega,h4⟩
theorem AAh (hK:CX K=true) (h0:0<=r) (h1:r<(K.length:Int)) (hl:(BA K r).Leaf=true) (hj:j<4):0<=LG (BA K r) j:=by
 have:=((FB hK h0 h1).2 j hj).2;rw[hl]at this;simpa[PG]using this
theorem qu4 (h:s<16):qu (s:Int) 4=((s/4:Nat):Int):=by
 unfold qu;rw[show Int.tdiv (s:Int) 4=((s/4:Nat):Int) by rw[Int.tdiv_eq_ediv_of_nonneg<|by omega];omega];exact Pw (by omega)<|by omega
theorem xZ:Int.tmod (s:Int) 4=((s %4:Nat):Int):=by
 rw[Lj<|by omega];omega
theorem Xs (a:Arena) (hK:CX a.Knots=true) (hr:DD a.Knots r=true) (hs:s<16):NX a r (s:Int)=some (Ru a.Knots r s):=by
 unfold NX Ru
 rcases Ca hr with rfl|⟨h0,h1,hl⟩
 ·rfl
 rw[Af (by omega:¬r<0),Av (by omega),Ac,Ib h0 h1];rw[Aa,qu4 hs,Aw,((FB hK h0 h1).2 (s/4)<|by omega).1];simp only[Aa]
 rcases Gv hK h0 h1 hl (show s/4<4 by omega)with e|⟨e1,e2,e3⟩
 ·rw[e];rfl
 rw[Af (by omega),Av (by omega),Ac,Ib e1<|by omega];rw[Aa,xZ,Aw,((FB hK e1<|by omega).2 (s %4)<|by omega).1];rfl
theorem Zq (a:Arena) (ha:a.Knots.length<=1048576) (hK:CX a.Knots=true) (hr:DD a.Knots r=true) (hs:s<16):Qj a r (s:Int)=some (Ru a.Knots r s):=by
 unfold Qj;rw[KC a ha,Nn a ha,EB,hK,hr];simp only[Aa,Ah,Ac];rw[Ad (by omega:0<=(s:Int)/\(s:Int)<=15)];simp only[Ah,Ac];rw[Xs a hK hr hs]
 try rfl
theorem Oc (a:Arena) (ha:a.Knots.length<=1048576) (hK:CX a.Knots=true) (hr:DD a.Knots r=true):JM a r=some (Fe a.Knots r):=by
 unfold JM;obtain⟨b,h1,h2⟩:=AS (body:=λs:List Int×Int=>JR a r s.1 s.2) (λ(o:List Int) i=>(o,i)) 16 (λi o=>o=(List.range i).map (Ru a.Knots r)) (λb=>b=Fe a.Knots r)
  (λo i hi ho=>by
   refine .inl ⟨_,?_,rfl⟩;simp only[JR]
   rw[cT,Zq a ha hK hr hi,Aa,BP (by rw[ho];simp;omega),Aa,ad1,ho,Ey,Co,List.map_singleton])
  (λo ho=>⟨_,by simp only[JR];rw[cF],ho⟩) (s:=[]) rfl
 rw[h1,h2];rfl
theorem LV {by_:Nat} (h:l.length*by_<=140737488355328):ap by_ [] l=some l:=by
 rw[BP (by simpa using h),A6]
def AAF (K:Ks):Prop:=K.length<=1048576/\∀k∈K,k.Kids.length<=1048576
theorem La (hK:CX K=true) (h:K.length<=1048576):AAF K:=by
 refine⟨h,λk hk=>?_⟩;obtain⟨i,hi,rfl⟩:=AC hk;have:=(GF.1 hK i hi).1;rw[Ol hi]at this;omega
theorem Vr (a:Arena) (h:AAF a.Knots):NA a=some a:=by
 unfold NA;have h1:=VF (body:=λs:Int×List B6=>K0 a s.1 s.2) a.Knots (λk=>k)
  (λi k b hk ho=>by
   have hi:=(Ag.1 hk).1;have hm:=h.2 k<|Aq hk;have:=h.1;simp only[K0,Ez hi,Aw,hk,Aa]
   rw[LV (by omega),Aa,BP (by simp;omega),Aa,ad1])
  (λb=>by simp only[K0,Ec])
 rw[h1];simp only[Aa,List.map_id']
theorem Gq (s:Store) (h:AAF s.Arena.Knots) (hv:s.Vols.length<=1048576):Eu s=some s:=by
 unfold Eu;rw[LV (by omega),Vr _ h];rfl
def OQ (K:Ks) (r:Int) (s:Nat) (n:Int):List Int:=(if r<0 then [0,0,0,0]else if LG (BA K r) (s/4)<0 then [0,0,0,0]else(BA K<|LG (BA K r)<|s/4).Kids).set (s %4) n
def T3 (K:Ks) (r:Int) (s:Nat):List Int:=(if r<0 then [-1,-1,-1,-1]else(BA K r).Kids).set (s/4) (K.length:Int)
def J4 (K:Ks) (r:Int) (s:Nat) (n:Int):Ks:=K++ [B6.mk true<|OQ K r s n,B6.mk false<|T3 K r s]
theorem mk4:mk 8 (0:Int) 4=some [0,0,0,0]:=by rw[show(4:Int)=((4:Nat):Int)from rfl,WA (by omega)<|by omega];rfl
theorem nX {k:B6} (h:j<k.Kids.length):gi k.Kids (j:Int)=some (LG k j):=by
 unfold LG;rw[Aw,Ab h];rfl
theorem Zm (a:Arena) (ha:a.Knots.length<=1048000) (hK:CX a.Knots=true) (hr:DD a.Knots r=true) (hs:s<16) (hn:0<=n):
  Yv a r (s:Int) n=some (Arena.mk (J4 a.Knots r s n),(a.Knots.length:Int)+1):=by
 unfold Yv;rw[Vr _ (La hK<|by omega),KC a (by omega),Nn a (by omega),EB,hK,hr];simp only[Aa,Ah,Ac];rw[Ad (by omega:0<=(s:Int)/\(s:Int)<=15),Af (by omega:¬n<0)];simp only[Ah,Ac,Aa];rw[mk4];simp only[Aa];have fin:∀(lf tp:List Int),lf.length=4->tp.length=4->J4 a.Knots r s n=a.Knots++ [B6.mk true<|lf.set (s %4) n,B6.mk false<|tp.set (s/4) (a.Knots.length:Int)]->
   ((gi lf<|Int.tmod (s:Int) 4).bind λx4=>(gi tp<|qu (s:Int) 4).bind λx5=>(ap 32 a.Knots [B6.mk true<|si lf (Int.tmod (s:Int) 4) n,B6.mk false<|si tp (qu (s:Int) 4)<|ln a.Knots]).bind λq4=>some (Arena.mk q4,sb (ln q4) 1))=some (Arena.mk<|J4 a.Knots r s n,(a.Knots.length:Int)+1):=by
  intro lf tp h1 h2 h3;rw[qu4 hs,xZ,Aw,Aw,Ab (by omega),Ab<|by omega];simp only[Aa];rw[BP (by simp;omega),E8,E8,B4,<-h3];simp only[Aa];rw[B4,h3,Ai,Cj (by simp;omega) (by simp;omega)];simp only[A7,BV];congr 2;omega
 rcases Ca hr with rfl|⟨h0,h1,hl⟩
 ·rw[Af (by omega:¬(-1:Int)>=0)];simp only[Ac,Aa];exact fin _ _ rfl rfl rfl
 rw[cT,Ib h0 h1];have h4:=(FB hK h0 h1).1;simp only[Aa];rw[LV<|by omega];simp only[Aa];rw[qu4 hs,nX (by omega:s/4<(BA a.Knots r).Kids.length)];simp only[Aa];rw[<-qu4 hs]
 rcases Gv hK h0 h1 hl (show s/4<4 by omega)with e|⟨e1,e2,e3⟩
 ·rw[Af (by omega:¬LG (BA a.Knots r) (s/4)>=0)];simp only[Ac,Aa];exact fin _ _ rfl h4 (by unfold J4 OQ T3;simp only[Av (show¬r<0 by omega),Ay<|show LG (BA a.Knots r) (s/4)<0 by omega])
 rw[cT,Ib e1<|by omega];have h5:=(FB hK e1<|by omega).1;simp only[Aa];rw[LV<|by omega];simp only[Aa];exact fin _ _ h5 h4 (by unfold J4 OQ T3;simp only[Av (show¬r<0 by omega),Av<|show¬LG (BA a.Knots r) (s/4)<0 by omega])
def Ow (K:Ks) (r:Int) (i:Nat):Bool:=decide (0<=r)&&(decide (r=(i:Int))||(BA K r).Kids.any λn=>decide<|n=(i:Int))
theorem jC (n:Nat) (f:Nat->α) (g:Nat->α->α):((List.range n).map f).mapIdx g=(List.range n).map λi=>g i (f i):=by
 apply CF;intro j;rw[Li,AP,AP];by_cases h:j<n
 ·rw[R7 h];rfl
 rw[Hw<|by simpa using h];rfl
theorem PA (n:Nat) (f:Nat->α) (i:Nat) (x:α) (g:Nat->α) (h:∀j,j<n->g j=if j=i then x else f j):((List.range n).map f).set i x=(List.range n).map g:=by
 apply CF;intro j;rw[Cz,AP,AP];by_cases hj:j<n
 ·rw[R7 hj];simp only[Bx,h j hj,Bg,CR];by_cases e:i=j
  ·rw[Ay e,Ay (by omega),Ay e.symm]
  rw[Av e,Av<|Fk e]
 rw[Hw<|by simpa using hj];simp only[Option.map_none,Bg,CR];split
 ·rw[Av<|by omega]
 rfl
theorem HL {n:Nat} {f:Nat->α} (h:i<n):((List.range n).map f)[i]?=some (f i):=by
 rw[AP,R7 h];rfl
theorem Ve {l:List Int} {m:Nat} (h:l[m]?=some x) (p:Int->Bool):(l.take (m+1)).any p=((l.take m).any p||p x):=by
 rw[Ei,h,List.any_append];simp
theorem mA (a:Arena) (ha:a.Knots.length<=1048576) (hK:CX a.Knots=true) (hr:DD a.Knots r=true):Vq a r=some ((List.range a.Knots.length).map (Ow a.Knots r)):=by
 unfold Vq;rw[B4,WA (by omega)<|by omega];simp only[Aa]
 rcases Ca hr with rfl|⟨h0,h1,hl⟩
 ·simp only[show decide ((-1:Int)<0)=true from rfl,Ae];congr 1;rw[show(Ow a.Knots<|-1)=λ_=>false from rfl,Ng,CR]
 rw[cF];obtain⟨m,rfl⟩:∃m:Nat,r=(m:Int):=⟨r.toNat,by omega⟩;rw[Aw,List.getElem?_replicate,Ay<|by omega];simp only[Aa];rw[E8];obtain⟨h4,hk⟩:=FB hK h0 h1;obtain⟨b,q1,q2⟩:=AS (body:=λs:List Bool×Int=>Mx a (m:Int) s.1 s.2) (λ(o:List Bool) i=>(o,i)) 4
  (λi o=>o=(List.range a.Knots.length).map λ(j:Nat)=>decide ((m:Int)=(j:Int))||((BA a.Knots (m:Int)).Kids.take i).any λn=>decide<|n=(j:Int))
  (λb=>b=(List.range a.Knots.length).map (Ow a.Knots (m:Int)))
  (λo i hi ho=>by
   obtain⟨e,_⟩:=hk i hi;simp only[Mx];rw[cT,Ib h0 h1];simp only[Aa];rw[Aw,e];simp only[Aa]
   rcases Gv hK h0 h1 hl hi with e1|⟨e1,e2,e3⟩
   ·rw[e1,cF,ad1];refine .inl ⟨o,rfl,?_⟩;rw[ho];apply Dh;intro j hj;rw[Ve e,e1,Af (by omega:¬(-1:Int)=(j:Int)),lC]
   obtain⟨c,hc⟩:∃c:Nat,LG (BA a.Knots (m:Int)) i=(c:Int):=⟨(LG (BA a.Knots (m:Int)) i).toNat,by omega⟩;rw[hc,cT]
   try simp only[Aa]
   rw[ho,Aw,HL<|by omega];simp only[Aa];rw[E8,ad1];refine .inl ⟨_,rfl,?_⟩;apply PA;intro j hj;rw[Ve e,hc];by_cases d:j=c
   ·subst d;simp
   rw[Av d,Af (by omega:¬(c:Int)=(j:Int)),lC])
  (λo ho=>⟨_,by simp only[Mx];rw[cF],by
   rw[ho];apply Dh;intro j hj;rw[AN<|by omega];unfold Ow
   rw[Ad h0,Dn]⟩) (s:=(List.replicate a.Knots.length false).set m true) (by
   rw[<-CR (n:=a.Knots.length),<-Ng,CR];apply PA;intro j hj;simp only[Jh,List.any_nil,lC];by_cases e:j=m
   ·subst e;simp
   rw[Av e,Af<|by omega])
 rw[q1,q2];rfl
def C8 (K:Ks) (R:List Int) (i:Nat):Bool:=R.any λr=>Ow K r i
def cO (K:Ks) (R:List Int) (i:Nat):Nat:=((List.range i).filter<|C8 K R).length
def O3 (K:Ks) (R:List Int) (n:Int):Int:=if 0<=n then(cO K R n.toNat:Int)else n
def Yq (K:Ks) (R:List Int) (i:Nat):B6:=B6.mk (BA K (i:Int)).Leaf<|bif(BA K (i:Int)).Leaf then(BA K (i:Int)).Kids else(BA K (i:Int)).Kids.map<|O3 K R
def TF (K:Ks) (R:List Int):Ks:=((List.range K.length).filter<|C8 K R).map<|Yq K R
theorem IW (l:List α) (f:α->α):l.mapIdx (λ_ x=>f x)=l.map f:=by
 apply CF;intro j;rw[Li,AP]
theorem Py (hr:r∈R) (h0:0<=r):C8 K R r.toNat=true:=by
 unfold C8;rw[CE];exact⟨r,hr,by unfold Ow;rw[Ad h0,Ad (by omega:r=(r.toNat:Int))];rfl⟩
theorem YP (hK:CX K=true) (hR:∀r∈R,DD K r=true) (hu:C8 K R i=true) (hl:(BA K (i:Int)).Leaf=false):(i:Int)∈R:=by
 unfold C8 at hu;rw[CE]at hu;obtain⟨r,hr,h⟩:=hu;unfold Ow at h;simp only[Ak,Cq,A5,CE]at h;obtain⟨h0,h⟩:=h
 rcases h with h|⟨n,hn,h⟩
 ·rw[<-h];exact hr
 rcases Ca (hR r hr)with e|⟨_,h1,a⟩
 ·omega
 obtain⟨h4,hk⟩:=FB hK h0 h1;obtain⟨j,hj,b⟩:=AC hn;have e:=(hk j<|by omega).1;rw[Ab hj,b]at e
 injection e with e
 rcases Gv hK h0 h1 a (show j<4 by omega)with k1|⟨_,_,k3⟩
 ·omega
 rw[<-e,h,hl]at k3;cases k3
theorem UY (hr:r∈R) (h0:0<=r) (hn:n∈(BA K r).Kids) (h1:0<=n):C8 K R n.toNat=true:=by
 unfold C8;rw[CE];refine⟨r,hr,?_⟩;unfold Ow;rw[Ad h0,Dn,Cq,CE];exact .inr ⟨n,hn,by rw[A5];omega⟩
theorem ACC (i:Nat):cO K R i<=i:=by
 have:=CL (C8 K R)<|List.range i;rw[CR]at this;exact this
theorem cC (a:Arena) (ha:a.Knots.length<=1048576) (R:List Int) (hc:R.length<=1048576) (hR:∀r∈R,DD a.Knots r=true):Ap (λs:Bool×Int=>FZ a R s.1 s.2) (true,0)=some true:=by
 obtain⟨b,h1,h2⟩:=AS (body:=λs:Bool×Int=>FZ a R s.1 s.2) (λ(o:Bool) i=>(o,i)) R.length (λ_ o=>o=true) (λb=>b=true)
  (λo i hi ho=>by
   have hx:=Ab hi;simp only[FZ,KH,Ad hi,Ae,Aa,ho,Aw,hx];rw[Nn a ha,hR _<|A3 hi,Aa,ad1]
   exact .inl ⟨true,rfl,rfl⟩)
  (λo ho=>⟨o,by simp only[FZ,KH,FE,LP,Ac,Aa],ho⟩) (s:=true) rfl
 rw[h2]at h1;exact h1
theorem iC (a:Arena) (ha:a.Knots.length<=1048576) (hK:CX a.Knots=true) (R:List Int) (hc:R.length<=1048576) (hR:∀r∈R,DD a.Knots r=true):
  Ap (λs:List Bool×Int=>FY a R s.1 s.2) (List.replicate a.Knots.length false,0)=some ((List.range a.Knots.length).map (C8 a.Knots R)):=by
 obtain⟨b,h1,h2⟩:=AS (body:=λs:List Bool×Int=>FY a R s.1 s.2) (λ(o:List Bool) i=>(o,i)) R.length (λi o=>o=(List.range a.Knots.length).map λ(j:Nat)=>(R.take i).any λr=>Ow a.Knots r j) (λb=>b=(List.range a.Knots.length).map (C8 a.Knots R))
  (λo i hi ho=>by
   have hx:=Ab hi;simp only[FY,Ez hi,Aa,Aw,hx];rw[mA a ha hK<|hR _<|A3 hi];simp only[Aa];have d:o.length=a.Knots.length:=by rw[ho];simp
   have q:=Ok (body:=λs:List Bool×Int=>HB ((List.range a.Knots.length).map<|Ow a.Knots R[i]) s.1 s.2) (λl i=>(l,i)) (λk x=>x||Ow a.Knots R[i] k) o
    (λk l x hl c e=>by
     have hk:k<a.Knots.length:=by have:=(Ag.1 c).1;omega
     simp only[HB,KH];rw[Ad (by simpa using hk),Ae,Aw,c];simp only[Aa]
     cases x with
     |true=>simp only[Ae,Bool.true_or];rw[E8,ad1]
     |false=>
      simp only[Ac,Wl]
      rw[Aw,HL hk,Aa,E8,ad1])
    (λl hl=>by simp only[HB,KH];rw[d,Af (by simp),Ac])
   rw[q,Aa,ad1,ho,jC];refine .inl ⟨_,rfl,?_⟩;apply Dh;intro j hj;rw[Ei,hx,List.any_append]
   simp)
  (λo ho=>⟨o,by simp only[FY,Ec],by rw[ho,AN<|by omega];rfl⟩) (s:=List.replicate a.Knots.length false) (by
   simp only[Jh,List.any_nil]
   rw[Ng,CR])
 rw[<-h2];exact h1
def T5 (K:Ks) (R:List Int) (i:Nat):List Int:=(List.range K.length).map λ(j:Nat)=>if j<i/\C8 K R j=true then(cO K R j:Int)else 0
theorem cD (a:Arena) (ha:a.Knots.length<=1048576) (hK:CX a.Knots=true) (R:List Int) (hR:∀r∈R,DD a.Knots r=true):
  Ap (λs:List Int×Int×List B6=>FX a ((List.range a.Knots.length).map (C8 a.Knots R)) s.1 s.2.1 s.2.2) (List.replicate a.Knots.length 0,0,[])=some (T5 a.Knots R a.Knots.length,TF a.Knots R):=by
 obtain⟨b,h1,h2⟩:=AS (body:=λs:List Int×Int×List B6=>FX a ((List.range a.Knots.length).map<|C8 a.Knots R) s.1 s.2.1 s.2.2) (λ(o:List Int×List B6) i=>(o.1,i,o.2)) a.Knots.length
  (λi o=>o=(T5 a.Knots R i,((List.range i).filter<|C8 a.Knots R).map<|Yq a.Knots R)) (λb=>b=(T5 a.Knots R a.Knots.length,TF a.Knots R))
  (λo i hi ho=>by
   subst ho;simp only[FX,Ez hi];rw[Aw,HL hi];simp only[Aa]
   cases hu:C8 a.Knots R i with
   |false=>
    simp only[AD,Ae];rw[ad1];refine .inl ⟨(T5 a.Knots R i,((List.range i).filter<|C8 a.Knots R).map<|Yq a.Knots R),rfl,?_⟩;congr 1
    ·unfold T5;apply Dh;intro j hj;by_cases e:j=i
     ·subst e;rw[Av (by omega),Av (by rw[hu];simp)]
     by_cases h:j<i/\C8 a.Knots R j=true
     ·rw[Ay h,Ay ⟨by omega,h.2⟩]
     rw[Av h,Av λh3=>h ⟨by omega,h3.2⟩]
    rw[Ey,AO,DK (by rw[hu];simp)];simp
   |true=>
    simp only[Ah,Ac];have h0:(0:Int)<=(i:Int):=by omega
    have d:(i:Int)<(a.Knots.length:Int):=by omega
    rw[Ib h0 d];obtain⟨h4,hk⟩:=FB hK h0 d;simp only[Aa];rw[LV<|by omega];simp only[Aa];have inner:Ap (λs:Int×List Int=>FW (T5 a.Knots R i) ((BA a.Knots (i:Int)).Leaf,(BA a.Knots (i:Int)).Kids) s.1 s.2) (0,(BA a.Knots (i:Int)).Kids)=some (Yq a.Knots R i).Kids:=by
     unfold Yq
     cases hl:(BA a.Knots (i:Int)).Leaf with
     |true=>rw[A0];rfl
     |false=>
      have q:=Ok (body:=λs:Int×List Int=>FW (T5 a.Knots R i) (false,(BA a.Knots (i:Int)).Kids) s.1 s.2) (λl k=>(k,l)) (λ_ x=>O3 a.Knots R x) (BA a.Knots (i:Int)).Kids
       (λk l x t f g=>by
        have m:k<4:=by have:=(Ag.1 g).1;omega
        have ex:x=LG (BA a.Knots (i:Int)) k:=by have:=(hk k m).1;rw[g]at this;injection this
        simp only[FW];rw[Ad (by omega:(k:Int)<4)];simp only[Ae,Aa,AD];rw[Aw,f];simp only[Aa]
        rcases Gv hK h0 d hl m with e|⟨e1,e2,e3⟩
        ·rw[cF,ad1];have:O3 a.Knots R x=x:=by unfold O3;rw[Av<|by omega]
         rw[this,show l.set k x=l from by
          apply CF;intro j;rw[Cz];split
          ·rename_i e5;subst e5;rw[Ay (Ag.1 f).1,f]
          rfl]
        rw[cT];obtain⟨c,hc⟩:∃c:Nat,x=(c:Int):=⟨x.toNat,by omega⟩;have u:x∈(BA a.Knots (i:Int)).Kids:=Aq g;have n:=UY (YP hK hR hu hl) h0 u (by omega);rw[hc]at n;rw[hc,Aw];unfold T5;rw[HL (by omega),Aa,Ay ⟨by omega,n⟩,E8,ad1];unfold O3;rw[Ay<|by omega]
        rfl)
       (λl t=>by
        simp only[FW];rw[h4,Af (by omega:¬((4:Nat):Int)<4)]
        rfl)
      rw[IW]at q;exact q
    rw[inner];simp only[Aa];have v:gi (T5 a.Knots R i) (i:Int)=some 0:=by
     unfold T5;rw[Aw,HL hi,Av<|by omega]
    rw[v];simp only[Aa];have w:=ACC (K:=a.Knots) (R:=R) i;have p:(((List.range i).filter<|C8 a.Knots R).map<|Yq a.Knots R).length=cO a.Knots R i:=by rw[Bg];rfl
    rw[BP (by rw[p];simp;omega),Aa,ad1,B4,p,E8];refine .inl ⟨(_,_),rfl,?_⟩;congr 1
    ·unfold T5;apply PA;intro j hj;by_cases e:j=i
     ·subst e;rw[Ay ⟨by omega,hu⟩,Ay rfl]
     rw[Av e];by_cases h:j<i/\C8 a.Knots R j=true
     ·rw[Ay h,Ay ⟨by omega,h.2⟩]
     rw[Av h,Av λh3=>h ⟨by omega,h3.2⟩]
    rw[Ey,AO,CN hu,JX,Co]
    rfl)
  (λo ho=>⟨o,by simp only[FX,Ec],ho⟩) (s:=(List.replicate a.Knots.length 0,[])) (by
   unfold T5;simp only[Nat.not_lt_zero,false_and,Fs];rw[Ng,CR]
   rfl)
 rw[<-h2];exact h1
theorem p9 (a:Arena) (ha:a.Knots.length<=1048576) (R:List Int) (hc:R.length<=1048576) (hR:∀r∈R,DD a.Knots r=true):
  Ap (λs:List Int×Int=>FV (T5 a.Knots R a.Knots.length,TF a.Knots R) s.1 s.2) (R,0)=some (R.map (O3 a.Knots R)):=by
 have q:=Ok (body:=λs:List Int×Int=>FV (T5 a.Knots R a.Knots.length,TF a.Knots R) s.1 s.2) (λl k=>(l,k)) (λ_ x=>O3 a.Knots R x) R
  (λk l x f b d=>by
   have hk:=(Ag.1 d).1;have g:=(Ag.1 b).1;simp only[FV,Ez g,Aw,b,Aa]
   rcases Ca (hR x<|Aq d)with e|⟨e1,e2,e3⟩
   ·rw[cF,ad1];have:O3 a.Knots R x=x:=by unfold O3;rw[Av<|by omega]
    rw[this,show l.set k x=l from by
     apply CF;intro j;rw[Cz];split
     ·rename_i e5;subst e5
      first
       |rw[Ay g,b]
       |exact b.symm
     rfl]
   rw[cT];obtain⟨c,h⟩:∃c:Nat,x=(c:Int):=⟨x.toNat,by omega⟩;have i:=Py (K:=a.Knots) (Aq d) e1;rw[h]at i;rw[h,Aw];unfold T5;rw[HL (by omega),Aa,Ay ⟨by omega,i⟩,E8,ad1];unfold O3;rw[Ay<|by omega]
   rfl)
  (λl f=>by simp only[FV,B4,f];rw[cF])
 rw[IW]at q;exact q
theorem Zk (a:Arena) (ha:a.Knots.length<=1048576) (hK:CX a.Knots=true) (R:List Int) (hc:R.length<=1048576) (hR:∀r∈R,DD a.Knots r=true):
  K2 a R=some (Arena.mk (TF a.Knots R),R.map (O3 a.Knots R)):=by
 unfold K2;rw[LV (by omega),KC a ha,hK];simp only[Aa];rw[cC a ha R hc hR];simp only[Aa,Ah,Ac];rw[B4,WA (by omega)<|by omega];simp only[Aa];rw[iC a ha hK R hc hR];simp only[Aa];rw[WA (by omega)<|by omega];simp only[Aa];rw[cD a ha hK R hR];simp only[Aa];rw[p9 a ha R hc hR];rfl
theorem aL (p:Nat->Bool) (hp:p i=true):∀{n:Nat},i<n->((List.range n).filter p)[((List.range i).filter p).length]?=some i
 |0,h=>by omega
 |n+1,h=>by
  rw[Ey,AO];by_cases e:i=n
  ·grind
  have h2:=aL p hp<|show i<n by omega
  grind
theorem n8 {n:Nat} (p:Nat->Bool) (hp:p i=true) (h:i<n):((List.range i).filter p).length<((List.range n).filter p).length:=(Ag.1<|aL p hp h).1
theorem n7 (p:Nat->Bool):∀{n j:Nat},j<((List.range n).filter p).length->∃i,i<n/\p i=true/\((List.range i).filter p).length=j
 |0,j,h=>by simp at h
 |n+1,j,h=>by
  rw[Ey,AO,Ai]at h;by_cases e:j<((List.range n).filter p).length
  ·obtain⟨i,h1,h2,h3⟩:=n7 p e
   grind
  grind
theorem gT:(TF K R).length=cO K R K.length:=by unfold TF cO;rw[Bg]
theorem SF (hu:C8 K R i=true) (hi:i<K.length):BA (TF K R) (cO K R i:Nat)=Yq K R i/\cO K R i<(TF K R).length:=by
 have h:=n8 (C8 K R) hu hi;have h2:cO K R i<(TF K R).length:=by rw[gT];exact h
 refine⟨?_,h2⟩;unfold BA;rw[Aw];unfold TF;rw[AP];have:=aL (C8 K R) hu hi;rw[show cO K R i=((List.range i).filter<|C8 K R).length from rfl,this];rfl
theorem yC (hj:j<(TF K R).length):∃i,i<K.length/\C8 K R i=true/\cO K R i=j:=by
 rw[gT]at hj;exact n7 (C8 K R) hj
theorem ADV (hu:C8 K R i=true) (h:i<j):cO K R i<cO K R j:=n8 _ hu h
theorem YY (i:Nat):(Yq K R i).Leaf=(BA K (i:Int)).Leaf:=rfl
theorem tA (hK:CX K=true) (hi:i<K.length):(Yq K R i).Kids.length=4:=by
 have:=(GF.1 hK i hi).1;unfold Yq
 grind
theorem tB (hl:(BA K (i:Int)).Leaf=false) (hj:j<(BA K (i:Int)).Kids.length):LG (Yq K R i) j=O3 K R (LG (BA K (i:Int)) j):=by
 unfold LG Yq
 grind
theorem TE (hl:(BA K (i:Int)).Leaf=true):(Yq K R i).Kids=(BA K (i:Int)).Kids:=by
 unfold Yq;rw[hl];rfl
theorem ST (h:n<0):O3 K R n=n:=by unfold O3;omega
theorem SU (n:Nat):O3 K R (n:Int)=(cO K R n:Int):=by rfl
theorem ACX (hK:CX K=true) (hR:∀r∈R,DD K r=true):CX (TF K R)=true:=by
 rw[GF];intro j hj;obtain⟨i,hi,hu,rfl⟩:=yC hj;rw[(SF hu hi).1];refine⟨tA hK hi,λn hn=>?_⟩;have h0:(0:Int)<=(i:Int):=by omega
 have h1:(i:Int)<(K.length:Int):=by omega
 obtain⟨h4,hk⟩:=FB hK h0 h1;rw[YY]
 cases hl:(BA K (i:Int)).Leaf with
 |true=>
  rw[TE hl]at hn;have:=(GF.1 hK i hi).2 n hn;rw[hl]at this;simpa[PG]using this
 |false=>
  obtain⟨m,hm,b⟩:=AC hn;rw[tA hK hi]at hm;have e:n=O3 K R (LG (BA K (i:Int)) m):=by
   rw[<-tB hl (by omega),<-b];unfold LG
   grind
  rcases Gv hK h0 h1 hl hm with k1|⟨k1,k2,k3⟩
  ·rw[k1,ST<|by omega]at e;subst e;rfl
  obtain⟨c,hc⟩:∃c:Nat,LG (BA K (i:Int)) m=(c:Int):=⟨_,(AY k1).symm⟩;rw[hc]at e k2 k3;rw[SU]at e;have a:=UY (YP hK hR hu hl) h0 (Aq (hk m hm).1) (by omega);rw[hc]at a;have d:c<K.length:=by omega
  have f:cO K R c<cO K R i:=ADV (by simpa using a) (by omega);subst e;simp only[PG,Ac,Cq,Cd,Ak,A5];refine .inr ⟨by omega,?_⟩;rw[(SF (by simpa using a) d).1,YY];exact k3
theorem y9 (hR:∀r∈R,DD K r=true) (hr:r∈R):DD (TF K R) (O3 K R r)=true:=by
 rcases Ca (hR r hr)with e|⟨h0,h1,hl⟩
 ·rw[e,ST<|by omega];rfl
 obtain⟨c,rfl⟩:∃c:Nat,r=(c:Int):=⟨_,(AY h0).symm⟩;have a:=Py (K:=K) hr h0;rw[Be]at a;obtain⟨g1,g2⟩:=SF a (by omega);rw[SU];unfold DD;rw[Ad (by omega),g1,YY,hl];simp
theorem tM (hK:CX K=true) (hR:∀r∈R,DD K r=true) (hr:r∈R):Fe (TF K R) (O3 K R r)=Fe K r:=by
 unfold Fe;apply Dh;intro s hs;rw[Hm]at hs;unfold Ru
 rcases Ca (hR r hr)with e|⟨h0,h1,hl⟩
 ·rw[e,ST (by omega),Ay (by omega),Ay<|by omega]
 obtain⟨c,rfl⟩:∃c:Nat,r=(c:Int):=⟨_,(AY h0).symm⟩;have a:=Py (K:=K) hr h0;rw[Be]at a;obtain⟨g1,g2⟩:=SF a (by omega);obtain⟨h4,hk⟩:=FB hK h0 h1;rw[SU,g1,tB hl<|by omega];simp only[Av (show¬((cO K R c:Nat):Int)<0 by omega),Av<|show¬((c:Nat):Int)<0 by omega]
 rcases Gv hK h0 h1 hl (show s/4<4 by omega)with k1|⟨k1,k2,k3⟩
 ·rw[k1,ST<|by omega];rfl
 obtain⟨d,hd⟩:∃d:Nat,LG (BA K (c:Int)) (s/4)=(d:Int):=⟨_,(AY k1).symm⟩;have b:=UY hr h0 (Aq (hk (s/4)<|by omega).1) k1;rw[hd]at b k2 k3;rw[hd,SU];simp only[Av (show¬((cO K R d:Nat):Int)<0 by omega),Av<|show¬((d:Nat):Int)<0 by omega];rw[(SF (by simpa using b)<|by omega).1];unfold LG;rw[TE k3]
theorem ABn (hK:CX K=true) (hR:∀r∈R,DD K r=true) (hj:j<(TF K R).length):C8 (TF K R) (R.map (O3 K R)) j=true:=by
 obtain⟨i,hi,hu,rfl⟩:=yC hj;have hu':=hu;unfold C8 at hu';rw[CE]at hu';obtain⟨r,hr,h⟩:=hu';unfold Ow at h;simp only[Ak,Cq,A5,CE]at h;obtain⟨h0,h⟩:=h;unfold C8;rw[CE];refine⟨O3 K R r,AG.2 ⟨r,hr,rfl⟩,?_⟩;obtain⟨c,rfl⟩:∃c:Nat,r=(c:Int):=⟨_,(AY h0).symm⟩;rw[SU];unfold Ow;simp only[Ak,Cq,A5,CE];refine⟨by omega,?_⟩
 rcases h with h|⟨n,hn,h⟩
 ·grind
 right
 rcases Ca (hR _ hr)with e|⟨_,h1,hl⟩
 ·omega
 have a:=Py (K:=K) hr h0;rw[Be]at a;rw[(SF a<|by omega).1];refine⟨(cO K R i:Int),?_,rfl⟩;unfold Yq;rw[hl];simp only[Ac,AG];exact⟨n,hn,by rw[h,SU]⟩
theorem Om {i:Int} (h0:0<=i) (h:i<(K.length:Int)):BA (K++X) i=BA K i:=by
 obtain⟨c,rfl⟩:∃c:Nat,i=(c:Int):=⟨_,(AY h0).symm⟩;unfold BA;rw[Aw,Aw,Bm<|by omega]
theorem yX (h:DD K r=true):DD (K++X) r=true:=by
 rcases Ca h with e|⟨h0,h1,hl⟩
 ·rw[e];rfl
 unfold DD;rw[Om h0 h1,hl,Ad<|by grind];simp
theorem tI (hK:CX K=true) (h:DD K r=true):Fe (K++X) r=Fe K r:=by
 unfold Fe;apply Dh;intro s hs;rw[Hm]at hs;unfold Ru
 rcases Ca h with e|⟨h0,h1,hl⟩
 ·rw[e];rfl
 rw[Om h0 h1];simp only[Av<|show¬r<0 by omega]
 rcases Gv hK h0 h1 hl (show s/4<4 by omega)with k1|⟨k1,k2,k3⟩
 ·rw[k1];rfl
 rw[Om k1<|by omega]
theorem fO (hK:CX K=true) (hr:DD K r=true) (hs:s<16) (n:Int):(OQ K r s n).length=4:=by
 unfold OQ;rw[G4]
 rcases Ca hr with e|⟨h0,h1,hl⟩
 ·grind
 rw[Av<|by omega]
 rcases Gv hK h0 h1 hl (show s/4<4 by omega)with k1|⟨k1,k2,k3⟩
 ·grind
 rw[Av<|by omega];exact(FB hK k1<|by omega).1
theorem lI (hK:CX K=true) (hr:DD K r=true) (s:Nat):(T3 K r s).length=4:=by
 unfold T3;rw[G4]
 rcases Ca hr with e|⟨h0,h1,hl⟩
 ·grind
 rw[Av<|by omega];exact(FB hK h0 h1).1
theorem WH:BA (J4 K r s n) (K.length:Int)=B6.mk true (OQ K r s n):=by
 unfold BA J4;rw[Aw,Bq<|Au _,Yi];rfl
theorem WG:BA (J4 K r s n) ((K.length:Int)+1)=B6.mk false (T3 K r s):=by
 unfold BA J4;rw[show(K.length:Int)+1=((K.length+1:Nat):Int)from rfl,Aw,Bq (by omega),show K.length+1-K.length=1 by omega];rfl
theorem AC7 (hK:CX K=true) (hr:DD K r=true) (hs:s<16) (hn:0<=n):CX (J4 K r s n)=true:=by
 rw[GF];intro j hj;have a:(J4 K r s n).length=K.length+2:=by unfold J4;simp
 rw[a]at hj;by_cases h:j<K.length
 ·have hk:BA (J4 K r s n) (j:Int)=BA K (j:Int):=Om (by omega) (by omega);rw[hk];obtain⟨h4,h5⟩:=GF.1 hK j h;refine⟨h4,λm hm=>?_⟩;have:=h5 m hm
  cases hl:(BA K (j:Int)).Leaf with
  |true=>rw[hl]at this;exact this
  |false=>
   rw[hl]at this;simp only[PG,Ac,Cq,Cd,Ak,A5]at this⊢
   rcases this with e|⟨e1,e2⟩
   ·exact .inl e
   refine .inr ⟨e1,?_⟩;rw[show BA (J4 K r s n) m=BA K m from Om e1.1<|by omega];exact e2
 by_cases e:j=K.length
 ·subst e;rw[WH];refine⟨fO hK hr hs n,λm hm=>?_⟩;simp only[PG,Ae,A5];unfold OQ at hm
  rcases Cf hm with hm|hm
  ·rcases Ca hr with e|⟨h0,h1,hl⟩
   ·grind
   rw[Av<|by omega]at hm
   rcases Gv hK h0 h1 hl (show s/4<4 by omega)with k1|⟨k1,k2,k3⟩
   ·grind
   rw[Av<|by omega]at hm;have hq:=GF.1 hK (LG (BA K r)<|s/4).toNat (by omega);rw[AY k1,k3]at hq;have:=hq.2 m hm;simpa[PG]using this
  omega
 have:j=K.length+1:=by omega
 subst this;rw[show((K.length+1:Nat):Int)=(K.length:Int)+1 from rfl,WG];refine⟨lI hK hr s,λm hm=>?_⟩;simp only[PG,Ac,Cq,Cd,Ak,A5];unfold T3 at hm
 rcases Cf hm with hm|hm
 ·rcases Ca hr with e|⟨h0,h1,hl⟩
  ·grind
  rw[Av<|by omega]at hm;obtain⟨q,hq,rfl⟩:=AC hm;obtain⟨h4,hk⟩:=FB hK h0 h1;have e5:=(hk q<|by omega).1;rw[Ab hq]at e5
  injection e5 with e5
  rw[e5]
  rcases Gv hK h0 h1 hl (show q<4 by omega)with k1|⟨k1,k2,k3⟩
  ·exact .inl k1
  refine .inr ⟨by omega,?_⟩;rw[show BA (J4 K r s n) (LG (BA K r) q)=BA K (LG (BA K r) q)from Om k1 (by omega)];exact k3
 refine .inr ⟨by omega,?_⟩;rw[hm,WH]
theorem vG:DD (J4 K r s n) ((K.length:Int)+1)=true:=by
 unfold DD;rw[WG,Ad (by unfold J4;simp;omega)];simp
theorem tR (hK:CX K=true) (hr:DD K r=true) (hs:s<16):Fe (J4 K r s n) ((K.length:Int)+1)=(Fe K r).set s n:=by
 unfold Fe;symm;apply PA;intro t ht;unfold Ru;rw[WG];simp only[Av<|show¬((K.length:Int)+1)<0 by omega];have b:=lI hK hr s;have a:=fO hK hr hs n;by_cases hq:t/4=s/4
 ·have e1:LG (B6.mk false<|T3 K r s) (t/4)=(K.length:Int):=by
   unfold LG T3;rw[hq,Cz,Ay rfl];unfold T3 at b
   grind
  rw[e1,Av (by omega),WH];have e2:LG (B6.mk true<|OQ K r s n) (t %4)=if t %4=s %4 then n else(if r<0 then 0 else if LG (BA K r) (s/4)<0 then 0 else LG (BA K<|LG (BA K r)<|s/4)<|t %4):=by
   unfold LG OQ;unfold OQ at a;rw[G4]at a;rw[Cz];by_cases e:s %4=t %4
   ·grind
   rw[Av e,Av<|Fk e];have zero:([0,0,0,0]:List Int)[t %4]?.getD 0=0:=by
    have:t %4<4:=by omega
    generalize t %4=q at this
    match q,this with
    |0,_=>rfl
    |1,_=>rfl
    |2,_=>rfl
    |3,_=>rfl
   by_cases c1:r<0
   ·grind
   rw[Av c1,Av c1];unfold LG
   grind
  grind
 rw[Av<|show¬t=s by omega];have e1:LG (B6.mk false<|T3 K r s) (t/4)=if r<0 then-1 else LG (BA K r) (t/4):=by
  unfold LG T3;rw[Cz,Av<|Fk hq];by_cases c1:r<0
  ·rw[Ay c1,Ay c1];have:t/4<4:=by omega
   generalize t/4=q at this
   match q,this with
   |0,_=>rfl
   |1,_=>rfl
   |2,_=>rfl
   |3,_=>rfl
  grind
 rw[e1]
 rcases Ca hr with e|⟨h0,h1,hl⟩
 ·rw[e];rfl
 simp only[Av<|show¬r<0 by omega]
 rcases Gv hK h0 h1 hl (show t/4<4 by omega)with k1|⟨k1,k2,k3⟩
 ·rw[k1];rfl
 rw[show BA (J4 K r s n) (LG (BA K r)<|t/4)=BA K (LG (BA K r)<|t/4)from Om k1 (by omega)]
def MQ (n:Nat) (p:Nat->Bool):Nat:=((List.range n).filter p).length
theorem LQ (n:Nat) (p:Nat->Bool):MQ (n+1) p=MQ n p+(if p n=true then 1 else 0):=by
 unfold MQ;rw[Ey,AO,Ai];by_cases h:p n=true
 ·rw[Ay h,CN h];rfl
 rw[Av h,DK h];rfl
theorem YC (p q:Nat->Bool):∀n,MQ n (λj=>p j||q j)<=MQ n p+MQ n q
 |0=>by simp[MQ]
 |n+1=>by
  have:=YC p q n;rw[LQ,LQ,LQ];cases p n<;>cases q n<;>simp<;>omega
theorem aS (x:Int):∀n,MQ n (λj=>decide (x=(j:Int)))<=1/\(x>=(n:Int)->MQ n (λj=>decide (x=(j:Int)))=0)
 |0=>by simp[MQ]
 |n+1=>by
  obtain⟨h1,h2⟩:=aS x n;rw[LQ];by_cases h:x=(n:Int)
  ·have:=h2 (by omega);rw[Ay<|by simpa using h];exact⟨by omega,λh3=>by omega⟩
  rw[Av<|by simpa using h];exact⟨by omega,λh3=>by rw[h2<|by omega]⟩
theorem AAC (l:List Int) (n:Nat):MQ n (λj=>l.any λx=>decide (x=(j:Int)))<=l.length:=by
 induction l with
 |nil=>simp[MQ]
 |cons x l ih=>
  simp only[List.any_cons,A7];have:=YC (λj=>decide<|x=(j:Int)) (λj=>l.any λx=>decide<|x=(j:Int)) n;have:=(aS x n).1;omega
theorem AB8 {n:Nat} {q:Nat->Bool} (h:∀j,j<n->p j=true->q j=true):MQ n p<=MQ n q:=by
 induction n with
 |zero=>simp[MQ]
 |succ n ih=>
  have:=ih (λj hj=>h j<|by omega);rw[LQ,LQ];by_cases e:p n=true
  ·rw[Ay e,Ay<|h n (by omega) e];omega
  rw[Av e];omega
theorem oF {n:Nat} (h:∀j,j<n->p j=true):MQ n p=n:=by
 induction n with
 |zero=>rfl
 |succ n ih=>rw[LQ,Ay (h n<|by omega),ih λj hj=>h j<|by omega]
theorem AB3 (hK:CX K=true) (hr:DD K r=true) (n:Nat):MQ n (Ow K r)<=5:=by
 have h1:=YC (λj=>decide<|r=(j:Int)) (λj=>(BA K r).Kids.any λn=>decide<|n=(j:Int)) n;have h2:=(aS r n).1;have h3:=AAC (BA K r).Kids n
 have h4:MQ n (Ow K r)<=MQ n (λj=>decide (r=(j:Int))||(BA K r).Kids.any λn=>decide<|n=(j:Int)):=AB8 λj _ h=>by
  unfold Ow at h;rw[Ak]at h;exact h.2
 rcases Ca hr with e|⟨h0,hl,_⟩
 ·have:MQ n (Ow K r)=MQ n (λ_=>false):=by rw[e];rfl
  rw[this];unfold MQ;rw[Br.2<|by simp];simp
 have:=(FB hK h0 hl).1;omega
theorem YQ (hK:CX K=true) (n:Nat):∀(R:List Int),(∀r∈R,DD K r=true)->MQ n (C8 K R)<=5*R.length
 |[],_=>by simp[MQ,C8]
 |r::R,h=>by
  have h1:=YQ hK n R (λx hx=>h x<|by simp[hx]);have h2:=AB3 hK (h r<|by simp) n;have h3:=YC (Ow K r) (C8 K R) n;have h4:MQ n (C8 K (r::R))=MQ n (λj=>Ow K r j||C8 K R j):=rfl;rw[h4,A7];omega
theorem uX (hK:CX K=true) (hR:∀r∈R,DD K r=true):(TF K R).length<=5*R.length:=by
 rw[gT];exact YQ hK _ R hR
def B3 (s:Store):List Int:=s.Vols.map Vol.Root
structure StoreR (s:Store):Prop where
 len:s.Vols.length<=3
 ar:CX s.Arena.Knots=true
 nx:1<=s.Next/\s.Next<=1000000000
 ids:∀v∈s.Vols,1<=v.Id/\v.Id<=9
 asc:(s.Vols.map Vol.Id).Pairwise (·<·)
 root:∀r∈B3 s,DD s.Arena.Knots r=true
 lt:∀r∈B3 s,∀x∈Fe s.Arena.Knots r,x<s.Next
 few:s.Arena.Knots.length<=1000
structure CB (s:Store):Prop extends StoreR s where
 used:∀i,i<s.Arena.Knots.length->C8 s.Arena.Knots (B3 s) i=true
theorem CB.small {s:Store} (h:CB s):s.Arena.Knots.length<=15:=by
 have h1:=YQ h.ar s.Arena.Knots.length (B3 s) h.root;rw[oF h.used]at h1;have:(B3 s).length=s.Vols.length:=by unfold B3;rw[Bg]
 have:=h.len;omega
def By (s:Store):List (Int×List Int):=s.Vols.map λv=>(v.Id,Fe s.Arena.Knots v.Root)
def Lp (s:Store):Store:=Store.mk (s.Vols.map λv=>Vol.mk v.Id<|O3 s.Arena.Knots (B3 s) v.Root) (Arena.mk<|TF s.Arena.Knots<|B3 s) s.Next
theorem Qo (s:Store):B3 (Lp s)=(B3 s).map (O3 s.Arena.Knots (B3 s)):=by
 unfold B3 Lp;simp only[FH];rfl
theorem s9 {s:Store} (h:StoreR s):CB (Lp s):=by
 have b:(B3 s).length=s.Vols.length:=by unfold B3;rw[Bg]
 refine⟨⟨by unfold Lp;simpa using h.len,ACX h.ar h.root,h.nx,?_,?_,?_,?_,?_⟩,?_⟩
 ·intro v hv;unfold Lp at hv;simp only[AG]at hv;obtain⟨w,hw,rfl⟩:=hv;exact h.ids w hw
 ·have:((Lp s).Vols.map Vol.Id)=s.Vols.map Vol.Id:=by unfold Lp;simp only[FH];rfl
  rw[this];exact h.asc
 ·intro r hr;rw[Qo]at hr;obtain⟨q,hq,rfl⟩:=AG.1 hr;exact y9 h.root hq
 ·intro r hr;rw[Qo]at hr;obtain⟨q,hq,rfl⟩:=AG.1 hr;have:=tM h.ar h.root hq;intro x hx;have a:x∈Fe s.Arena.Knots q:=by rw[<-this];exact hx
  exact h.lt q hq x a
 ·have:=uX h.ar h.root;have:=h.len;show(TF s.Arena.Knots<|B3 s).length<=1000;omega
 intro i hi;rw[Qo];exact ABn h.ar h.root hi
theorem eC {s:Store} (h:StoreR s):By (Lp s)=By s:=by
 unfold By;show(s.Vols.map λv=>Vol.mk v.Id<|O3 s.Arena.Knots (B3 s) v.Root).map _=_;rw[FH];apply Dh;intro v hv;have:=tM h.ar h.root<|show v.Root∈B3 s from AG.2 ⟨v,hv,rfl⟩;show(v.Id,Fe (TF s.Arena.Knots<|B3 s)<|O3 s.Arena.Knots (B3 s) v.Root)=_;rw[this]
theorem TH (s:Store) (hv:s.Vols.length<=1048576):NW s=some (B3 s):=by
 unfold NW;obtain⟨b,h1,h2⟩:=AS (body:=λq:List Int×Int=>Jy s q.1 q.2) (λ(o:List Int) i=>(o,i)) s.Vols.length (λi o=>o=(s.Vols.take i).map Vol.Root) (λb=>b=B3 s)
  (λo i hi ho=>by
   have hx:=Ab hi;simp only[Jy,Ez hi,Aw,hx,Aa];rw[BP (by rw[ho];simp;omega),Aa,ad1]
   exact .inl ⟨_,rfl,by rw[ho,Ei,hx,Co];rfl⟩)
  (λo ho=>⟨o,by simp only[Jy,Ec],by rw[ho,AN<|Au _];rfl⟩) (s:=[]) rfl
 rw[h1,h2];rfl
theorem Jw {s:Store} (h:StoreR s):Hz s=some (Lp s):=by
 have hl:=h.len;have hf:=h.few;have d:(B3 s).length=s.Vols.length:=by unfold B3;rw[Bg]
 unfold Hz;rw[TH s<|by omega];simp only[Aa];rw[Zk _ (by omega) h.ar _ (by omega) h.root];simp only[Aa];rw[LV<|by omega];simp only[Aa];have q:=Ok (body:=λq:Int×List Vol=>Jx ((B3 s).map<|O3 s.Arena.Knots<|B3 s,TF s.Arena.Knots<|B3 s) q.1 q.2) (λl i=>(i,l)) (λ_ v=>Vol.mk v.Id<|O3 s.Arena.Knots (B3 s) v.Root) s.Vols
  (λi l x a b c=>by
   have hi:=(Ag.1 b).1;simp only[Jx,Ez hi];have:gi ((B3 s).map<|O3 s.Arena.Knots<|B3 s) (i:Int)=some (O3 s.Arena.Knots (B3 s) x.Root):=by
    rw[Aw,AP];unfold B3;rw[AP,c];rfl
   rw[this,Aw,b];simp only[Aa]
   rw[E8,ad1])
  (λl a=>by simp only[Jx,B4,a];rw[cF])
 rw[IW]at q;rw[q];rfl
theorem YW {s:Store} (h:CB s):Lp s=s:=by
 have c:∀i,i<=s.Arena.Knots.length->cO s.Arena.Knots (B3 s) i=i:=λi hi=>oF λj hj=>h.used j<|by omega
 have a:∀n:Int,n<(s.Arena.Knots.length:Int)->O3 s.Arena.Knots (B3 s) n=n:=λn hn=>by
  unfold O3;split
  ·rw[c _<|by omega];omega
  rfl
 have b:∀r∈B3 s,O3 s.Arena.Knots (B3 s) r=r:=λr hr=>by
  rcases Ca (h.root r hr)with e|⟨h0,h1,_⟩
  ·rw[e,ST<|by omega]
  exact a r h1
 have d:TF s.Arena.Knots (B3 s)=s.Arena.Knots:=by
  unfold TF;rw[GI.2 λi hi=>h.used i<|by simpa using hi];apply CF;intro i;rw[AP];by_cases hi:i<s.Arena.Knots.length
  ·rw[R7 hi,Ab hi];simp only[Bx];congr 1;have h0:(0:Int)<=(i:Int):=by omega
   have h1:(i:Int)<(s.Arena.Knots.length:Int):=by omega
   unfold Yq
   cases hl:(BA s.Arena.Knots (i:Int)).Leaf with
   |true=>
    simp only[Ae];rw[<-hl,Ol hi]
   |false=>
    simp only[Ac];have:(BA s.Arena.Knots (i:Int)).Kids.map (O3 s.Arena.Knots<|B3 s)=(BA s.Arena.Knots (i:Int)).Kids:=by
     conv=>rhs;rw[<-UO (BA s.Arena.Knots (i:Int)).Kids]
     apply Dh;intro n hn;obtain⟨q,hq,rfl⟩:=AC hn;obtain⟨h4,hk⟩:=FB h.ar h0 h1;have e5:=(hk q<|by omega).1;rw[Ab hq]at e5
     injection e5 with e5
     rw[e5]
     rcases Gv h.ar h0 h1 hl (show q<4 by omega)with k1|⟨k1,k2,k3⟩
     ·rw[k1,ST<|by omega];rfl
     exact a _<|by omega
    rw[this,<-hl,Ol hi]
  rw[Hw (by simpa using hi),Hw<|by omega];rfl
 unfold Lp;rw[d];have:(s.Vols.map λv=>Vol.mk v.Id<|O3 s.Arena.Knots (B3 s) v.Root)=s.Vols:=by
  conv=>rhs;rw[<-UO s.Vols]
  apply Dh;intro v hv;rw[b _<|AG.2 ⟨v,hv,rfl⟩];rfl
 rw[this]
theorem aW (hs:s<16):Ru K r s∈Fe K r:=AG.2 ⟨s,by simpa using hs,rfl⟩
theorem Sc {l:List Int} {y:Int} (h:l.Pairwise (·<·)) (a:i<j) (hx:l[i]?=some x) (hy:l[j]?=some y):x<y:=by
 obtain⟨h1,rfl⟩:=Ag.1 hx;obtain⟨h2,rfl⟩:=Ag.1 hy;exact Dq.1 h i j h1 h2 a
theorem RM {s:Store} (h:CB s):P8 s=some true:=by
 have hl:=h.len;have hf:=h.few;have d:(B3 s).length=s.Vols.length:=by unfold B3;rw[Bg]
 unfold P8;rw[B4,cF,KC _ (by omega),h.ar,EB,Ad h.nx];simp only[Aa,Ah,Ac];obtain⟨b,h1,h2⟩:=AS (body:=λq:Int=>K5 s q) (λ(_:Unit) i=>i) s.Vols.length (λ_ _=>True) (λb=>b= .inl ())
  (λ_ i hi _=>by
   have hx:=Ab hi;have hm:s.Vols[i]∈s.Vols:=A3 hi;have hr:s.Vols[i].Root∈B3 s:=AG.2 ⟨_,hm,rfl⟩;simp only[K5,Ez hi,Aw,hx,Aa];rw[EB,Ad<|h.ids _ hm,Nn _ (by omega),h.root _ hr];simp only[Aa,Ah,Ac];have a:(cond (decide<|(i:Int)>0) ((gi s.Vols<|sb (i:Int) 1).bind λx2=>cond (decide<|x2.Id>=s.Vols[i].Id) (some true)<|some false) (some false):Option Bool)=some false:=by
    by_cases h0:i=0
    ·rw[cF]
    rw[cT,Cj,show(i:Int)-1=((i-1:Nat):Int) by omega,Aw,Ab<|by omega];simp only[Aa];have:=Sc h.asc (show i-1<i by omega) (x:=s.Vols[i-1].Id) (y:=s.Vols[i].Id) (by rw[AP,Ab<|by omega];rfl) (by rw[AP,Ab<|by omega];rfl);rw[cF]
   rw[a];simp only[Aa,Ac];obtain⟨c,q1,q2⟩:=AS (body:=λq:Int=>K4 s s.Vols[i] q) (λ(_:Unit) i=>i) 16 (λ_ _=>True) (λb=>b= .inl ())
    (λ_ k hk _=>by
     simp only[K4];rw[cT,Xs _ h.ar (h.root _ hr) hk];simp only[Aa];have:=h.lt _ hr _<|aW hk;rw[cF,ad1]
     exact .inl ⟨(),rfl,trivial⟩)
    (λ_ _=>⟨_,by simp only[K4];rw[cF],rfl⟩) (s:=()) trivial
   rw[q1,q2];simp only[Aa,Bz];rw[ad1]
   exact .inl ⟨(),rfl,trivial⟩)
  (λ_ _=>⟨_,by simp only[K5,Ec],rfl⟩) (s:=()) trivial
 rw[h1,h2];simp only[Aa,Bz];rw[TH s (by omega),Aa,Zk _ (by omega) h.ar _ (by omega) h.root];simp only[Aa];have:TF s.Arena.Knots (B3 s)=s.Arena.Knots:=by
  have:=YW h;unfold Lp at this;have:=BG (λz=>z.Arena.Knots) this;exact this
 rw[this];simp
def UT (x:B6):Nat:=x.Kids.length
def YF (x:Arena):Nat:=zl UT x.Knots
def Ln (x:Store):Nat:=x.Vols.length+YF x.Arena
def SD (x:A9):Nat:=NM x.Flash+Ln x.Store
def PH (x:Leaf):Nat:=bif x.Is==0 then 1 else 0
theorem AAJ (l:List Leaf):(l.map PH).sum<=l.length:=by
 induction l with
 |nil=>simp
 |cons x l ih=>
  have:PH x<=1:=by unfold PH;cases x.Is==0<;>simp
  simp only[BJ,FG,A7];omega
theorem Xb (b:Block) (h:b.Leaves.length<=1048576):I9 b=some ((b.Leaves.map PH).sum:Int):=by
 unfold I9;obtain⟨v,h1,rfl⟩:=AS (body:=λs:Int×Int=>Hv b s.1 s.2) (λ(s:Int) i=>(s,i)) b.Leaves.length (λk s=>s=(((b.Leaves.take k).map PH).sum:Nat)) (λv=>v=((b.Leaves.map PH).sum:Nat))
  (λs k hk hs=>by
   have hx:b.Leaves[k]?=some b.Leaves[k]:=Ab hk;have e:=RC PH b.Leaves k hk;have e2:=OA PH b.Leaves<|k+1;have e3:=AAJ b.Leaves;refine .inl ?_;simp only[Hv,Ez hk,Aw,hx,Aa];have e4:PH b.Leaves[k]=bif b.Leaves[k].Is==0 then 1 else 0:=rfl
   cases hb:b.Leaves[k].Is==0 with
   |true=>
    rw[hb]at e4;simp only[Ae]at e4⊢;rw[ad1,C6];exact⟨_,rfl,by omega⟩
   |false=>
    rw[hb]at e4;simp only[Ac]at e4⊢;rw[ad1]
    exact⟨_,rfl,by omega⟩)
  (λs hs=>⟨s,by simp only[Hv,Ec],by rw[Bc]at hs;exact hs⟩) (s:=0) (by simp)
 rw[h1];rfl
theorem Xe (f:Flash) (hf:JW f) (hn:nl f.Blocks<=1048576):∃v:Int,M2 f=some v/\Ou f=some v/\0<=v/\v<=nl f.Blocks:=by
 unfold M2 Ou;obtain⟨v,h1,h2,h3⟩:=Sh (body:=λs:Int×Int=>M1 f s.1 s.2) (body':=λs:Int×Int=>MJ f s.1 s.2) (λ(s:Int) i=>(s,i)) (λ(s:Int) i=>(s,i)) f.Blocks.length (λi n=>0<=n/\n<=(((f.Blocks.take i).map λb=>b.Leaves.length).sum:Nat)) (λv=>0<=v/\v<=nl f.Blocks)
  (λn i hi hs=>by
   have hb:f.Blocks[i]?=some f.Blocks[i]:=Ab hi;have hm:f.Blocks[i]∈f.Blocks:=A3 _;have d:=RC (λb:Block=>b.Leaves.length) f.Blocks i hi;have g:=OA (λb:Block=>b.Leaves.length) f.Blocks<|i+1;unfold nl at hn;have h:=hf.1;have c:=hf.2 _ hm;have j:=AAJ f.Blocks[i].Leaves;refine .inl ?_;simp only[M1,MJ,Ez hi,Aw,hb,Aa,Xb _ c];obtain⟨u,q1,rfl⟩:=AS (body:=λs:Int×Int=>M0 f (i:Int) s.1 s.2) (λ(s:Int) i=>(s,i)) f.Blocks[i].Leaves.length (λk s=>s=n+(bif f.Blocks[i].Bad then 0 else((f.Blocks[i].Leaves.take k).map PH).sum:Nat)) (λv=>v=n+(bif f.Blocks[i].Bad then 0 else(f.Blocks[i].Leaves.map PH).sum:Nat))
    (λs k hk hs=>by
     have hx:f.Blocks[i].Leaves[k]?=some f.Blocks[i].Leaves[k]:=Ab hk;have e:=RC PH f.Blocks[i].Leaves k hk;have e2:=OA PH f.Blocks[i].Leaves<|k+1;refine .inl ?_;simp only[M0,Aw,hb,Aa,Ez hk,hx]
     cases a:f.Blocks[i].Bad with
     |true=>
      rw[a]at hs;simp only[Ah,Ac,Ae]at hs⊢;rw[ad1];exact⟨_,rfl,hs⟩
     |false=>
      rw[a]at hs;simp only[AD,Ac,Ae]at hs⊢;have e4:PH f.Blocks[i].Leaves[k]=bif f.Blocks[i].Leaves[k].Is==0 then 1 else 0:=rfl
      cases hb:f.Blocks[i].Leaves[k].Is==0 with
      |true=>
       rw[hb]at e4;simp only[Ae]at e4⊢;rw[ad1,C6];exact⟨_,rfl,by omega⟩
      |false=>
       rw[hb]at e4;simp only[Ac]at e4⊢;rw[ad1]
       exact⟨_,rfl,by omega⟩)
    (λs hs=>⟨s,by simp only[M0,Aw,hb,Aa,Ec],by rw[Bc]at hs;exact hs⟩) (s:=n) (by cases f.Blocks[i].Bad<;>simp)
   rw[q1];simp only[Aa]
   cases f.Blocks[i].Bad with
   |true=>
    simp only[Ae,Ah,Ac];rw[ad1];exact⟨_,rfl,by simp,by omega,by omega⟩
   |false=>
    simp only[Ae,AD,Ac];rw[ad1,C6]
    exact⟨_,rfl,rfl,by omega,by omega⟩)
  (λn hs=>by
   rw[Bc]at hs
   exact⟨n,by simp only[M1,Ec],by simp only[MJ,Ec],hs⟩) (s:=0) (by simp)
 rw[h1,h2];exact⟨v,rfl,rfl,h3⟩
theorem AAc (s:ByteArray) (f a:Int):NY s f a=Ap (λn:Int=>Gw s a f n) 0:=by
 show(Ap (λn:Int=>Gw s a f n) 0).bind _=_;simp
theorem AAb (s:ByteArray) (f a:Nat) (hf:f<a) (ha:a<=(L s).length) (hs:(L s).length<=64):∃k:Nat,Ap (λn:Int=>Gw s (a:Int) (f:Int) n) 0=some (k:Int)/\k<=31/\a+k<=(L s).length:=by
 obtain⟨b,h1,k,rfl,h2,h3⟩:=AS (body:=λn:Int=>Gw s (a:Int) (f:Int) n) (λ(_:Unit) i=>i) 31 (λi _=>a+i<=(L s).length) (λb=>∃k:Nat,b=(k:Int)/\k<=31/\a+k<=(L s).length)
  (λ_ i hi hs=>by
   simp only[Gw];rw[cT,C6,C6,B9];by_cases c:a+i<(L s).length
   ·rw[cT];have e1:((f:Int)+(i:Int))=((f+i:Nat):Int):=by omega
    have e2:((a:Int)+(i:Int))=((a+i:Nat):Int):=by omega
    rw[e1,e2,Fl s (by omega),Fl s c];simp only[Aa]
    cases((((L s)[f+i]).toNat:Int)==(((L s)[a+i]).toNat:Int))with
    |true=>
     simp only[Ae];rw[ad1];exact .inl ⟨(),rfl,by omega⟩
    |false=>grind
   grind)
  (λ_ hs=>by
   simp only[Gw];rw[cF]
   exact⟨_,rfl,31,rfl,by omega,hs⟩) (s:=()) (by omega)
 grind
theorem qR (s:ByteArray) (a:Nat) (ha:a<=(L s).length) (hs:(L s).length<=64):∃z b:Nat,Te s (a:Int)=some ((z:Int),(b:Int))/\Ap (λq:Int×Int×Int=>EF s (a:Int) q.1 q.2.1 q.2.2) (0,0,sb (a:Int) 1)=some ((z:Int),(b:Int))/\z<=31/\a+z<=(L s).length/\(z=0\/4<=z/\1<=b/\b<=a):=by
 have c:(λq:Int×Int×Int=>EF s (a:Int) q.1 q.2.1 q.2.2)=λq:Int×Int×Int=>H7 s (a:Int) q.1 q.2.1 q.2.2:=by
  funext ⟨x,y,z⟩;simp only[EF,H7,AAc]
 rw[c,Cj];obtain⟨r,h1,z,b,rfl,h2,h3,h4⟩:=AS (body:=λq:Int×Int×Int=>H7 s (a:Int) q.1 q.2.1 q.2.2) (λ(q:Nat×Nat) i=>((q.1:Int),(q.2:Int),(a:Int)-1-i)) a (λi q=>q.1<=31/\a+q.1<=(L s).length/\(q.1=0\/4<=q.1/\1<=q.2/\q.2<=a)) (λr=>∃z b:Nat,r=((z:Int),(b:Int))/\z<=31/\a+z<=(L s).length/\(z=0\/4<=z/\1<=b/\b<=a))
  (λq i hi hq=>by
   obtain⟨k,m1,m2,m3⟩:=AAb s (a-1-i) a (by omega) ha hs;have e1:((a:Int)-1-(i:Int))=((a-1-i:Nat):Int):=by omega
   simp only[H7,e1];rw[Ad (by omega:(((a-1-i:Nat)):Int)>=0),Ae,m1,Aa,Cj,Cj];refine .inl ?_;have e2:(((a-1-i:Nat):Int)-1)=(a:Int)-1-((i+1:Nat):Int):=by omega
   have e3:((a:Int)-((a-1-i:Nat):Int))=((1+i:Nat):Int):=by omega
   rw[e2,e3];by_cases h4:4<=k
   ·rw[cT];by_cases h5:q.1<k
    ·rw[Ad (by omega:(k:Int)>(q.1:Int))];exact⟨(k,1+i),rfl,m2,m3,.inr ⟨h4,by omega,by omega⟩⟩
    grind
   grind)
  (λq hq=>by
   simp only[H7]
   grind) (s:=(0,0)) ⟨by omega,by omega,.inl rfl⟩
 have e0:(((0:Nat):Int),((0:Nat):Int),(a:Int)-1-0)=((0:Int),(0:Int),(a:Int)-1):=by simp
 simp only[e0]at h1;refine⟨z,b,?_,h1,h2,h3,h4⟩;unfold Te;rw[Cj,h1];rfl
def Vd (t:Bj):Prop:=(t.Back=0/\t.Size=0/\1<=(L t.Text).length/\(L t.Text).length<=31)\/(1<=t.Back/\t.Back<=64/\4<=t.Size/\t.Size<=31/\L t.Text=[])
theorem Fv (l:List α) (x:α):gi (l++ [x]) (l.length:Int)=some x:=by
 rw[Aw];simp
theorem Kb (l:List α) (x y:α):si (l++ [x]) (l.length:Int) y=l++ [y]:=by
 rw[E8];simp
theorem oV (s:ByteArray) (hs:(L s).length<=64):∃l,L6 s=some l/\Q9 s=some l/\l.length<=64/\∀t∈l,Vd t:=by
 unfold L6 Q9;rw[B9,Af (by omega:¬((L s).length:Int)>64),Ac,Ac];obtain⟨l,h1,h2,h3,h4⟩:=SZ (body:=λq:List Bj×Int=>Cu s q.1 q.2) (body':=λq:List Bj×Int=>Mm s q.1 q.2) (λq=>(L s).length-q.2.toNat)
  (λq=>∃a:Nat,q.2=(a:Int)/\a<=(L s).length/\q.1.length<=a/\∀t∈q.1,Vd t) (λl=>l.length<=64/\∀t∈l,Vd t)
  (by
   rintro⟨f,at_⟩ ⟨a,ha,h1,h2,h3⟩;simp only at ha h2 h3;subst ha;simp only[Cu,Mm];rw[B9];by_cases i:a<(L s).length
   ·rw[Ad (by omega:(a:Int)<((L s).length:Int)),Ae,Ae];obtain⟨z,b,m1,m2,m3,m4,m5⟩:=qR s a h1 hs;rw[m1,m2];simp only[Aa]
    have c:∀x:Bj,ap 32 f [x]=some (f++ [x]):=λx=>BP<|by grind
    refine .inl ?_;by_cases hz:z=0
    ·subst hz;rw[Af (by omega:¬((0:Nat):Int)>0),Ac,Ac];have esub:sub s (a:Int) (ad (a:Int) 1)=some (s.extract a<|a+1):=by rw[ad1];exact FK s (by omega) (by omega)
     have elen:(L<|s.extract a<|a+1).length=1:=by rw[IP];simp;omega
     rw[esub,ad1,Cj (by rw[B4];omega) (by rw[B4];omega),B4]
     have ecat:∀x:ByteArray,(L x).length<=31->Ie x (s.extract a<|a+1)=some (x++s.extract a (a+1)):=λx hx=>FU _ _ (by rw[elen];omega)
     have e0:Ie (bs []) (s.extract a<|a+1)=some (s.extract a<|a+1):=by
      rw[ecat _ (by rw[EY];simp)];rfl
     have enew:Vd (Bj.mk 0 0<|s.extract a<|a+1):= .inl ⟨rfl,rfl,by grind,by grind⟩
     have d:∀(o:List Bj) (x:Bj),(∀t∈o,Vd t)->Vd x->∀t∈o++ [x],Vd t:=λo x ho hx t ht=>by grind
     have fin:∀o:List Bj,o.length<=a+1->(∀t∈o,Vd t)->(∃a':Nat,((a+1:Nat):Int)=(a':Int)/\a'<=(L s).length/\o.length<=a'/\∀t∈o,Vd t)/\(L s).length-(((a+1:Nat)):Int).toNat<(L s).length-((a:Int)).toNat:=λo g h=>⟨⟨a+1,rfl,by omega,g,h⟩,by omega⟩
     rcases Hx f with rfl|⟨o,x,rfl⟩
     ·simp only[BV,Int.ofNat_zero,Int.zero_sub];rw[Ad (by omega:(-1:Int)<0),Af (by omega:¬(-1:Int)>=0)];simp only[Ae,Ac,Aa,c];rw[show ad (-1) 1=(([]:List Bj).length:Int)from rfl];simp only[Fv,Aa,e0,Kb];exact⟨_,rfl,rfl,fin _ (by simp)<|d _ _ (by simp) enew⟩
     rw[Hy]at h2 h3 c⊢;simp only[Ai,A8]at h2⊢;have ek:(((o.length+1:Nat):Int)-1)=(o.length:Int):=by omega
     rw[ek,Af (by omega:¬(o.length:Int)<0),Ad (by omega:(o.length:Int)>=0)];simp only[Ae,Ac,Fv,Aa];have hx:=h3 x (by simp);have e:=d (o++ [x]) _ h3 enew;have elast:ad (o.length:Int) 1=((o++ [x]).length:Int):=by rw[ad1];simp
     rcases hx with⟨x1,x2,x3,x4⟩|⟨x1,x2,x3,x4,x5⟩
     ·rw[x1];simp only[show((0:Int)==0)=true from rfl,Ae,show decide ((0:Int)>0)=false from rfl,Ac];rw[B9];by_cases h31:(L x.Text).length<31
      ·rw[Ad (by omega:((L x.Text).length:Int)<31),Af (by omega:¬((L x.Text).length:Int)>=31)];simp only[Ae,Ac,Aa,Fv,ecat _ x4,Kb];simp only[x1];refine⟨_,rfl,rfl,fin _ (by simp;omega)<|d _ _ (λt ht=>h3 t<|by simp[ht])<|.inl ⟨rfl,x2,?_,?_⟩⟩
       ·simp only;rw[DZ,Ai,elen];omega
       simp only;rw[DZ,Ai,elen];omega
      rw[Af (by omega:¬((L x.Text).length:Int)<31),Ad (by omega:((L x.Text).length:Int)>=31)];simp only[Ae,Ac,Aa,c,elast,Fv,e0,Kb];exact⟨_,rfl,rfl,fin _ (by simp;omega) e⟩
     have hb:(x.Back==0)=false:=by simp;omega
     rw[hb,Ad (by omega:x.Back>0)];simp only[Ae,Ac,Aa,c,elast,Fv,e0,Kb];exact⟨_,rfl,rfl,fin _ (by simp;omega) e⟩
    rw[Ad (by omega:(z:Int)>0),Ae,Ae,c];simp only[Aa];rw[C6];refine⟨_,rfl,rfl,⟨a+z,by simp,by omega,by simp;omega,?_⟩,by simp only;omega⟩;intro t ht
    rcases Al.1 ht with ht|ht
    ·exact h3 t ht
    rw[AE]at ht;subst ht;refine .inr ⟨?_,?_,?_,?_,by rfl⟩<;>simp only<;>omega
   grind) ((L s).length) ([],0) (by simp) ⟨0,rfl,by omega,by simp,by simp⟩
 grind
theorem Vf (l m:List Int):L (Fo (l++m))=L (Fo l)++L (Fo m):=by rw[LX,LX,LX,Co]
theorem NP (l:List Int):(L (Fo l)).length=l.length:=by rw[LX,Bg]
theorem yE (b:ByteArray):L (Fo (pW b))=L b:=by
 rw[LX,pW,FH];have:((λn:Int=>UInt8.ofNat n.toNat)∘λc:UInt8=>(c.toNat:Int))=id:=by
  funext c;simp
 rw[this,UO];rfl
theorem AAN (l:List Int) (b:ByteArray):aps l b=ap 1 l (pW b):=by
 have:(pW b).length=b.size:=by simp[pW]
 unfold aps ap
 grind
theorem g8 (b:ByteArray):(pW b).length=(L b).length:=by simp[pW,L]
theorem XU (s:ByteArray):∃z ok,Fd s=some (z,ok)/\LL s=some (z,ok)/\(ok=false->z=bs [])/\(ok=true->(L s).length<=64/\((L z)[0]?=some 122\/(L z)[0]?=some 114)):=by
 unfold Fd LL;rw[B9];by_cases hs:(L s).length<=64
 ·rw[Af (by omega:¬((L s).length:Int)>64),Ac,Ac];obtain⟨l,t1,t2,t3,t4⟩:=oV s hs;rw[t1,t2];simp only[Aa];obtain⟨z,v,h1,h2,rfl,h3,h4⟩:=fL (body:=λq:ByteArray×Int=>Fu l q.1 q.2) (body':=λq:List Int×Int=>JA l q.1 q.2) (λv i=>(Fo v,i)) (λv i=>(v,i)) l.length (λi v=>v.length<=1+33*i/\(L<|Fo v)[0]?=some 122) (λz v=>z=Fo v/\v.length<=4000/\(L<|Fo v)[0]?=some 122)
   (λv i hi hv=>by
    have hg:l[i]?=some l[i]:=Ab hi;have c:=hv.1;have ht:=t4 _<|A3 hi;refine .inl ?_;simp only[Fu,JA,KH,Ad hi,Ae,Aw,hg,Aa]
    have b:∀(a:ByteArray) (m:List Int),(L a).length<=4000->m.length<=2->Ie a (Fo m)=some (a++Fo m):=λa m h1 h2=>FU _ _ (by rw[NP];omega)
    have h0:∀m:List Int,(L<|Fo<|v++m)[0]?=some 122:=λm=>by
     rw[Vf,Bm]
     ·exact hv.2
     grind
    rcases ht with⟨x1,x2,x3,x4⟩|⟨x1,x2,x3,x4,x5⟩
    ·rw[x1];simp only[show((0:Int)==0)=true from rfl,Ae,show decide ((0:Int)>0)=false from rfl,Ac];rw[b _ _ (by rw[NP];omega) (by simp),BP<|by grind];simp only[Aa];rw[FU _ _ (by rw[DZ,Ai,NP,NP];grind),AAN,BP (by rw[g8];grind)];simp only[Aa];rw[ad1<|by omega];refine⟨v++([IntKind.u8.wrap<|FM l[i].Text]++pW l[i].Text),?_,by simp,?_,h0 _⟩
     ·congr 4;apply Lf;rw[DZ,DZ,Vf,Vf,yE,Ax]
     simp only[Ai,A8,g8];omega
    have hb:(l[i].Back==0)=false:=by simp;omega
    rw[hb,Ad (by omega:l[i].Back>0)];simp only[Ae,Ac];rw[b _ _ (by rw[NP];omega) (by simp),BP<|by grind];simp only[Aa];rw[ad1<|by omega];refine⟨v++ [IntKind.u8.wrap<|ad 128 l[i].Size,IntKind.u8.wrap l[i].Back],?_,rfl,?_,h0 _⟩
    ·congr 4;apply Lf;rw[DZ,Vf]
    grind)
   (λv hv=>⟨_,_,by simp only[Fu,KH,FE,LP,Ac],by simp only[JA,KH,FE,LP,Ac],rfl,by omega,hv.2⟩) (s:=[122]) ⟨by simp,by rw[LX];rfl⟩
  have e0:(Fo [122],(0:Int))=(bs [122],(0:Int)):=by rfl
  simp only[e0]at h1;rw[h1,h2];simp only[Aa];rw[B9,NP,B4,C6 (by omega)<|by omega];by_cases hc:((L s).length:Int)+1<=(v.length:Int)
  ·rw[Ad hc,Ae,FU _ _ (by rw[EY];grind)];refine⟨_,true,rfl,rfl,by simp,λ_=>⟨hs,.inr ?_⟩⟩;rfl
  rw[Af hc,Ac]
  grind
 rw[Ad (by omega:((L s).length:Int)>64),Ae,Ae];simp
def Rn (t:Bj):Prop:=(t.Back=0/\t.Size=0/\1<=(L t.Text).length/\(L t.Text).length<=31)\/(t.Back≠0/\1<=t.Size/\t.Size<=31/\L t.Text=[])
theorem kS:PL=Gb:=by
 funext l;unfold PL Gb;have hb:N0 l=Eo l:=by
  funext out y;unfold N0 Eo
  cases decide (y<ln l)with
  |false=>rfl
  |true=>
   simp only[Ae]
   cases gi l y with
   |none=>rfl
   |some t=>
    simp only[Aa,aN,Rr,AAN]
    have h2:(λs:List Int×Int=>QF t s.1 s.2)=λs:List Int×Int=>En t s.1 s.2:=rfl
    grind
 rw[hb]
theorem Ri (l:List Bj) (hl:l.length<=1048576):∃p ok,Gb l=some (p,ok)/\(ok=true->∀t∈l,Rn t):=by
 unfold Gb;obtain⟨r,h1,h2⟩:=AS (body:=λq:List Int×Int=>Eo l q.1 q.2) (λ(o:List Int) i=>(o,i)) l.length (λi o=>o.length<=64/\∀(j:Nat) t,j<i->l[j]?=some t->Rn t) (λr=>(∃o,r= .inl o/\∀t∈l,Rn t)\/r= .inr (bs [],false))
  (λo i hi ho=>by
   have hg:l[i]?=some l[i]:=Ab hi;obtain⟨e,f⟩:=ho;simp only[Eo,Ez hi,Aw,hg,Aa,Rr];have bad:∀k:(List Int)⊕((List Int×Int)⊕(List Int)⊕(ByteArray×Bool)),k= .inr (.inr<|.inr (bs [],false))->∃b,(some k).bind (Sum.elim (λj1=>cond (decide<|(ln j1)>64) (some<|.inr<|.inr (bs [],false))<|some<|.inl (j1,ad (i:Int) 1)) some)=some (.inr b)/\((∃o,b= .inl o/\∀t∈l,Rn t)\/b= .inr (bs [],false)):=by simp
   have good:∀(o':List Int),Rn l[i]->(∃s',(some (.inl o':(List Int)⊕(List Int×Int)⊕(List Int)⊕(ByteArray×Bool))).bind (Sum.elim (λj1=>cond (decide<|(ln j1)>64) (some<|.inr<|.inr (bs [],false))<|some<|.inl (j1,ad (i:Int) 1)) some)=some (.inl (s',((i+1:Nat):Int)))/\s'.length<=64/\∀(j:Nat) t,j<i+1->l[j]?=some t->Rn t)\/∃b,(some (.inl o':(List Int)⊕(List Int×Int)⊕(List Int)⊕(ByteArray×Bool))).bind (Sum.elim (λj1=>cond (decide<|(ln j1)>64) (some<|.inr<|.inr (bs [],false))<|some<|.inl (j1,ad (i:Int) 1)) some)=some (.inr b)/\((∃o,b= .inl o/\∀t∈l,Rn t)\/b= .inr (bs [],false)):=by
    intro o' ht;simp only[Aa,Bz];by_cases h64:o'.length<=64
    ·rw[Af (by rw[B4];omega),Ac,ad1]
     grind
    rw[Ad (by rw[B4];omega),Ae];simp
   by_cases hb:l[i].Back=0
   ·rw[hb];simp only[show((0:Int)==0)=true from rfl,Ae];rw[B9];by_cases hx:(1<=(L l[i].Text).length/\(L l[i].Text).length<=31)/\l[i].Size=0
    ·obtain⟨⟨c,d⟩,a⟩:=hx;rw[Ad (by omega:(1:Int)<=((L l[i].Text).length:Int)),Ad (by omega:((L l[i].Text).length:Int)<=31),a];simp only[Ku,Ah,Ac,Aa,show((0:Int) !=0)=false from rfl];rw[BP (by rw[g8];omega)];simp only[Aa];exact good _<|.inl ⟨hb,a,c,d⟩
    grind
   have hb':(l[i].Back==0)=false:=by simpa using hb
   rw[hb'];simp only[Ac];rw[B4,Rp,EY];by_cases hx:(1<=l[i].Back/\l[i].Back<=(o.length:Int))/\(1<=l[i].Size/\l[i].Size<=31)/\L l[i].Text=[]
   ·obtain⟨⟨y1,y2⟩,⟨y3,y4⟩,y5⟩:=hx;rw[Ad y1,Ad y2,Ad y3,Ad y4,Ad y5];simp only[Ku,Ah,Ac,Aa];obtain⟨o',q1,q2⟩:=AS (body:=λq:List Int×Int=>En l[i] q.1 q.2) (λ(o:List Int) k=>(o,k)) l[i].Size.toNat (λk u=>u.length=o.length+k) (λ_=>True)
     (λu k hk hu=>by
      simp only[En];rw[cT,Cj (by rw[B4];omega) (by rw[B4];omega),B4,KX (by omega) (by omega),Aa,BP (by grind),ad1]
      grind)
     (λu hu=>⟨u,by simp only[En];rw[cF],trivial⟩) (s:=o) (by omega)
    rw[q1];simp only[Aa];exact good _<|.inr ⟨hb,y3,y4,y5⟩
   grind)
  (λo ho=>⟨_,by simp only[Eo,Ec],.inl ⟨o,rfl,λt ht=>by
   obtain⟨j,hj,rfl⟩:=AC ht
   simp_all⟩⟩) (s:=[]) ⟨by simp,λj t hj=>by omega⟩
 grind
theorem Yl (c:UInt8):IntKind.i64.wrap (c.toNat:Int)=(c.toNat:Int):=Pw (by omega) (by have:=c.toNat_lt;omega)
theorem d9 (rem:ByteArray) (a:List Bj) (h:0<(L rem).length) (ho:a.length<=1048576) (hr:(L rem).length<=1048576):
  DP rem a=some (if 128<=(L rem)[0].toNat/\2<=(L rem).length then .inl (rem.extract 2 (L rem).length,a++ [Bj.mk (((L rem)[1]?.getD 0).toNat:Int) (((L rem)[0].toNat:Int)-128) (bs [])])
   else if(L rem)[0].toNat<128/\(L rem)[0].toNat<(L rem).length then .inl (rem.extract (1+(L rem)[0].toNat) (L rem).length,a++ [Bj.mk 0 0 (rem.extract 1 (1+(L rem)[0].toNat))])
   else .inr (.inr ([],false))):=by
 have d:=(L rem)[0].toNat_lt;have b:seq rem (bs [])=false:=by
  rw[Rp,EY,DI]
  grind
 have c:∀x:Bj,ap 32 a [x]=some (a++ [x]):=λx=>BP<|by grind
 unfold DP;rw[b];have s0:sx rem 0=some ((L rem)[0].toNat:Int):=Fl rem (i:=0) h;simp only[AD,Ae,s0,Aa,Yl,B9,c];have c0:ad 1 ((L rem)[0].toNat:Int)=((1+(L rem)[0].toNat:Nat):Int):=by rw[C6];omega
 rw[c0];by_cases h1:128<=(L rem)[0].toNat
 ·rw[Ad (by omega:((L rem)[0].toNat:Int)>=128),Af (by omega:¬((L rem)[0].toNat:Int)<128)];simp only[Ae,Ac,Aa];by_cases h2:2<=(L rem).length
  ·rw[cT,Ay ⟨h1,h2⟩];have s1:sx rem 1=some ((L rem)[1].toNat:Int):=Fl rem (i:=1) (by omega);have s2:sub rem 2 ((L rem).length:Int)=some (rem.extract 2 (L rem).length):=FK rem (i:=2) h2<|Au _;rw[s1,s2,Cj];simp only[Aa,Yl]
   grind
  grind
 rw[Af (by omega:¬((L rem)[0].toNat:Int)>=128),Ad (by omega:((L rem)[0].toNat:Int)<128),Av λe=>h1 e.1];simp only[Ae,Ac,Aa];by_cases h2:(L rem)[0].toNat<(L rem).length
 ·rw[cT,Ay ⟨by omega,h2⟩];have s1:sub rem 1 ((1+(L rem)[0].toNat:Nat):Int)=some (rem.extract 1<|1+(L rem)[0].toNat):=FK rem (i:=1) (by omega) (by omega);have s2:sub rem ((1+(L rem)[0].toNat:Nat):Int) ((L rem).length:Int)=some (rem.extract (1+(L rem)[0].toNat) (L rem).length):=FK rem (by omega) (Au _)
  grind
 grind
theorem YU (rem:ByteArray) (a:List Bj) (h:(L rem).length=0):DP rem a=some (.inr (.inl a)):=by
 have b:seq rem (bs [])=true:=by
  rw[Rp,EY,A5]
  grind
 unfold DP;rw[b];rfl
theorem d8 (t:ByteArray) (b:List Bj) (a:Nat) (h:a<(L t).length) (ho:b.length<=1048576) (hr:(L t).length<=1048576):
  BZ t b (a:Int)=some (if 128<(L t)[a].toNat then(if a+2<=(L t).length then .inl (b++ [Bj.mk (((L t)[a+1]?.getD 0).toNat:Int) (((L t)[a].toNat:Int)-128) (bs [])],((a+2:Nat):Int))else .inr (.inr (b,false)))
   else if a+1+(L t)[a].toNat<=(L t).length then .inl (b++ [Bj.mk 0 0 (t.extract (a+1) (a+1+(L t)[a].toNat))],((a+1+(L t)[a].toNat:Nat):Int))
   else .inr (.inr (b,false))):=by
 have d:=(L t)[a].toNat_lt
 have c:∀x:Bj,ap 32 b [x]=some (b++ [x]):=λx=>BP<|by grind
 have c2:ad (a:Int) 2=((a+2:Nat):Int):=by rw[C6];omega
 have c3:ad ((a+1:Nat):Int) ((L t)[a].toNat:Int)=((a+1+(L t)[a].toNat:Nat):Int):=by rw[C6];omega
 unfold BZ;rw[B9,cT,Fl t h];simp only[Aa,Yl,c];rw[c2,ad1,c3];by_cases h1:128<(L t)[a].toNat
 ·rw[cT,Ay h1];by_cases h2:a+2<=(L t).length
  ·rw[cF,Ay h2,Fl t (by omega:a+1<(L t).length),Cj];simp only[Aa,Yl]
   grind
  grind
 rw[cF,Av h1];by_cases h2:a+1+(L t)[a].toNat<=(L t).length
 ·rw[Af (by omega:¬((a+1+(L t)[a].toNat:Nat):Int)>((L t).length:Int)),Ac,Ay h2,FK t (by omega) h2];rfl
 grind
theorem YT (t:ByteArray) (b:List Bj) (a:Nat) (h:(L t).length<=a):BZ t b (a:Int)=some (.inr (.inl b)):=by
 unfold BZ;rw[B9,cF]
theorem xY (rem:ByteArray) (a:List Bj) (h:a.length+(L rem).length<=1048576):∃r,Ap (λq:ByteArray×List Bj=>DP q.1 q.2) (rem,a)=some r/\((∃l,r= .inl l/\l.length<=1048576/\∀t∈a,t∈l)\/r= .inr ([],false)):=by
 obtain⟨r,h1,_,h2⟩:=SZ (body:=λq:ByteArray×List Bj=>DP q.1 q.2) (body':=λq:ByteArray×List Bj=>DP q.1 q.2) (λq=>(L q.1).length) (λq=>q.2.length+(L q.1).length<=1048576/\∀t∈a,t∈q.2) (λr=>(∃l,r= .inl l/\l.length<=1048576/\∀t∈a,t∈l)\/r= .inr ([],false))
  (by
   rintro⟨rem,o⟩ ⟨hl,ho⟩;simp only at hl ho;simp only
   rcases T9 (L rem).length with h0|h0
   ·rw[YU rem o h0]
    grind
   rw[d9 rem o h0 (by omega)<|by omega];split
   ·rename_i hc;refine .inl ⟨_,rfl,rfl,⟨?_,λt ht=>AI _<|ho t ht⟩,?_⟩
    ·simp only[Ai,A8,IP,AW,Cb];omega
    simp only[IP,AW,Cb];omega
   split
   ·rename_i hc;refine .inl ⟨_,rfl,rfl,⟨?_,λt ht=>AI _<|ho t ht⟩,?_⟩
    ·simp only[Ai,A8,IP,AW,Cb];omega
    simp only[IP,AW,Cb];omega
   simp) _ (rem,a) (Au _) ⟨h,λt ht=>ht⟩
 grind
theorem xV (t:ByteArray) (b:List Bj) (a:Nat) (ha:a<=(L t).length) (h:b.length<=a) (hr:(L t).length<=1048576):∃r,Ap (λq:List Bj×Int=>BZ t q.1 q.2) (b,(a:Int))=some r/\((∃l,r= .inl l/\l.length<=1048576/\∀x∈b,x∈l)\/∃l,r= .inr (l,false)/\l.length<=1048576):=by
 obtain⟨r,h1,_,h2⟩:=SZ (body:=λq:List Bj×Int=>BZ t q.1 q.2) (body':=λq:List Bj×Int=>BZ t q.1 q.2) (λq=>(L t).length-q.2.toNat) (λq=>∃a:Nat,q.2=(a:Int)/\a<=(L t).length/\q.1.length<=a/\∀x∈b,x∈q.1) (λr=>(∃l,r= .inl l/\l.length<=1048576/\∀x∈b,x∈l)\/∃l,r= .inr (l,false)/\l.length<=1048576)
  (by
   rintro⟨o,at_⟩ ⟨a,ha,hl,hb,ho⟩;simp only at ha hb ho;subst ha;simp only
   rcases DX a (L t).length with h0|h0
   ·rw[d8 t o a h0 (by omega) hr];split
    ·split
     ·refine .inl ⟨_,rfl,rfl,⟨a+2,rfl,by omega,by grind,λt ht=>AI _<|ho t ht⟩,by simp only;omega⟩
     grind
    split
    ·refine .inl ⟨_,rfl,rfl,⟨_,rfl,by assumption,by grind,λt ht=>AI _<|ho t ht⟩,by simp only;omega⟩
    grind
   rw[YT t o a h0]
   grind) _ (b,(a:Int)) (Au _) ⟨a,rfl,ha,h,λt ht=>ht⟩
 grind
theorem xU (t:ByteArray) (hr:(L t).length<=1048576):∀(n a:Nat) (rem:ByteArray) (c:List Bj),(L t).length-a<=n->a<=(L t).length->L rem=(L t).drop a->c.length<=a->
  ∃ri rs,Ap (λq:ByteArray×List Bj=>DP q.1 q.2) (rem,c)=some ri/\Ap (λq:List Bj×Int=>BZ t q.1 q.2) (c,(a:Int))=some rs/\
   ((∃l,ri= .inl l/\rs= .inl l/\l.length<=1048576)\/((ri= .inr ([],false)\/∃l,ri= .inl l/\l.length<=1048576/\∃x∈l,¬Rn x)/\((∃l,rs= .inr (l,false)/\l.length<=1048576)\/∃l,rs= .inl l/\l.length<=1048576/\∃x∈l,¬Rn x))):=by
 intro n
 induction n with
 |zero=>
  intro a rem c h1 h2 h3 h4;have ha:a=(L t).length:=by omega
  have f:(L rem).length=0:=by rw[h3,ha];simp
  refine⟨_,_,by rw[A0];simp only[YU rem c f],by rw[A0];simp only[YT t c a<|by omega],.inl ⟨c,rfl,rfl,by omega⟩⟩
 |succ n ih=>
  intro a rem c h1 h2 h3 h4
  rcases DX a (L t).length with h0|h0
  ·have o:(L rem).length=(L t).length-a:=by rw[h3];simp
   have h:0<(L rem).length:=by omega
   have i:(L rem)[0]=(L t)[a]:=by grind
   have j:(L rem)[1]?.getD 0=(L t)[a+1]?.getD 0:=by grind
   have d:=d9 rem c h (by omega) (by omega);have b:=d8 t c a h0 (by omega) hr
   have g:∀k,L (rem.extract k (L rem).length)=(L t).drop (a+k):=λk=>by
    rw[IP,h3,CI,AN]
    grind
   rw[i,j]at d
   rcases O5 (L t)[a].toNat 128 with hc|hc|hc
   ·rw[Av<|by omega]at d;rw[Av<|by omega]at b;by_cases hk:a+1+(L t)[a].toNat<=(L t).length
    ·rw[Ay<|by omega]at d;rw[Ay hk]at b;obtain⟨ri,rs,q1,q2,q3⟩:=ih (a+1+(L t)[a].toNat) (rem.extract (1+(L t)[a].toNat) (L rem).length) (c++ [Bj.mk 0 0<|t.extract (a+1)<|a+1+(L t)[a].toNat]) (by omega) hk (by grind) (by grind);have etx:rem.extract 1 (1+(L t)[a].toNat)=t.extract (a+1) (a+1+(L t)[a].toNat):=by
      apply Lf;rw[IP,IP,h3,CI];simp
     refine⟨ri,rs,?_,?_,q3⟩
     ·rw[A0]
      grind
     rw[A0]
     grind
    rw[Av<|by omega]at d;rw[Av hk]at b;exact⟨_,_,by rw[A0];grind,by rw[A0];grind,.inr ⟨.inl rfl,.inl ⟨c,rfl,by omega⟩⟩⟩
   ·
    have hI:∃ri,Ap (λq:ByteArray×List Bj=>DP q.1 q.2) (rem,c)=some ri/\(ri= .inr ([],false)\/∃l,ri= .inl l/\l.length<=1048576/\∃x∈l,¬Rn x):=by
     by_cases hk:2<=(L rem).length
     ·rw[Ay ⟨by omega,hk⟩]at d;obtain⟨r,q1,q2⟩:=xY (rem.extract 2 (L rem).length) (c++ [Bj.mk (((L t)[a+1]?.getD 0).toNat:Int) (((L t)[a].toNat:Int)-128)<|bs []]) (by grind);refine⟨r,by rw[A0];grind,?_⟩
      rcases q2 with⟨l,rfl,q3,q4⟩|rfl
      ·refine .inr ⟨l,rfl,q3,_,q4 _<|AU _<|AE.2 rfl,?_⟩;intro hk
       rcases hk with⟨_,_,k3,_⟩|⟨_,k2,_⟩
       ·simp only[EY,BV]at k3;omega
       grind
      exact .inl rfl
     rw[Av λe=>hk e.2,Av<|by omega]at d;exact⟨_,by rw[A0];grind,.inl rfl⟩
    have hS:∃rs,Ap (λq:List Bj×Int=>BZ t q.1 q.2) (c,(a:Int))=some rs/\((∃l,rs= .inr (l,false)/\l.length<=1048576)\/∃l,rs= .inl l/\l.length<=1048576/\∃x∈l,¬Rn x):=by
     rw[Av<|by omega]at b;by_cases hk:a+1+(L t)[a].toNat<=(L t).length
     ·rw[Ay hk]at b;obtain⟨r,q1,q2⟩:=xV t (c++ [Bj.mk 0 0<|t.extract (a+1)<|a+1+(L t)[a].toNat]) (a+1+(L t)[a].toNat) hk (by grind) hr;refine⟨r,by rw[A0];grind,?_⟩
      rcases q2 with⟨l,rfl,q3,q4⟩|⟨l,rfl,q3⟩
      ·refine .inr ⟨l,rfl,q3,_,q4 _<|AU _<|AE.2 rfl,?_⟩;intro m
       rcases m with⟨_,_,_,k4⟩|⟨k1,_⟩
       ·simp only[IP,AW,Cb]at k4;omega
       exact k1 rfl
      grind
     rw[Av hk]at b;exact⟨_,by rw[A0];grind,.inl ⟨c,rfl,by omega⟩⟩
    obtain⟨ri,q1,q2⟩:=hI;obtain⟨rs,q3,q4⟩:=hS;exact⟨ri,rs,q1,q3,.inr ⟨q2,q4⟩⟩
   rw[Ay hc]at b;by_cases hk:a+2<=(L t).length
   ·rw[Ay ⟨by omega,by omega⟩]at d;rw[Ay hk]at b;obtain⟨ri,rs,q1,q2,q3⟩:=ih (a+2) (rem.extract 2 (L rem).length) (c++ [Bj.mk (((L t)[a+1]?.getD 0).toNat:Int) (((L t)[a].toNat:Int)-128)<|bs []]) (by omega) hk (g 2) (by grind);exact⟨ri,rs,by rw[A0];grind,by rw[A0];grind,q3⟩
   rw[Av (by omega),Av<|by omega]at d;rw[Av hk]at b;exact⟨_,_,by rw[A0];grind,by rw[A0];grind,.inr ⟨.inl rfl,.inl ⟨c,rfl,by omega⟩⟩⟩
  have ha:a=(L t).length:=by omega
  have f:(L rem).length=0:=by rw[h3,ha];simp
  refine⟨_,_,by rw[A0];simp only[YU rem c f],by rw[A0];simp only[YT t c a<|by omega],.inl ⟨c,rfl,rfl,by omega⟩⟩
theorem zI (t:ByteArray) (hr:(L t).length<=1048576):∃li oi ls os pi ki ps ks,Qy t=some (li,oi)/\Ke t=some (ls,os)/\PL li=some (pi,ki)/\Gb ls=some (ps,ks)/\((oi=os/\pi=ps/\ki=ks)\/((oi=false\/ki=false)/\(os=false\/ks=false))):=by
 obtain⟨ri,rs,q1,q2,q3⟩:=xU t hr ((L t).length) 0 t [] (by omega) (by omega) (by simp) (by simp);have e0:(([]:List Bj),((0:Nat):Int))=([],0):=rfl;simp only[e0]at q2;unfold Qy Ke;rw[q1,q2,kS];have none:∀l:List Bj,l.length<=1048576->(∃x∈l,¬Rn x)->∃p,Gb l=some (p,false):=by
  rintro l hl ⟨x,hx,hn⟩;obtain⟨p,ok,h1,h2⟩:=Ri l hl
  cases ok with
  |false=>exact⟨p,h1⟩
  |true=>grind
 rcases q3 with⟨l,rfl,rfl,hl⟩|⟨hi,hs⟩
 ·obtain⟨p,ok,h1,_⟩:=Ri l hl;exact⟨l,true,l,true,p,ok,p,ok,rfl,rfl,h1,h1,.inl ⟨rfl,rfl,rfl⟩⟩
 have hI:∃li oi pi ki,(some ri).bind (Sum.elim (λv1=>some (v1,true)) some)=some (li,oi)/\Gb li=some (pi,ki)/\(oi=false\/ki=false):=by
  rcases hi with rfl|⟨l,rfl,hl,hb⟩
  ·obtain⟨p,ok,h1,_⟩:=Ri [] (by simp)
   grind
  obtain⟨p,h1⟩:=none l hl hb;simp_all
 have hS:∃li oi pi ki,(some rs).bind (Sum.elim (λv1=>some (v1,true)) some)=some (li,oi)/\Gb li=some (pi,ki)/\(oi=false\/ki=false):=by
  rcases hs with⟨l,rfl,hl⟩|⟨l,rfl,hl,hb⟩
  ·obtain⟨p,ok,h1,_⟩:=Ri l hl
   grind
  grind
 obtain⟨li,oi,pi,ki,a1,a2,a3⟩:=hI;obtain⟨ls,os,ps,ks,b1,b2,b3⟩:=hS;exact⟨li,oi,ls,os,pi,ki,ps,ks,a1,b1,a2,b2,.inr ⟨a3,b3⟩⟩
theorem TT (t:ByteArray) (hr:(L t).length<=1048576):∃u ok,Gr t=some (u,ok)/\Ny t=some (u,ok)/\(ok=false->u=bs [])/\(ok=true->(L u).length<=64):=by
 unfold Gr Ny;rw[B9,Rp,EY];by_cases h0:L t=[]
 ·simp_all
 have a:0<(L t).length:=by grind
 have e1:(((L t).length:Int)==0)=false:=by simp;exact h0
 rw[e1,Af h0,Ac,Ac];have s1:sub t 1 ((L t).length:Int)=some (t.extract 1 (L t).length):=FK t (i:=1) (by omega)<|Au _;have s0:sx t 0=some ((L t)[0].toNat:Int):=Fl t (i:=0) a;rw[s1,s0];simp only[Aa];generalize hx:t.extract 1 (L t).length=x;have b:(L x).length<=1048576:=by rw[<-hx,IP];simp;omega
 obtain⟨li,oi,ls,os,pi,ki,ps,ks,a1,a2,a3,a4,a5⟩:=zI x b;rw[a1,a2];simp only[Aa];rw[a3,a4];simp only[Aa];have back:∀j:ByteArray,∃u ok,((Fd j).bind λv3=>(cond (!v3.2) (some true) (some<|!(seq v3.1 t)):Option Bool).bind λj2=>cond j2 (some (bs [],false)) (some (j,true)):Option (ByteArray×Bool))=some (u,ok)/\
   ((LL j).bind λv3=>(cond (!v3.2) (some true) (some<|!(seq v3.1 t)):Option Bool).bind λj2=>cond j2 (some (bs [],false)) (some (j,true)):Option (ByteArray×Bool))=some (u,ok)/\(ok=false->u=bs [])/\(ok=true->(L u).length<=64/\((L t)[0].toNat=122\/(L t)[0].toNat=114)):=by
  intro j;obtain⟨z,ok,p1,p2,p3,p4⟩:=XU j;rw[p1,p2];simp only[Aa]
  cases ok with
  |false=>simp
  |true=>
   simp only[Ah,Ac,Aa]
   cases hz:seq z t with
   |false=>simp
   |true=>
    have c:z=t:=by rw[Lu,A5]at hz;exact hz
    obtain⟨p5,p6⟩:=p4 rfl;refine⟨_,true,rfl,rfl,by simp,λ_=>⟨p5,?_⟩⟩;rw[c,Ab a]at p6
    rcases p6 with p6|p6
    ·simp_all
    simp_all
 by_cases h122:(L t)[0].toNat=122
 ·have c1:((((L t)[0].toNat:Nat):Int)==122)=true:=by simp[h122]
  have c2:((((L t)[0].toNat:Nat):Int) !=114)=true:=by simp[h122]
  rw[c1,c2];simp only[Ae]
  rcases a5 with⟨rfl,rfl,rfl⟩|⟨hi,hs⟩
  ·cases oi with
   |false=>simp
   |true=>
    cases ki with
    |false=>simp
    |true=>simp_all
  grind
 have c1:((((L t)[0].toNat:Nat):Int)==122)=false:=by simp;omega
 rw[c1];simp only[Ac,Aa,Bz];by_cases h114:(L t)[0].toNat=114
 ·simp_all
 have c2:((((L t)[0].toNat:Nat):Int) !=114)=true:=by simp;omega
 rw[c2];simp only[Ae];have nope:∀(j u:ByteArray) (ok:Bool),(ok=true->(L u).length<=64/\((L t)[0].toNat=122\/(L t)[0].toNat=114))->ok=false:=by grind
 obtain⟨u,ok,b1,b2,b3,b4⟩:=back x;have k1:=nope x u ok b4;subst k1;have k2:=b3 rfl;subst k2;refine⟨bs [],false,b1,?_,by simp,by simp⟩
 cases oi with
 |false=>rfl
 |true=>
  cases ki with
  |false=>rfl
  |true=>
   simp only[Ah,Ac,Aa,Bz];obtain⟨u,ok,d1,d2,d3,d4⟩:=back pi
   grind
end Go.TI
