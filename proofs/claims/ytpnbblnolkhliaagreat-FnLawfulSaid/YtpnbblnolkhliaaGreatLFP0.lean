/- What is done in a life without torn steps is lawful. No condition; no program is in sight. -/
import Derived.Test.YtpnbblnolkhliaaGreatLFD
set_option linter.unusedVariables false
set_option linter.unusedSimpArgs false
namespace Go.TI
open Go
def u32 (s:Int):Prop:=0<=s/\s<4294967296
theorem vI (s:Int) (hs:u32 s):∃v,Al (λs:Int×Int=>Ja s.1 s.2) (s,0)=some v/\Al (λs:Int×Int=>Jl s.1 s.2) (s,0)=some v/\u32 v:=
 HF (body:=λs:Int×Int=>Ja s.1 s.2) (body':=λs:Int×Int=>Jl s.1 s.2) (λ(s:Int) i=>(s,i)) 8 (λ_ s=>u32 s) u32
  (λs i hi hs=>by
   simp only[Ja,Jl];rw[Ac (by omega:(i:Int)<8),Ai,Ai,an1 hs.1 hs.2,<-AFA hs.1 hs.2];refine⟨rfl,.inl ?_⟩;have hw:u32 (IntKind.u32.wrap<|Int.tdiv s 2):=by rw[IntKind.wrap_u32];constructor<;>omega
   cases Int.tmod s 2==1
   ·exact⟨_,by rw[Ad,ad1],hw⟩
   exact⟨_,by rw[Ai,ad1],AEa _ _⟩)
  (λs hs=>by
   simp only[Ja,Jl]
   grind) (s:=s) hs
theorem vH (s:Int) (t:ByteArray) (hs:u32 s) (ht:(L t).length<=9223372036854775806):∃v,TB s t=some v/\TQ s t=some v/\u32 v:=by
 obtain⟨v,h1,h2,h3⟩:=HF (body:=λs:Int×Int=>KH t s.1 s.2) (body':=λs:Int×Int=>Ld t s.1 s.2) (λ(s:Int) i=>(s,i)) (L t).length (λ_ s=>u32 s) u32
  (λs i hi hs=>by
   obtain⟨v,h1,h2,h3⟩:=vI (xr s<|IntKind.u32.wrap ((L t)[i]).toNat)<|AEa _ _;simp only[KH,Ld];rw[Ac (by rw[B5];omega:(i:Int)<FL t),Ai,Ai,Fd t hi,Aa,Aa,h1,h2]
   exact⟨rfl,.inl ⟨v,by rw[Aa,ad1],h3⟩⟩)
  (λs hs=>by
   simp only[KH,Ld];rw[Af (by rw[B5];omega:¬((L t).length:Int)<FL t),Ad,Ad]
   grind) (s:=s) hs
 unfold TB TQ
 grind
theorem r8 (t:ByteArray) (ht:(L t).length<=9223372036854775806):∃v,Pe t=some v/\Zv t=some v/\u32 v:=by
 obtain⟨v,h1,h2,h3⟩:=vH 4294967295 t ⟨by omega,by omega⟩ ht;unfold Pe Zv
 grind
def four (v:Int):ByteArray:=Ff [IntKind.u8.wrap<|Int.fdiv v<|2^(min (24:Int).toNat IntKind.u32.bits),IntKind.u8.wrap<|Int.fdiv v<|2^(min (16:Int).toNat IntKind.u32.bits),IntKind.u8.wrap<|Int.fdiv v<|2^(min (8:Int).toNat IntKind.u32.bits),IntKind.u8.wrap v]
theorem WJ (v:Int):(L (four v)).length=4:=by rfl
theorem jW (t:ByteArray):IJ t=KJ t:=by
 unfold IJ KJ;by_cases h:(FL t)>20000
 ·grind
 rw[B5]at h;obtain⟨v,h1,h2,_⟩:=r8 t (by omega);rw[h1,h2];rfl
theorem Un (t:ByteArray):(20000<(L t).length->KJ t=some (bs [],false))/\((L t).length<=20000->∃v,Pe t=some v/\KJ t=some (t++four v,true)):=by
 unfold KJ;rw[B5];refine⟨λh=>by rw[cT],λh=>?_⟩;obtain⟨v,h1,h2,_⟩:=r8 t (by omega);rw[cF,h1];refine⟨v,rfl,?_⟩;have:LJ v=some (four v):=rfl;rw[Aa,this,Aa,FQ _ _ (by rw[WJ];omega),Aa]
theorem rZ (t:ByteArray) (ht:(L t).length<=9223372036854775806):∃u ok,LL t=some (u,ok)/\Rq t=some (u,ok)/\(ok=true->(L u).length<=20000/\∃v,Pe u=some v/\t=u++four v)/\(ok=false->u=bs []):=by
 unfold LL Rq;have e4:sb (FL t) 4=((L t).length:Int)-4:=by rw[B5,Co]
 rw[e4];by_cases h4:(L t).length<4
 ·rw[Ac (by omega:((L t).length:Int)-4<0),Ac (by rw[B5];omega:FL t<4)]
  grind
 rw[Af (by omega:¬((L t).length:Int)-4<0),Af (by rw[B5];omega:¬FL t<4)];have en:((L t).length:Int)-4=(((L t).length-4:Nat):Int):=by omega
 rw[en,B5];have b:sub t 0 (((L t).length-4:Nat):Int)=some (t.extract 0<|(L t).length-4):=Fe t (i:=0) (by omega) (by omega);have a:sub t (((L t).length-4:Nat):Int) ((L t).length:Int)=some (t.extract ((L t).length-4) (L t).length):=Fe t (by omega) (by omega);rw[b,a];simp only[Aa];have hu:(L<|t.extract 0<|(L t).length-4).length=(L t).length-4:=by rw[If];simp
 obtain⟨k1,k2⟩:=Un<|t.extract 0<|(L t).length-4;rw[jW];by_cases hb:20000<(L t).length-4
 ·grind
 obtain⟨v,h1,h2⟩:=k2 (by omega);rw[Af (by omega:¬(((L t).length-4:Nat):Int)>20000),h1,h2];have h3:LJ v=some (four v):=rfl;simp only[Ad,Aa,h3,An];have c:seq (t.extract ((L t).length-4) (L t).length) (four v)=seq (t.extract 0 ((L t).length-4)++four v) t:=by
  rw[RV,RV,DO,If,If,G7,A5,A5];have e1:List.take ((L t).length-((L t).length-4)) (List.drop ((L t).length-4)<|L t)=(L t).drop ((L t).length-4):=AK (by simp);have e2:List.take ((L t).length-4-0) (List.drop 0<|L t)=(L t).take ((L t).length-4):=by simp
  rw[e1,e2];constructor
  ·intro h;rw[<-h,BF]
  grind
 rw[c]
 cases hs:seq (t.extract 0 ((L t).length-4)++four v) t with
 |false=>grind
 |true=>
  rw[JZ,A5]at hs
  grind
theorem Jf (n:Nat) (h:n<=1099511627776):∃s,HA (n:Int)=some s/\L s=Cx n:=by
 unfold HA;obtain⟨m,o,h1,h2,h3,h4⟩:=jI (body:=λs:Int×List Int=>Pc s.1 s.2) (λ_ _=>rfl) n [] (by simpa using h);rw[h1,Aa];have:IntKind.u8.wrap (m:Int)=m:=by rw[IntKind.wrap_u8];omega
 rw[this,Bi (by grind),Aa];refine⟨_,rfl,?_⟩;rw[Mm,h4];simp
def AEg (t:ByteArray) (at_:Int) (r:Int×Int×Bool):Prop:=(r.2.2=false/\r.1=0/\r.2.1=0)\/(r.2.2=true/\∃(a b n:Nat),at_=a/\r.2.1=b/\r.1=n/\a<b/\b<=(L t).length/\n<=1000000000/\Cx n=((L t).drop a).take (b-a))
theorem ZM (l:List UInt8) (a k:Nat) (h:a+k<l.length):(l.drop a).take (k+1)=(l.drop a).take k++ [l[a+k]]:=by
 rw[Aj (by simp;omega),VB]
theorem lQ (k:Nat) (h:k<5):(128:Nat)^k<=268435456:=by
 have:k<=4:=by omega
 calc 128^k<=128^4:=Nat.pow_le_pow_right (by omega) this
  _=268435456:=by decide
theorem Zg:∀ds:List UInt8,Fu ds<128^ds.length
 |[]=>by simp[Fu]
 |d::ds=>by
  have:=Zg ds;simp only[Fu,AA,vO];omega
theorem AC3 (x k:Nat) (hx:x<128) (hk:k<5):shl .i64 (x:Int) (ml 7 (k:Int))=some ((x*128^k:Nat):Int):=by
 have h7:ml 7 (k:Int)=((7*k:Nat):Int):=by rw[Qf (by omega)<|by omega];omega
 unfold shl;rw[h7,AO<|by omega];have e:(2:Int)^(min ((7*k:Nat):Int).toNat IntKind.i64.bits)=((128^k:Nat):Int):=by
  have hb:IntKind.i64.bits=64:=rfl;have h128:(128:Nat)^k=2^(7*k):=by rw[Nat.pow_mul]
  grind
 rw[e];have hp:=lQ k hk;have hm:x*128^k<=128*268435456:=f0 (by omega) hp;have ec:(x:Int)*((128^k:Nat):Int)=((x*128^k:Nat):Int):=by norm_cast
 rw[ec,OM (by omega)<|by omega]
theorem kH (x:Nat):Int.tmod (x:Int) 128=((x %128:Nat):Int):=rfl
theorem IS (t:ByteArray) (at_:Int) (ht:(L t).length<=4611686018427387904) (o:oI at_):∃r,Kr t at_=some r/\K0 t at_=some r/\AEg t at_ r:=by
 have fails:∀(at_:Int),(at_<0\/((L t).length:Int)<=at_)->oI at_->K0 t at_=some (0,0,false):=by
  intro at_ h o;unfold K0;rw[Ax];simp only[H6];rw[cT];by_cases h0:at_>=0
  ·rw[Ac h0,Ai,B5,Co,Af<|by omega];rfl
  grind
 by_cases h4:0<=at_/\at_<(L t).length
 ·obtain⟨a,rfl⟩:=Cf h4.1;have h5:∀(B1:Int×Int×Int->Option ((Int×Int×Int)⊕Unit⊕(Int×Int×Bool))) (B2:Int×Int->Option ((Int×Int)⊕Unit⊕(Int×Int×Bool))),(∀n sc i,B1 (n,sc,i)=DE t (a:Int) n sc i)->(∀n k,B2 (n,k)=H6 t (a:Int) n k)->∀(m k:Nat),k+m=5->a+k<=(L t).length->(∀d∈((L t).drop a).take k,128<=d.toNat)->
    ∃r,(Al B1 (((Fu (((L t).drop a).take k):Nat):Int),((128^k:Nat):Int),((a+k:Nat):Int))=some r/\Al B2 (((Fu (((L t).drop a).take k):Nat):Int),(k:Int))=some r)/\(r= .inl ()\/∃q,r= .inr q/\AEg t (a:Int) q):=by
   intro B1 B2 p u m
   induction m with
   |zero=>
    intro k hk h6 hd;have f:k=5:=by omega
    subst f;refine⟨.inl (),⟨?_,?_⟩,.inl rfl⟩
    ·rw[Ax];simp only[p,DE];rw[Cy,Af (by omega:¬((a+5:Nat):Int)<(a:Int)+5)]
     grind
    rw[Ax];simp only[u,H6];rfl
   |succ m ih=>
    intro k hk h6 hd;rw[Ax,Ax B2];simp only[p,u,DE,H6];have f:k<5:=by omega
    rw[Cy (b:=5) (by omega) (by omega),Ac (by omega:((a+k:Nat):Int)<(a:Int)+5),Ac (by omega:(k:Int)<5),Ac (by omega:(a:Int)>=0),B5,Co];by_cases v:a+k<(L t).length
    ·rw[Ac (by omega:((a+k:Nat):Int)<((L t).length:Int)),Ac (by omega:(a:Int)<((L t).length:Int)-k)];have eak:ad (a:Int) (k:Int)=((a+k:Nat):Int):=by rw[Cy];omega
     simp only[Ai,Aa,Fd t v,eak];have hx:=oH<|(L t)[a+k];have j:=ZM (L t) a k v;have w:(((L t).drop a).take k).length=k:=by simp;omega
     have g:=OU (((L t).drop a).take k) [(L t)[a+k]];rw[<-j,w]at g;have h7:=Zg<|((L t).drop a).take k;rw[w]at h7;have hp:=lQ k f;generalize a4:(L t)[a+k]=x at hx j g;simp only[Fu,Nat.mul_zero,OQ]at g;have hw:IntKind.i64.wrap (x.toNat:Int)=x.toNat:=OM (by omega) (by omega);have a2:x.toNat %128*128^k<=127*268435456:=f0 (by omega) hp;have emul:ml ((x.toNat %128:Nat):Int) ((128^k:Nat):Int)=((x.toNat %128*128^k:Nat):Int):=by
      have ec:((x.toNat %128:Nat):Int)*((128^k:Nat):Int)=((x.toNat %128*128^k:Nat):Int):=by norm_cast
      rw[Qf (by rw[ec];omega) (by rw[ec];omega),ec]
     have enew:ad (((Fu (((L t).drop a).take k):Nat)):Int) ((x.toNat %128*128^k:Nat):Int)=((Fu (((L t).drop a).take<|k+1):Nat):Int):=by
      rw[Cy,g,Nat.mul_comm<|128^k];omega
     rw[hw,kH,AC3 _ k (by omega) f];simp only[Aa,emul,enew];by_cases l:x.toNat<128
     ·rw[Ac (by omega:(x.toNat:Int)<128),Af (by omega:¬(x.toNat:Int)>=128)];have ek1:ad ((a+k:Nat):Int) 1=((a+k+1:Nat):Int):=ad1 (by omega);have c:=jH (((L t).drop a).take k) x hd l;rw[<-j]at c;have h8:(((L t).drop a).take k≠ [])↔0<k:=by grind
      rw[h8]at c;have y:sub t (a:Int) ((a+k+1:Nat):Int)=some (t.extract a<|a+k+1):=Fe t (by omega) (by omega);rw[ek1,y];by_cases a3:Fu (((L t).drop a).take<|k+1)>1000000000
      ·rw[Ac (by omega:((Fu (((L t).drop a).take<|k+1):Nat):Int)>1000000000)];refine⟨.inr (0,0,false),⟨rfl,?_⟩,.inr ⟨_,rfl,.inl ⟨rfl,rfl,rfl⟩⟩⟩
       grind
      rw[Af (by omega:¬((Fu (((L t).drop a).take<|k+1):Nat):Int)>1000000000)];obtain⟨s,h9,a0⟩:=Jf (Fu<|((L t).drop a).take<|k+1) (by omega);simp only[Ad,Aa,h9];have z:seq s (t.extract a<|a+k+1)=decide (¬(x.toNat=0/\0<k)):=by
       rw[RV,a0,If,show a+k+1-a=k+1 by omega,G7,A5,A5];exact c
      rw[z];by_cases hz:x.toNat=0/\0<k
      ·rw[Af λe=>e hz];refine⟨.inr (0,0,false),⟨rfl,?_⟩,.inr ⟨_,rfl,.inl ⟨rfl,rfl,rfl⟩⟩⟩
       grind
      rw[Ac hz];refine⟨.inr (((Fu (((L t).drop a).take<|k+1):Nat):Int),((a+k+1:Nat):Int),true),⟨rfl,?_⟩,.inr ⟨_,rfl,.inr ⟨rfl,a,a+k+1,_,rfl,rfl,rfl,by omega,by omega,by omega,?_⟩⟩⟩
      ·by_cases a1:x.toNat=0
       ·have:((x.toNat:Int)==0)=true:=by rw[a1];rfl
        rw[this,Af (by omega:¬(k:Int)>0)];rfl
       grind
      rw[show a+k+1-a=k+1 by omega];exact c.2 hz
     rw[Af (by omega:¬(x.toNat:Int)<128),Ac (by omega:(x.toNat:Int)>=128)];have e1:ml ((128^k:Nat):Int) 128=((128^(k+1):Nat):Int):=by
      rw[Qf (by omega) (by omega),vO];norm_cast
     have e2:ad ((a+k:Nat):Int) 1=((a+(k+1):Nat):Int):=ad1 (by omega);have e3:ad (k:Int) 1=((k+1:Nat):Int):=ad1 (by omega);rw[e1,e2,e3];exact ih (k+1) (by omega) (by omega)<|by grind
    rw[Af (by omega:¬((a+k:Nat):Int)<((L t).length:Int)),Af (by omega:¬(a:Int)<((L t).length:Int)-k)];simp
  obtain⟨r,⟨h1,h2⟩,h3⟩:=h5 (λs=>DE t (a:Int) s.1 s.2.1 s.2.2) (λs=>H6 t (a:Int) s.1 s.2) (λ_ _ _=>rfl) (λ_ _=>rfl) 5 0 rfl (by omega) (by simp);unfold Kr K0;have hw:BA (a:Int) 0 (FL t)=some true:=by
   unfold BA;rw[cT,B5,Ac<|by omega]
  rw[hw];simp only[Lw,Fu,Nat.pow_zero,OQ]at h1 h2;rw[show((0:Nat):Int)=0 from rfl,show((1:Nat):Int)=1 from rfl]at h1;rw[show((0:Nat):Int)=0 from rfl]at h2;rw[h1,h2]
  rcases h3 with rfl|⟨q,rfl,h3⟩
  ·exact⟨_,rfl,rfl,.inl ⟨rfl,rfl,rfl⟩⟩
  grind
 have hf:=fails at_ (by omega) o;refine⟨(0,0,false),?_,hf,.inl ⟨rfl,rfl,rfl⟩⟩;unfold Kr;by_cases h0:0<=at_/\at_<=(L t).length
 ·have hw:BA at_ 0 (FL t)=some true:=by
   unfold BA;rw[cT,B5,Ac<|by omega]
  rw[hw];rw[Ax];simp only[DE];rw[Af (by rw[B5];omega:¬at_<FL t)];rfl
 have hw:BA at_ 0 (FL t)=some false:=by
  unfold BA;by_cases h1:at_>=0
  ·rw[Ac h1,Ai,B5,Af<|by omega]
  grind
 rw[hw];rfl
theorem cU:GE=BA:=rfl
variable {r n x:Int} {R:List Int} {i j k:Nat} {s:Store} {α γ:Type} {v:Vol} {p:Nat->Bool} {l:List α}
theorem Cv {i:Int} {x:α} (h:gi l i=some x):0<=i/\l[i.toNat]?=some x:=by
 unfold gi at h
 grind
theorem RA:NX=Ga:=by
 have h2:NH=E8:=by
  funext x y;unfold NH E8
  cases decide (y<ln x.Leaves)with
  |false=>rfl
  |true=>
   cases gi x.Leaves y with
   |none=>rfl
   |some z=>rfl
 funext f;unfold NX Ga;have:NI f=E9 f:=by
  funext i;unfold NI E9;rw[h2];rfl
 rw[this];rfl
def Kh (f:Flash):Prop:=f.Blocks.length<=1048576/\∀b∈f.Blocks,b.Leaves.length<=1048576
theorem Qk (x a b:Int):BA x a b=some (decide (a<=x)&&decide (x<=b)):=by
 unfold BA
 grind
theorem ADw (x:Leaf):∃v,NQ x=some v:=by
 unfold NQ;cases x.Is==0
 ·cases x.Is==1
  ·cases x.Is==2<;>exact⟨_,rfl⟩
  simp only[Ai,Qk,Aa];exact⟨_,rfl⟩
 exact⟨_,rfl⟩
theorem V5 (f:Flash) (h:Kh f):∃v,Ga f=some v/\(v=true->f.Blocks.length<=10/\∀b∈f.Blocks,b.Leaves.length=4):=by
 have a:=AJ (body:=λs:Int=>E9 f s) (λ(_:Unit) i=>i) f.Blocks.length (λi _=>∀j b,j<i->f.Blocks[j]?=some b->b.Leaves.length=4) (λr=>r= .inr false\/r= .inl ()/\∀b∈f.Blocks,b.Leaves.length=4)
  (λs i hi hs=>by
   obtain⟨x,hx⟩:∃x,f.Blocks[i]?=some x:=⟨_,Ab hi⟩;have hM:=h.1;simp only[E9,DK hi,Au,hx,Aa,Qk];by_cases h4:x.Leaves.length=4
   ·have e1:(ln x.Leaves !=4)=false:=by simp[ln,h4]
    simp only[e1,Ad,Aa]
    cases hw:(decide (0<=x.Wear)&&decide (x.Wear<=1000000000))with
    |false=>grind
    |true=>
     simp only[An,Ad];obtain⟨r,h5,h6⟩:=AJ (body:=λs:Int=>E8 x s) (λ(_:Unit) i=>i) x.Leaves.length (λ_ _=>True) (λr=>r= .inl ()\/r= .inr (.inr<|.inr false))
      (λs k hk _=>by
       obtain⟨y,hy⟩:∃y,x.Leaves[k]?=some y:=⟨_,Ab hk⟩;obtain⟨v,hv⟩:=ADw y;simp only[E8,DK hk,Au,hy,Aa,hv];have fin:∀j:Bool,(∃s':Unit,(bif j then some (.inr<|.inr<|.inr<|.inr false)else some (.inl<|ad (k:Int) 1):Option (Int⊕Unit⊕Int⊕Unit⊕Bool))=some (.inl (((k+1:Nat)):Int))/\True)\/∃b,(bif j then some (.inr<|.inr<|.inr<|.inr false)else some (.inl<|ad (k:Int) 1):Option (Int⊕Unit⊕Int⊕Unit⊕Bool))=some (.inr b)/\(b= .inl ()\/b= .inr (.inr<|.inr false)):=by
        intro j
        cases j with
        |true=>grind
        |false=>exact .inl ⟨(),by rw[Ad,ad1],trivial⟩
       cases v with
       |false=>exact fin true
       |true=>
        by_cases c:0<k
        ·rw[cT,Co,Ln (by omega) (by omega),Aa];cases(x.Leaves[((k:Int)-1).toNat]'(by omega)).Is==0
         ·exact fin false
         exact fin<|y.Is !=0
        rw[Af (by omega:¬(k:Int)>0)]
        exact fin false)
      (λs _=>⟨_,by simp only[E8,D1],.inl rfl⟩) (s:=()) trivial
     rw[h5,Aa]
     rcases h6 with rfl|rfl
     ·refine .inl ⟨(),by rw[Cp,ad1],?_⟩
      grind
     grind
   have e1:(ln x.Leaves !=4)=true:=by simp[ln];omega
   grind)
  (λs hs=>⟨_,by simp only[E9,D1],.inr ⟨rfl,λb hb=>by
   obtain⟨j,hj,e⟩:=A4 hb
   exact hs j b hj<|by grind⟩⟩) (s:=()) (λj b hj=>absurd hj<|by omega)
 obtain⟨r,h1,h2⟩:=a;unfold Ga;rw[h1,Aa]
 rcases h2 with rfl|⟨rfl,h2⟩
 ·simp
 simp only[Cp,Qk,Aa];refine⟨_,rfl,λe=>⟨?_,h2⟩⟩;rw[Ag,A5,A5,Bh]at e;omega
theorem Uo (p:Page):∃v,KO p=some v/\Tb p=some v/\(v=true->(p.Kind=1\/p.Kind=2)/\(1<=p.Seq/\p.Seq<=1000000000)/\(1<=p.Tx/\p.Tx<=1000000000)/\(1<=p.Count/\p.Count<=9)/\(0<=p.Part/\p.Part<p.Count)/\FL p.Text<=90):=by
 unfold KO Tb;rw[cU];simp only[Qk,Aa];by_cases h1:1<=p.Seq/\p.Seq<=1000000000
 ·by_cases h2:1<=p.Tx/\p.Tx<=1000000000
  ·by_cases h3:1<=p.Count/\p.Count<=9
   ·have e:sb p.Count 1=p.Count-1:=Co (by omega) (by omega);rw[e];by_cases h4:0<=p.Part/\p.Part<=p.Count-1
    ·by_cases h5:FL p.Text>90
     ·refine⟨false,?_,?_,by simp⟩
      ·grind
      grind
     by_cases k2:p.Kind=2
     ·exact⟨true,by grind,by grind,λ_=>⟨.inr k2,h1,h2,h3,⟨h4.1,by omega⟩,by omega⟩⟩
     by_cases k1:p.Kind=1
     ·exact⟨p.Count==1,by grind,by grind,λ_=>⟨.inl k1,h1,h2,h3,⟨h4.1,by omega⟩,by omega⟩⟩
     have hk:(decide (1<=p.Kind)&&decide (p.Kind<=2))=false:=by grind
     exact⟨false,by simp[hk],by grind,by simp⟩
    refine⟨false,?_,?_,by simp⟩
    ·grind
    grind
   have e3:(decide (1<=p.Count)&&decide (p.Count<=9))=false:=by grind
   refine⟨false,?_,?_,by simp⟩
   ·grind
   simp[h1,h2,e3]
  have e2:(decide (1<=p.Tx)&&decide (p.Tx<=1000000000))=false:=by grind
  refine⟨false,?_,?_,by simp⟩
  ·grind
  simp[h1,e2]
 have e1:(decide (1<=p.Seq)&&decide (p.Seq<=1000000000))=false:=by grind
 refine⟨false,?_,?_,by simp⟩
 ·grind
 simp[e1]
def iM:Page:=Page.mk 0 0 0 0 0<|bs []
theorem IA (u:ByteArray) (a:Int) (hu:(L u).length<=20000) (ha:oI a):Df (Eu.mk u a true)=some (0,Eu.mk u a true):=by
 obtain⟨r,h1,_,_⟩:=IS u a (by omega) ha;unfold Df
 grind
theorem Ky {r:Int×Int×Bool} (u:ByteArray) (a:Int) (hu:(L u).length<=20000) (h:Kr u a=some r):Df (Eu.mk u a false)=some (cond r.2.2 (r.1,Eu.mk u r.2.1 false) (0,Eu.mk u a true)):=by
 unfold Df
 grind
theorem RG {a b:Nat} (l:List UInt8) (h:a<=b):l.drop a=(l.drop a).take (b-a)++l.drop b:=by
 have:=(BF (b-a)<|l.drop a).symm;rw[C9,show a+(b-a)=b by omega]at this;exact this
theorem YM (p:Page) (u:ByteArray) (k:UInt8) (n1 n2 n3 n4:Nat) (hp:KO p=some true) (hk:p.Kind=(k.toNat:Int)) (h1:p.Seq=n1) (h2:p.Tx=n2) (h3:p.Part=n3) (h4:p.Count=n4) (b1:n1<=1000000000) (b2:n2<=1000000000) (b3:n3<=1000000000) (b4:n4<=1000000000) (hu:(L u).length<=20000) (e:L u=[k]++Cx n1++Cx n2++Cx n3++Cx n4++L p.Text):Es p=KJ u:=by
 obtain⟨s1,q1,r1⟩:=Jf n1 (by omega);obtain⟨s2,q2,r2⟩:=Jf n2 (by omega);obtain⟨s3,q3,r3⟩:=Jf n3 (by omega);obtain⟨s4,q4,r4⟩:=Jf n4 (by omega);have hl:=BM List.length e;have hb:Ko p.Kind=some (Ff [IntKind.u8.wrap p.Kind]):=rfl;have a:L (Ff [IntKind.u8.wrap p.Kind])=[k]:=by
  rw[Mm,hk,IntKind.wrap_u8];have:=oH k;have e2:((k.toNat:Int) %256).toNat=k.toNat:=by omega
  simp only[CL,vQ,e2,UInt8.ofNat_toNat]
 unfold Es;rw[hp];simp only[Aa,An,Ad,hb,h1,h2,h3,h4,q1,q2,q3,q4];rw[FQ _ _ (by grind),Aa,FQ _ _ (by rw[DO,a,r1,r2];grind),Aa,FQ _ _ (by rw[DO,DO,a,r1,r2,r3];grind),Aa,FQ _ _ (by rw[DO,DO,DO,a,r1,r2,r3,r4];grind),Aa,FQ _ _ (by rw[DO,DO,DO,DO,a,r1,r2,r3,r4];grind),Aa];have:Ff [IntKind.u8.wrap p.Kind]++s1++s2++s3++s4++p.Text=u:=by
  apply JM;rw[DO,DO,DO,DO,DO,a,r1,r2,r3,r4,e]
 rw[this]
 cases KJ u with
 |none=>rfl
 |some v=>rfl
theorem IT (t:ByteArray) (ht:(L t).length<=9223372036854775806):∃p ok,F9 t=some (p,ok)/\Rw t=some (p,ok)/\(ok=false->p=iM)/\(ok=true->KO p=some true):=by
 obtain⟨u,uok,j,k,m,n⟩:=rZ t ht;unfold F9 Rw;rw[j,k];simp only[Aa];have o1:oI 1:=⟨by omega,by omega⟩
 cases uok with
 |false=>
  have:=n rfl;subst this;have hz:(L<|bs []).length<=20000:=by rw[El];simp
  exact⟨iM,false,rfl,rfl,λ_=>rfl,by simp⟩
 |true=>
  obtain⟨e,v,hv,o⟩:=m rfl;simp only[An,Ad,Aa];by_cases he:(L u).length<1
  ·have g:seq u (bs [])=true:=by
    rw[RV,A5,El]
    grind
   rw[Ac (by rw[B5];omega:FL u<1),g];simp only[Ai,IA _ _ e o1,Aa];exact⟨iM,false,rfl,rfl,λ_=>rfl,by simp⟩
  have g:seq u (bs [])=false:=by
   rw[RV,Gh,El]
   grind
  rw[Af (by rw[B5];omega:¬FL u<1),g];simp only[Ad];have four_:∀(B:Int×Int×Int×Int×Int×Int->Option ((Int×Int×Int×Int×Int×Int)⊕(Int×Int×Int×Int×Int)⊕(Page×Bool))),(∀x y a b c d,B (x,y,a,b,c,d)=EH (u,true) x y a b c d)->
    ∃(a:Int) (m1 m2 m3 m4:Int) (bad:Bool),(∃c1 c2 c3,Df (Eu.mk u 1 false)=some (m1,c1)/\Df c1=some (m2,c2)/\Df c2=some (m3,c3)/\Df c3=some (m4,Eu.mk u a bad))/\
     Al B (1,0,0,0,0,0)=some (bif bad then .inr (iM,false)else .inl (a,m1,m2,m3,m4))/\(bad=false->∃(a1 a2 a3 a4 n1 n2 n3 n4:Nat),m1=n1/\m2=n2/\m3=n3/\m4=n4/\a=a4/\1<a1/\a1<a2/\a2<a3/\a3<a4/\a4<=(L u).length/\n1<=1000000000/\n2<=1000000000/\n3<=1000000000/\n4<=1000000000/\
      Cx n1=((L u).drop 1).take (a1-1)/\Cx n2=((L u).drop a1).take (a2-a1)/\Cx n3=((L u).drop a2).take (a3-a2)/\Cx n4=((L u).drop a3).take (a4-a3)):=by
   intro B hB;obtain⟨r1,p1,q1,w1⟩:=IS u 1 (by omega) o1;have g1:=Ky u 1 e p1;rw[Ax,hB];unfold EH;rw[cT,q1,Aa]
   rcases w1 with⟨w1,w2,w3⟩|⟨w1,a0',a1,n1,z0,z1,z2,z3,z4,z5,z6⟩
   ·rw[w1]at g1⊢;exact⟨1,0,0,0,0,true,⟨_,_,_,g1,IA u 1 e o1,IA u 1 e o1,IA u 1 e o1⟩,rfl,by simp⟩
   have ea0:a0'=1:=by omega
   subst ea0;rw[w1]at g1⊢;have x1:oI r1.2.1:=⟨by omega,by omega⟩;simp only[An,Ad,Ai]at g1⊢;rw[show((0:Int)==0)=true from rfl,Ai,show ad 0 1=1 from ad1 (i:=0)<|by omega];simp only;obtain⟨r2,p2,q2,y1⟩:=IS u r1.2.1 (by omega) x1;have g2:=Ky u r1.2.1 e p2;rw[Ax,hB];unfold EH;rw[cT,q2,Aa]
   rcases y1 with⟨y1,_,_⟩|⟨y1,b0,a2,n2,y2,y3,y4,y5,y6,y7,y8⟩
   ·rw[y1]at g2⊢;exact⟨r1.2.1,r1.1,0,0,0,true,⟨_,_,_,g1,g2,IA u _ e x1,IA u _ e x1⟩,rfl,by simp⟩
   have eb:b0=a1:=by omega
   subst eb;rw[y1]at g2⊢;have x2:oI r2.2.1:=⟨by omega,by omega⟩;simp only[An,Ad,Ai]at g2⊢;rw[show((1:Int)==0)=false from rfl,Ad,show((1:Int)==1)=true from rfl,Ai,show ad 1 1=2 from ad1 (i:=1)<|by omega];simp only;obtain⟨r3,p3,q3,k1⟩:=IS u r2.2.1 (by omega) x2;have g3:=Ky u r2.2.1 e p3;rw[Ax,hB];unfold EH;rw[cT,q3,Aa]
   rcases k1 with⟨k1,_,_⟩|⟨k1,c0,a3,n3,k2,k3,k4,k5,k6,k7,k8⟩
   ·rw[k1]at g3⊢;exact⟨r2.2.1,r1.1,r2.1,0,0,true,⟨_,_,_,g1,g2,g3,IA u _ e x2⟩,rfl,by simp⟩
   have ec:c0=a2:=by omega
   subst ec;rw[k1]at g3⊢;have x3:oI r3.2.1:=⟨by omega,by omega⟩;simp only[An,Ad,Ai]at g3⊢;rw[show((2:Int)==0)=false from rfl,Ad,show((2:Int)==1)=false from rfl,Ad,show((2:Int)==2)=true from rfl,Ai,show ad 2 1=3 from ad1 (i:=2)<|by omega];simp only;obtain⟨r4,p4,q4,l1⟩:=IS u r3.2.1 (by omega) x3;have g4:=Ky u r3.2.1 e p4;rw[Ax,hB];unfold EH;rw[cT,q4,Aa]
   rcases l1 with⟨l1,_,_⟩|⟨l1,d0,a4,n4,l2,l3,l4,l5,l6,l7,l8⟩
   ·rw[l1]at g4⊢;exact⟨r3.2.1,r1.1,r2.1,r3.1,0,true,⟨_,_,_,g1,g2,g3,g4⟩,rfl,by simp⟩
   have ed:d0=a3:=by omega
   subst ed;rw[l1]at g4⊢;simp only[An,Ad,Ai]at g4⊢;rw[show((3:Int)==0)=false from rfl,Ad,show((3:Int)==1)=false from rfl,Ad,show((3:Int)==2)=false from rfl,Ad,show((3:Int)==3)=true from rfl,Ai,show ad 3 1=4 from ad1 (i:=3)<|by omega];simp only;rw[Ax,hB];unfold EH;rw[cF];exact⟨r4.2.1,r1.1,r2.1,r3.1,r4.1,false,⟨_,_,_,g1,g2,g3,g4⟩,rfl,λ_=>⟨b0,c0,d0,a4,n1,n2,n3,n4,z2,y4,k4,l4,l3,z3,y5,k5,l5,l6,z5,y7,k7,l7,z6,y8,k8,l8⟩⟩
  obtain⟨a,m1,m2,m3,m4,bad,⟨c1,c2,c3,f1,f2,f3,f4⟩,f5,f6⟩:=four_ (λs:Int×Int×Int×Int×Int×Int=>EH (u,true) s.1 s.2.1 s.2.2.1 s.2.2.2.1 s.2.2.2.2.1 s.2.2.2.2.2) λ_ _ _ _ _ _=>rfl;rw[f5];simp only[f1,f2,f3,f4,Aa]
  cases bad with
  |true=>exact⟨iM,false,rfl,rfl,λ_=>rfl,by simp⟩
  |false=>
   obtain⟨a1,a2,a3,a4,n1,n2,n3,n4,rfl,rfl,rfl,rfl,rfl,i1,i2,i3,i4,i5,j1,j2,j3,j4,s1,s2,s3,s4⟩:=f6 rfl;simp only[Ad,Aa,Cp];have q:sx u 0=some (((L u)[0]'(by omega)).toNat:Int):=Fd u (i:=0) (by omega);have h:sub u (a4:Int) (FL u)=some (u.extract a4 (L u).length):=by rw[B5];exact Fe u (by omega)<|by omega
   rw[q,h];simp only[Aa];have hk:=oH ((L u)[0]'(by omega));have hw:IntKind.i64.wrap (((L u)[0]'(by omega)).toNat:Int)=((L u)[0]'(by omega)).toNat:=OM (by omega) (by omega);rw[hw];obtain⟨po,po1,po2,_⟩:=Uo (Page.mk (((L u)[0]'(by omega)).toNat:Int) n1 n2 n3 n4<|u.extract a4 (L u).length);rw[po2]
   cases po with
   |false=>
    have:Es (Page.mk (((L u)[0]'(by omega)).toNat:Int) n1 n2 n3 n4<|u.extract a4 (L u).length)=some (bs [],false):=by
     unfold Es;rw[po1];rfl
    rw[this];exact⟨iM,false,rfl,rfl,λ_=>rfl,by simp⟩
   |true=>
    have hT:L (u.extract a4 (L u).length)=(L u).drop a4:=by
     rw[If];exact AK<|by simp
    have f:L u=[(L u)[0]'(by omega)]++Cx n1++Cx n2++Cx n3++Cx n4++L (u.extract a4 (L u).length):=by
     rw[hT,s1,s2,s3,s4];have h0:L u=[(L u)[0]'(by omega)]++(L u).drop 1:=by
      have:=AE (l:=L u) (i:=0) (by omega);simpa using this
     have d1:=RG (L u) (a:=1) (b:=a1) (by omega);have d2:=RG (L u) (a:=a1) (b:=a2) (by omega);have d3:=RG (L u) (a:=a2) (b:=a3) (by omega);have d4:=RG (L u) (a:=a3) (b:=a4) (by omega);simp only[AG];rw[<-d4,<-d3,<-d2,<-d1];exact h0
    rw[YM _ u ((L u)[0]'(by omega)) n1 n2 n3 n4 po1 rfl rfl rfl rfl rfl j1 j2 j3 j4 e f];obtain⟨v',hv',hs'⟩:=(Un u).2 e;rw[hv]at hv'
    injection hv' with hv'
    subst hv';rw[hs',Aa];have:seq (u++four v) t=true:=by rw[JZ,A5];exact o.symm
    simp only[An,Ad,Aa,this];exact⟨_,true,rfl,rfl,by simp,λ_=>po1⟩
def PO (x:Leaf):Nat:=x.Text.size
def KA (x:Block):Nat:=zl PO x.Leaves
def Od (x:Flash):Nat:=zl KA x.Blocks
theorem ADQ (f:Flash) (h:Od f<=1048576):Kh f/\∀b∈f.Blocks,∀x∈b.Leaves,(L x.Text).length<=1048576:=by
 have h1:=Sm (z:=KA) (l:=f.Blocks);unfold Od at h;refine⟨⟨by omega,λb hb=>?_⟩,λb hb x hx=>?_⟩
 ·have h2:=j9 (z:=KA) hb;have h3:=Sm (z:=PO) (l:=b.Leaves);have e:KA b=zl PO b.Leaves:=rfl;omega
 have h2:=j9 (z:=KA) hb;have h3:=j9 (z:=PO) hx;have e:KA b=zl PO b.Leaves:=rfl;have e2:PO x=x.Text.size:=rfl;rw[XW];omega
def nl (l:List Block):Nat:=(l.map λb=>b.Leaves.length).sum
theorem AFL (f:Flash):nl f.Blocks<=Od f:=by
 unfold nl Od zl;have:∀l:List Block,(l.map λb=>b.Leaves.length).sum<=(l.map KA).sum:=by
  intro l
  induction l with
  |nil=>simp
  |cons b l ih=>
   have:=Sm (z:=PO) (l:=b.Leaves);have e:KA b=zl PO b.Leaves:=rfl
   grind
 grind
def SM (f:Flash) (y:Ap):Prop:=∃b x,gi f.Blocks y.Block=some b/\gi b.Leaves y.Leaf=some x/\(x.Is==1)=true/\F9 x.Text=some (y.Page,true)
theorem YJ {b:Block} {x:Leaf} (f:Flash) (hf:Kh f) (hb:f.Blocks[i]?=some b) (hx:b.Leaves[k]?=some x):QL f i k=some (cond (x.Is==1) (x.Text,true) (bs [],false)):=by
 have h1:=(Ae.1 hb).1;have h2:=(Ae.1 hx).1;have h3:=hf.1;have h4:=hf.2 b<|Ar hb;unfold QL;rw[Co (by rw[Bh];omega) (by rw[Bh];omega),Qk,Bh,Ac (by omega:(0:Int)<=(i:Int)),Ac (by omega:(i:Int)<=(f.Blocks.length:Int)-1)];simp only[Aa,Xa,An,Ad,Au,hb];rw[Co (by rw[Bh];omega) (by rw[Bh];omega),Qk,Bh,Ac (by omega:(0:Int)<=(k:Int)),Ac (by omega:(k:Int)<=(b.Leaves.length:Int)-1)]
 grind
theorem cY (f:Flash) (hf:Kh f) (hT:∀b∈f.Blocks,∀x∈b.Leaves,(L x.Text).length<=1048576) (hn:nl f.Blocks<=1048576):
  ∃X,Al (λs:List Ap×Int=>E6 f s.1 s.2) ([],0)=some X/\Al (λs:Int×List Ap=>Jm f s.1 s.2) (0,[])=some X/\X.length<=nl f.Blocks/\∀y∈X,SM f y:=by
 refine MT (body:=λs:List Ap×Int=>E6 f s.1 s.2) (body':=λs:Int×List Ap=>Jm f s.1 s.2) (λs i=>(s,i)) (λs i=>(i,s)) f.Blocks.length (λi a=>a.length<=((f.Blocks.take i).map λb=>b.Leaves.length).sum/\∀y∈a,SM f y) (λX=>X.length<=nl f.Blocks/\∀y∈X,SM f y) ?_ ?_ (s:=[]) ⟨by simp,by simp⟩
 ·intro a i hi ⟨c,d⟩;have hb:f.Blocks[i]?=some f.Blocks[i]:=Ab hi;have hm:f.Blocks[i]∈f.Blocks:=Az _;have h:=Sr (λb:Block=>b.Leaves.length) f.Blocks i hi;have j:=OV (λb:Block=>b.Leaves.length) f.Blocks<|i+1;unfold nl at hn;have l:=hf.1;refine .inl ?_;simp only[E6,Jm,DK hi,Au,hb,Aa];obtain⟨u,q1,q2,q3⟩:=MT (body:=λs:List Ap×Int=>Gu f (i:Int) s.1 s.2) (body':=λs:Int×List Ap=>Lh (i:Int) f.Blocks[i] s.1 s.2) (λs i=>(s,i)) (λs i=>(i,s)) f.Blocks[i].Leaves.length (λk u=>u.length<=a.length+k/\∀y∈u,SM f y) (λu=>u.length<=a.length+f.Blocks[i].Leaves.length/\∀y∈u,SM f y)
   (λu k hk hu=>by
    have hx:f.Blocks[i].Leaves[k]?=some f.Blocks[i].Leaves[k]:=Ab hk
    have g:∀y:Ap,ap 72 u [y]=some (u++ [y]):=λy=>Bi<|by grind
    refine .inl ?_;obtain⟨p,ok,r1,r2,r3,r4⟩:=IT f.Blocks[i].Leaves[k].Text (by grind);simp only[Gu,Lh,DK hk,Au,hb,hx,Aa,YJ f hf hb hx,r2,g]
    cases e:f.Blocks[i].Leaves[k].Is==1 with
    |false=>
     obtain⟨p',ok',t1,_⟩:=IT (bs []) (by rw[El];simp);simp only[Ad,Aa,t1];refine⟨u,by rw[ad1],by cases ok<;>(simp only[Ai,Ad,Aa];rw[ad1]),by omega,hu.2⟩
    |true=>
     simp only[Ai,Aa,r1]
     cases ok with
     |false=>exact⟨u,by simp only[Ad];rw[ad1],by simp only[Ad,Aa];rw[ad1],by omega,hu.2⟩
     |true=>
      refine⟨u++ [Ap.mk i k p],by simp only[Ai];rw[ad1],by simp only[Ai,Aa];rw[ad1],by grind,λy hy=>?_⟩
      rcases Ao.1 hy with hy|hy
      ·exact hu.2 y hy
      rw[Bk]at hy;subst hy
      exact⟨_,_,by simp only[Au];exact hb,by simp only[Au];exact hx,e,r1⟩)
   (λu hu=>⟨u,by simp only[Gu,Au,hb,Aa,D1],by simp only[Lh,D1],hu⟩) (s:=a) ⟨by omega,d⟩
  rw[q1,q2,Aa,ad1]
  grind
 intro a ⟨c,d⟩;refine⟨a,by simp only[E6,D1],by simp only[Jm,D1],?_,d⟩;rw[DN]at c;exact c
theorem nA {l:List γ} {i j:Int} {x y:γ} (h:gi l j=some y):∃z,gi (si l i x) j=some z:=by
 obtain⟨h1,h2⟩:=Cv h;have:=(Ae.1 h2).1;unfold gi;rw[AH h1];exact⟨_,Ab (by simp only[si,Ki];exact this)⟩
theorem s9 (l:List Ap) (k:Int):KK l k=(Bl (NW B9) 0 k l).map (Sum.map (λs=>(s.2,s.1)) id):=by
 unfold KK Bl gi2 s8
 cases hk:decide (k>0)with
 |false=>rfl
 |true=>
  cases h1:gi l (sb k 1)with
  |none=>simp
  |some x=>
   cases h2:gi l k with
   |none=>simp
   |some y=>
    simp only[Aa];have e:(decide<|x.Page.Seq>y.Page.Seq)=NW B9 y x:=rfl;rw[e]
    cases NW B9 y x with
    |false=>rfl
    |true=>
     obtain⟨z,hz⟩:=nA (i:=k) (x:=x) h1;rw[hz];rfl
theorem ACZ {l l':List γ} {i j:Int} (h:s8 l i j=some l'):l'.length=l.length:=by
 unfold s8 at h;obtain⟨x,_,h⟩:=Ah.1 h;obtain⟨y,_,h⟩:=Ah.1 h
 injection h with h
 subst h;simp[si]
theorem ADF {a j:Int} {l r:List Ap} (h:Al (λs:Int×List Ap=>Bl (NW B9) a s.1 s.2) (j,l)=some r):r.length=l.length:=by
 refine zV (λs:Int×List Ap=>s.2.length=l.length) (λr=>r.length=l.length) ?_ ?_ (s:=(j,l)) rfl h
 ·rintro⟨j,m⟩ s' hm hb;obtain⟨c,_,hb⟩:=Ah.1 hb
  cases c with
  |false=>cases hb
  |true=>
   obtain⟨m',h1,hb⟩:=Ah.1 hb
   injection hb with hb
   injection hb with hb
   subst hb;exact(ACZ h1).trans hm
 rintro⟨j,m⟩ b hm hb;obtain⟨c,_,hb⟩:=Ah.1 hb
 cases c with
 |false=>grind
 |true=>
  obtain⟨m',h1,hb⟩:=Ah.1 hb;cases hb
theorem dO (f:Flash) (hf:Kh f) (hT:∀b∈f.Blocks,∀x∈b.Leaves,(L x.Text).length<=1048576) (hn:nl f.Blocks<=1048576):
  ∃r,Fx f=some r/\Gf f=some r/\r.length<=nl f.Blocks/\(∀y∈r,SM f y)/\srt B9 r:=by
 obtain⟨X,h1,h2,h3,h4⟩:=cY f hf hT hn;obtain⟨r,h5,h6,h7⟩:=gQ B9 X (by omega);obtain⟨r',h8,h9,h10⟩:=Ji B9 [] X [] (by grind);have hr:r'=r:=Oj B9 h9 h6 (λk=>by rw[h7 k,<-h10 k]);subst hr;refine⟨r',?_,?_,?_,?_,h6⟩
 ·unfold Fx;rw[h1,Aa];simp only[A3,AC,Ek,HZ]at h8;unfold BU at h8;have hc:Al (λs:List Ap×Int=>KL s.1 s.2) (X,1)=Al (λs:Int×List Ap=>Bg (NW B9) ((0:Nat):Int) (X.length:Int) s.1 s.2) (1,X):=by
   refine qE (body:=λs:Int×List Ap=>Bg (NW B9) ((0:Nat):Int) (X.length:Int) s.1 s.2) (body':=λs:List Ap×Int=>KL s.1 s.2) (λs=>(s.2,s.1)) (λs=>s.2.length=X.length) ?_ ?_ (1,X) rfl
   ·rintro⟨j,m⟩ hm;simp only[KL,Bg,Bh,hm]
    cases decide (j<(X.length:Int))with
    |false=>rfl
    |true=>
     rw[uF (body:=λs:Int×List Ap=>Bl (NW B9) ((0:Nat):Int) s.1 s.2) (body':=λs:List Ap×Int=>KK s.1 s.2) (λs=>(s.2,s.1)) (λs=>s9 s.2 s.1) (j,m)];cases Al (λs:Int×List Ap=>Bl (NW B9) ((0:Nat):Int) s.1 s.2) (j,m)<;>rfl
   rintro⟨j,m⟩ s' hm hb;simp only[Bg]at hb
   cases hc:decide (j<(X.length:Int))with
   |false=>grind
   |true=>
    rw[hc,Ai]at hb;obtain⟨m',h1,hb⟩:=Ah.1 hb
    injection hb with hb
    injection hb with hb
    subst hb;exact(ADF h1).trans hm
  rw[hc];exact h8
 ·unfold Gf
  grind
 ·rw[<-h7.len];exact h3
 exact λy hy=>h4 y<|(h7.mem).1 hy
theorem O7 {S:Type} {body:S->Option (S⊕List α)} (a:List α->Int->S) (g:Nat->α->α) (l0:List α) (h1:∀(i:Nat) (l:List α) x,l.length=l0.length->l[i]?=some x->l0[i]?=some x->body (a l (i:Nat))=some (.inl (a (l.set i (g i x)) ((i+1:Nat):Int)))) (h2:∀l:List α,l.length=l0.length->body (a l (l0.length:Nat))=some (.inr l)):Al body (a l0 0)=some (l0.mapIdx g):=by
 obtain⟨b,h3,h4⟩:=AJ (body:=body) a l0.length (λi l=>l.length=l0.length/\∀j,l[j]?=if j<i then(l0[j]?).map (g j)else l0[j]?) (λb=>b=l0.mapIdx g)
  (λl i hi hs=>by
   obtain⟨hl,hs⟩:=hs;have c:l0[i]?=some l0[i]:=Ab hi;have hx:l[i]?=some l0[i]:=by grind
   refine .inl ⟨_,h1 i l _ hl hx c,by grind,λj=>?_⟩;by_cases e:i=j
   ·grind
   grind)
  (λl hs=>⟨l,h2 l hs.1,by
   apply BN
   grind⟩) (s:=l0) ⟨rfl,λj=>by rfl⟩
 rw[h3,h4]
abbrev Ks:=List Bs
def dk:Bs:=Bs.mk true []
def B8 (K:Ks) (i:Int):Bs:=(gi K i).getD dk
def MU (k:Bs) (j:Nat):Int:=(k.Kids[j]?).getD 0
def Rg (K:Ks) (i:Nat) (leaf:Bool) (n:Int):Bool:=bif leaf then decide (0<=n)else(n== -1||(decide (0<=n/\n<=(i:Int)-1)&&(B8 K n).Leaf))
def CJ (K:Ks):Bool:=K.zipIdx.all λz=>z.1.Kids.length==4&&z.1.Kids.all (Rg K z.2 z.1.Leaf)
def D0 (K:Ks) (r:Int):Bool:=r== -1||(decide (0<=r/\r<(K.length:Int))&&!(B8 K r).Leaf)
def Sc (K:Ks) (root:Int) (s:Nat):Int:=if root<0 then 0 else if MU (B8 K root) (s/4)<0 then 0 else MU (B8 K<|MU (B8 K root)<|s/4)<|s %4
def EF (K:Ks) (root:Int):List Int:=(List.range 16).map<|Sc K root
variable {K X:Ks}
theorem O8 (h:i<K.length):B8 K (i:Int)=K[i]:=by
 unfold B8;rw[Au,Ab h];rfl
theorem Ie {i:Int} (h0:0<=i) (h:i<(K.length:Int)):gi K i=some (B8 K i):=by
 unfold B8;rw[Ln h0 h];rfl
theorem Di (x a b:Int):BA x a b=some (decide (a<=x/\x<=b)):=by
 rw[Qk];simp
theorem GH:CJ K=true↔∀i:Nat,i<K.length->(B8 K (i:Int)).Kids.length=4/\∀n∈(B8 K (i:Int)).Kids,Rg K i (B8 K (i:Int)).Leaf n=true:=by
 unfold CJ;rw[XV];constructor
 ·intro h i hi;have:=h (K[i],i) (by grind);rw[O8 hi]
  grind
 intro h z hz;rw[List.mem_zipIdx_iff_getElem?]at hz;obtain⟨a,hz⟩:=Ae.1 hz;have:=h z.2 a;rw[O8 a,hz]at this
 grind
theorem KQ (a:Arena) (ha:a.Knots.length<=1048576):GW a=some (CJ a.Knots):=by
 unfold GW;have h:=bK (body:=λs:Int=>Ea a s) a.Knots (λi k=>k.Kids.length==4&&k.Kids.all (Rg a.Knots i k.Leaf)) (.inr false) (.inl ()) (by omega)
  (λi k hk=>by
   have hi:=(Ae.1 hk).1;simp only[Ea,DK hi,Au,hk,Aa];by_cases h4:k.Kids.length=4
   ·have e1:(ln k.Kids !=4)=false:=by simp[ln,h4]
    have e2:(k.Kids.length==4)=true:=by simp[h4]
    simp only[e1,Ad,e2,QA];have q:=bK (body:=λs:Int=>EE a (i:Int) k s) k.Kids (λ_ n=>Rg a.Knots i k.Leaf n) (.inr<|.inr<|.inr false) (.inl ()) (by omega)
     (λj n hn=>by
      have hj:=(Ae.1 hn).1;simp only[EE];rw[cT,Au,hn];simp only[Aa,Rg]
      cases hl:k.Leaf with
      |true=>
       simp only[Ai,An,Ad];by_cases h0:n<0
       ·grind
       rw[Af h0,Ac (by omega:0<=n)];simp only[Ad,Aa,Ai];rw[ad1]
      |false=>
       simp only[Ad,Cj,Ai];by_cases h1:n= -1
       ·subst h1;simp only[V8,Ad,Aa,BEq.rfl,Bool.true_or,Ai];rw[ad1]
       have e3:(n != -1)=true:=by simp[h1]
       have e4:(n== -1)=false:=by simp[h1]
       rw[e3,e4];simp only[Ai,oE];rw[Co,Di];simp only[Aa];by_cases h2:0<=n/\n<=(i:Int)-1
       ·rw[Ac h2];simp only[An,Ad];rw[Ie h2.1<|by omega];simp only[Aa,QA]
        cases(B8 a.Knots n).Leaf with
        |true=>simp only[An,Ad,Ai];rw[ad1]
        |false=>rfl
       grind)
     (by simp only[EE];rw[cF])
    rw[q];have hz:(k.Kids.zipIdx.all λz=>Rg a.Knots i k.Leaf z.1)=k.Kids.all (Rg a.Knots i k.Leaf):=by
     rw[show(λz:Int×Nat=>Rg a.Knots i k.Leaf z.1)=(Rg a.Knots i k.Leaf)∘Prod.fst from rfl,<-List.all_map];simp
    rw[Aa,hz]
    cases k.Kids.all (Rg a.Knots i k.Leaf)with
    |true=>simp only[Ai,Cp];rw[ad1]
    |false=>rfl
   have e1:(ln k.Kids !=4)=true:=by simp[ln];omega
   grind)
  (by simp only[Ea,D1])
 rw[h];unfold CJ
 grind
theorem N5 (a:Arena) (ha:a.Knots.length<=1048576) (r:Int):HM a r=some (D0 a.Knots r):=by
 unfold HM D0
 cases hr:(r== -1)with
 |true=>rfl
 |false=>
  rw[Bh,Co,Di];by_cases h:0<=r/\r<(a.Knots.length:Int)
  ·rw[Ac h,Ac (by omega:0<=r/\r<=(a.Knots.length:Int)-1)];rw[Ie h.1 h.2];rfl
  grind
theorem BY (h:D0 K r=true):r= -1\/(0<=r/\r<(K.length:Int)/\(B8 K r).Leaf=false):=by
 unfold D0 at h
 grind
theorem FE (hK:CJ K=true) (h0:0<=r) (h1:r<(K.length:Int)):(B8 K r).Kids.length=4/\∀j,j<4->(B8 K r).Kids[j]?=some (MU (B8 K r) j)/\Rg K r.toNat (B8 K r).Leaf (MU (B8 K r) j)=true:=by
 have:=GH.1 hK r.toNat (by omega);rw[show((r.toNat:Nat):Int)=r by omega]at this;refine⟨this.1,λj hj=>?_⟩;have e:(B8 K r).Kids[j]?=some (MU (B8 K r) j):=by unfold MU;grind
 grind
theorem Gw (hK:CJ K=true) (h0:0<=r) (h1:r<(K.length:Int)) (hl:(B8 K r).Leaf=false) (hj:j<4):MU (B8 K r) j= -1\/(0<=MU (B8 K r) j/\MU (B8 K r) j<r/\(B8 K (MU (B8 K r) j)).Leaf=true):=by
 have:=((FE hK h0 h1).2 j hj).2;rw[hl]at this;simp only[Rg,Ad,CU,CK,Ag,A5]at this
 grind
theorem ABX (hK:CJ K=true) (h0:0<=r) (h1:r<(K.length:Int)) (hl:(B8 K r).Leaf=true) (hj:j<4):0<=MU (B8 K r) j:=by
 have:=((FE hK h0 h1).2 j hj).2;rw[hl]at this;simpa[Rg]using this
theorem qu4 {s:Nat} (h:s<16):qu (s:Int) 4=((s/4:Nat):Int):=by
 unfold qu;rw[show Int.tdiv (s:Int) 4=((s/4:Nat):Int) by rfl];exact OM (by omega)<|by omega
theorem AAR {s:Nat}:Int.tmod (s:Int) 4=((s %4:Nat):Int):=by rfl
theorem Yi {s:Nat} (a:Arena) (hK:CJ a.Knots=true) (hr:D0 a.Knots r=true) (hs:s<16):Ot a r (s:Int)=some (Sc a.Knots r s):=by
 unfold Ot Sc
 rcases BY hr with rfl|⟨h0,h1,hl⟩
 ·rfl
 rw[Af (by omega:¬r<0),AO (by omega),Ad,Ie h0 h1];rw[Aa,qu4 hs,Au,((FE hK h0 h1).2 (s/4)<|by omega).1];simp only[Aa]
 rcases Gw hK h0 h1 hl (show s/4<4 by omega)with e|⟨e1,e2,e3⟩
 ·rw[e];rfl
 rw[Af (by omega),AO (by omega),Ad,Ie e1<|by omega];rw[Aa,AAR,Au,((FE hK e1<|by omega).2 (s %4)<|by omega).1];rfl
theorem aJ {s:Nat} (a:Arena) (ha:a.Knots.length<=1048576) (hK:CJ a.Knots=true) (hr:D0 a.Knots r=true) (hs:s<16):QN a r (s:Int)=some (Sc a.Knots r s):=by
 unfold QN;rw[KQ a ha,N5 a ha,Di,hK,hr];simp only[Aa,An,Ad];rw[Ac (by omega:0<=(s:Int)/\(s:Int)<=15)];rw[Yi a hK hr hs]
 try rfl
theorem Oz (a:Arena) (ha:a.Knots.length<=1048576) (hK:CJ a.Knots=true) (hr:D0 a.Knots r=true):JS a r=some (EF a.Knots r):=by
 unfold JS;obtain⟨b,h1,h2⟩:=AJ (body:=λs:List Int×Int=>LU a r s.1 s.2) (λ(o:List Int) i=>(o,i)) 16 (λi o=>o=(List.range i).map (Sc a.Knots r)) (λb=>b=EF a.Knots r)
  (λo i hi ho=>by
   refine .inl ⟨_,?_,rfl⟩;simp only[LU]
   rw[cT,aJ a ha hK hr hi,Aa,Bi (by rw[ho];simp;omega),Aa,ad1,ho,Ej,Cb,List.map_singleton])
  (λo ho=>⟨_,by rfl,ho⟩) (s:=[]) rfl
 rw[h1,h2];rfl
theorem Mk {by_:Nat} (h:l.length*by_<=140737488355328):ap by_ [] l=some l:=by
 rw[Bi (by simpa using h),A3]
def ACq (K:Ks):Prop:=K.length<=1048576/\∀k∈K,k.Kids.length<=1048576
theorem Lq (hK:CJ K=true) (h:K.length<=1048576):ACq K:=by
 refine⟨h,λk hk=>?_⟩;obtain⟨i,hi,rfl⟩:=A4 hk;have:=(GH.1 hK i hi).1;rw[O8 hi]at this;omega
theorem Wd (a:Arena) (h:ACq a.Knots):NP a=some a:=by
 unfold NP;have h1:=SK (body:=λs:Int×List Bs=>KE a s.1 s.2) a.Knots (λk=>k)
  (λi k b hk ho=>by
   have hi:=(Ae.1 hk).1;have hm:=h.2 k<|Ar hk;have:=h.1;simp only[KE,DK hi,Au,hk,Aa]
   rw[Mk (by omega),Aa,Bi (by simp;omega),Aa,ad1])
  (λb=>by simp only[KE,D1])
 rw[h1];simp
theorem Gr (s:Store) (h:ACq s.Arena.Knots) (hv:s.Vols.length<=1048576):Ed s=some s:=by
 unfold Ed;rw[Mk (by omega),Wd _ h];rfl
def Qi (K:Ks) (r:Int) (s:Nat) (n:Int):List Int:=(if r<0 then [0,0,0,0]else if MU (B8 K r) (s/4)<0 then [0,0,0,0]else(B8 K<|MU (B8 K r)<|s/4).Kids).set (s %4) n
def UT (K:Ks) (r:Int) (s:Nat):List Int:=(if r<0 then [-1,-1,-1,-1]else(B8 K r).Kids).set (s/4) (K.length:Int)
def Kc (K:Ks) (r:Int) (s:Nat) (n:Int):Ks:=K++ [Bs.mk true<|Qi K r s n,Bs.mk false<|UT K r s]
theorem mk4:mk 8 (0:Int) 4=some [0,0,0,0]:=by rfl
theorem qZ {k:Bs} (h:j<k.Kids.length):gi k.Kids (j:Int)=some (MU k j):=by
 unfold MU;rw[Au,Ab h];rfl
theorem aF {s:Nat} (a:Arena) (ha:a.Knots.length<=1048000) (hK:CJ a.Knots=true) (hr:D0 a.Knots r=true) (hs:s<16) (hn:0<=n):
  Zm a r (s:Int) n=some (Arena.mk (Kc a.Knots r s n),(a.Knots.length:Int)+1):=by
 unfold Zm;rw[Wd _ (Lq hK<|by omega),KQ a (by omega),N5 a (by omega),Di,hK,hr];rw[Ac (by omega:0<=(s:Int)/\(s:Int)<=15),Af (by omega:¬n<0)];rw[mk4];simp only[Aa];have fin:∀(lf tp:List Int),lf.length=4->tp.length=4->Kc a.Knots r s n=a.Knots++ [Bs.mk true<|lf.set (s %4) n,Bs.mk false<|tp.set (s/4) (a.Knots.length:Int)]->
   ((gi lf<|Int.tmod (s:Int) 4).bind λx4=>(gi tp<|qu (s:Int) 4).bind λx5=>(ap 32 a.Knots [Bs.mk true<|si lf (Int.tmod (s:Int) 4) n,Bs.mk false<|si tp (qu (s:Int) 4)<|ln a.Knots]).bind λq4=>some (Arena.mk q4,sb (ln q4) 1))=some (Arena.mk<|Kc a.Knots r s n,(a.Knots.length:Int)+1):=by
  intro lf tp h1 h2 h3;rw[qu4 hs,AAR,Au,Au,Ab (by omega),Ab<|by omega];rw[Bi (by simp;omega),DJ,DJ,Bh,<-h3];simp only[Aa];rw[Bh,h3,Ak,Co (by simp;omega) (by simp;omega)]
  grind
 rcases BY hr with rfl|⟨h0,h1,hl⟩
 ·rw[Af (by omega:¬(-1:Int)>=0)];exact fin _ _ rfl rfl rfl
 rw[cT,Ie h0 h1];have h4:=(FE hK h0 h1).1;simp only[Aa];rw[Mk<|by omega];simp only[Aa];rw[qu4 hs,qZ (by omega:s/4<(B8 a.Knots r).Kids.length)];simp only[Aa];rw[<-qu4 hs]
 rcases Gw hK h0 h1 hl (show s/4<4 by omega)with e|⟨e1,e2,e3⟩
 ·rw[Af (by omega:¬MU (B8 a.Knots r) (s/4)>=0)];exact fin _ _ rfl h4 (by unfold Kc Qi UT;simp only[AO (show¬r<0 by omega),AH<|show MU (B8 a.Knots r) (s/4)<0 by omega])
 rw[cT,Ie e1<|by omega];have h5:=(FE hK e1<|by omega).1;simp only[Aa];rw[Mk<|by omega];exact fin _ _ h5 h4 (by unfold Kc Qi UT;grind)
def OO (K:Ks) (r:Int) (i:Nat):Bool:=decide (0<=r)&&(decide (r=(i:Int))||(B8 K r).Kids.any λn=>decide<|n=(i:Int))
theorem mE (n:Nat) (f:Nat->α) (g:Nat->α->α):((List.range n).map f).mapIdx g=(List.range n).map λi=>g i (f i):=by
 apply BN
 grind
theorem Qa (n:Nat) (f:Nat->α) (i:Nat) (x:α) (g:Nat->α) (h:∀j,j<n->g j=if j=i then x else f j):((List.range n).map f).set i x=(List.range n).map g:=by
 apply BN
 grind
theorem HO {n:Nat} {f:Nat->α} (h:i<n):((List.range n).map f)[i]?=some (f i):=by grind
theorem VP {l:List Int} {m:Nat} (h:l[m]?=some x) (p:Int->Bool):(l.take (m+1)).any p=((l.take m).any p||p x):=by
 rw[DR,h,List.any_append];simp
theorem o5 (a:Arena) (ha:a.Knots.length<=1048576) (hK:CJ a.Knots=true) (hr:D0 a.Knots r=true):Wc a r=some ((List.range a.Knots.length).map (OO a.Knots r)):=by
 unfold Wc;rw[Bh,bG (by omega)<|by omega];simp only[Aa]
 rcases BY hr with rfl|⟨h0,h1,hl⟩
 ·simp only[show decide ((-1:Int)<0)=true from rfl,Ai];congr 1;rw[show(OO a.Knots<|-1)=λ_=>false from rfl,Nx,Dy]
 rw[cF];obtain⟨m,rfl⟩:∃m:Nat,r=(m:Int):=⟨r.toNat,by omega⟩;rw[Au,List.getElem?_replicate,AH<|by omega];rw[DJ];obtain⟨h4,hk⟩:=FE hK h0 h1;obtain⟨b,q1,q2⟩:=AJ (body:=λs:List Bool×Int=>MC a (m:Int) s.1 s.2) (λ(o:List Bool) i=>(o,i)) 4
  (λi o=>o=(List.range a.Knots.length).map λ(j:Nat)=>decide ((m:Int)=(j:Int))||((B8 a.Knots (m:Int)).Kids.take i).any λn=>decide<|n=(j:Int))
  (λb=>b=(List.range a.Knots.length).map (OO a.Knots (m:Int)))
  (λo i hi ho=>by
   obtain⟨e,_⟩:=hk i hi;simp only[MC];rw[cT,Ie h0 h1];simp only[Aa];rw[Au,e];simp only[Aa]
   rcases Gw hK h0 h1 hl hi with e1|⟨e1,e2,e3⟩
   ·rw[e1,cF,ad1];refine .inl ⟨o,rfl,?_⟩;rw[ho];apply CR;intro j hj;rw[VP e,e1,Af (by omega:¬(-1:Int)=(j:Int)),Bool.or_false]
   obtain⟨c,hc⟩:∃c:Nat,MU (B8 a.Knots (m:Int)) i=(c:Int):=⟨(MU (B8 a.Knots (m:Int)) i).toNat,by omega⟩;rw[hc,cT];rw[ho,Au,HO<|by omega];rw[DJ,ad1];refine .inl ⟨_,rfl,?_⟩;apply Qa;intro j hj;rw[VP e,hc]
   grind)
  (λo ho=>⟨_,by simp only[MC];rw[cF],by
   rw[ho];apply CR;intro j hj;rw[AK<|by omega]
   rfl⟩) (s:=(List.replicate a.Knots.length false).set m true) (by
   rw[<-Dy (n:=a.Knots.length),<-Nx,Dy];apply Qa
   grind)
 rw[q1,q2];rfl
def CC (K:Ks) (R:List Int) (i:Nat):Bool:=R.any λr=>OO K r i
def e8 (K:Ks) (R:List Int) (i:Nat):Nat:=((List.range i).filter<|CC K R).length
def PN (K:Ks) (R:List Int) (n:Int):Int:=if 0<=n then(e8 K R n.toNat:Int)else n
def Zi (K:Ks) (R:List Int) (i:Nat):Bs:=Bs.mk (B8 K (i:Int)).Leaf<|bif(B8 K (i:Int)).Leaf then(B8 K (i:Int)).Kids else(B8 K (i:Int)).Kids.map<|PN K R
def V7 (K:Ks) (R:List Int):Ks:=((List.range K.length).filter<|CC K R).map<|Zi K R
theorem Je (l:List α) (f:α->α):l.mapIdx (λ_ x=>f x)=l.map f:=by
 apply BN
 grind
theorem PQ (hr:r∈R) (h0:0<=r):CC K R r.toNat=true:=by
 unfold CC;rw[Ds];exact⟨r,hr,by unfold OO;rw[Ac h0,Ac (by omega:r=(r.toNat:Int))];rfl⟩
theorem ZH (hK:CJ K=true) (hR:∀r∈R,D0 K r=true) (hu:CC K R i=true) (hl:(B8 K (i:Int)).Leaf=false):(i:Int)∈R:=by
 unfold CC at hu;rw[Ds]at hu;obtain⟨r,hr,h⟩:=hu;unfold OO at h;simp only[Ag,CU,A5,Ds]at h;obtain⟨h0,h⟩:=h
 rcases h with h|⟨n,hn,h⟩
 ·rw[<-h];exact hr
 rcases BY (hR r hr)with e|⟨_,h1,a⟩
 ·omega
 obtain⟨h4,hk⟩:=FE hK h0 h1;obtain⟨j,hj,b⟩:=A4 hn;have e:=(hk j<|by omega).1;rw[Ab hj,b]at e
 injection e with e
 rcases Gw hK h0 h1 a (show j<4 by omega)with k1|⟨_,_,k3⟩
 ·omega
 grind
theorem VJ (hr:r∈R) (h0:0<=r) (hn:n∈(B8 K r).Kids) (h1:0<=n):CC K R n.toNat=true:=by
 unfold CC;rw[Ds];refine⟨r,hr,?_⟩;unfold OO
 grind
theorem AEi (i:Nat):e8 K R i<=i:=by
 have:=BH (CC K R)<|List.range i;rw[Dy]at this;exact this
theorem eO (a:Arena) (ha:a.Knots.length<=1048576) (R:List Int) (hc:R.length<=1048576) (hR:∀r∈R,D0 a.Knots r=true):Al (λs:Bool×Int=>FX a R s.1 s.2) (true,0)=some true:=by
 obtain⟨b,h1,h2⟩:=AJ (body:=λs:Bool×Int=>FX a R s.1 s.2) (λ(o:Bool) i=>(o,i)) R.length (λ_ o=>o=true) (λb=>b=true)
  (λo i hi ho=>by
   have hx:=Ab hi;simp only[FX,I9,Ac hi,Ai,Aa,ho,Au,hx];rw[N5 a ha,hR _<|Az hi,Aa,ad1]
   grind)
  (λo ho=>⟨o,by simp only[FX,I9,EQ,GN,Ad,Aa],ho⟩) (s:=true) rfl
 grind
theorem kY (a:Arena) (ha:a.Knots.length<=1048576) (hK:CJ a.Knots=true) (R:List Int) (hc:R.length<=1048576) (hR:∀r∈R,D0 a.Knots r=true):
  Al (λs:List Bool×Int=>FW a R s.1 s.2) (List.replicate a.Knots.length false,0)=some ((List.range a.Knots.length).map (CC a.Knots R)):=by
 obtain⟨b,h1,h2⟩:=AJ (body:=λs:List Bool×Int=>FW a R s.1 s.2) (λ(o:List Bool) i=>(o,i)) R.length (λi o=>o=(List.range a.Knots.length).map λ(j:Nat)=>(R.take i).any λr=>OO a.Knots r j) (λb=>b=(List.range a.Knots.length).map (CC a.Knots R))
  (λo i hi ho=>by
   have hx:=Ab hi;simp only[FW,DK hi,Aa,Au,hx];rw[o5 a ha hK<|hR _<|Az hi];simp only[Aa];have q:=O7 (body:=λs:List Bool×Int=>HB ((List.range a.Knots.length).map<|OO a.Knots R[i]) s.1 s.2) (λl i=>(l,i)) (λk x=>x||OO a.Knots R[i] k) o
    (λk l x hl c d=>by
     have hk:k<a.Knots.length:=by grind
     simp only[HB,I9];rw[Ac (by simpa using hk),Ai,Au,c];simp only[Aa]
     cases x with
     |true=>simp only[Ai,Bool.true_or];rw[DJ,ad1]
     |false=>
      simp only[Ad,oE]
      rw[Au,HO hk,Aa,DJ,ad1])
    (λl hl=>by simp only[HB,I9];grind)
   rw[q,Aa,ad1,ho,mE];refine .inl ⟨_,rfl,?_⟩;apply CR;intro j hj;rw[DR,hx,List.any_append]
   simp)
  (λo ho=>⟨o,by simp only[FW,D1],by rw[ho,AK<|by omega];rfl⟩) (s:=List.replicate a.Knots.length false) (by
   simp only[Lw,List.any_nil]
   rw[Nx,Dy])
 rw[<-h2];exact h1
def Vm (K:Ks) (R:List Int) (i:Nat):List Int:=(List.range K.length).map λ(j:Nat)=>if j<i/\CC K R j=true then(e8 K R j:Int)else 0
theorem eP (a:Arena) (ha:a.Knots.length<=1048576) (hK:CJ a.Knots=true) (R:List Int) (hR:∀r∈R,D0 a.Knots r=true):
  Al (λs:List Int×Int×List Bs=>FV a ((List.range a.Knots.length).map (CC a.Knots R)) s.1 s.2.1 s.2.2) (List.replicate a.Knots.length 0,0,[])=some (Vm a.Knots R a.Knots.length,V7 a.Knots R):=by
 obtain⟨b,h1,h2⟩:=AJ (body:=λs:List Int×Int×List Bs=>FV a ((List.range a.Knots.length).map<|CC a.Knots R) s.1 s.2.1 s.2.2) (λ(o:List Int×List Bs) i=>(o.1,i,o.2)) a.Knots.length
  (λi o=>o=(Vm a.Knots R i,((List.range i).filter<|CC a.Knots R).map<|Zi a.Knots R)) (λb=>b=(Vm a.Knots R a.Knots.length,V7 a.Knots R))
  (λo i hi ho=>by
   subst ho;simp only[FV,DK hi];rw[Au,HO hi];simp only[Aa]
   cases hu:CC a.Knots R i with
   |false=>
    simp only[Cj,Ai];rw[ad1];refine .inl ⟨(Vm a.Knots R i,((List.range i).filter<|CC a.Knots R).map<|Zi a.Knots R),rfl,?_⟩;congr 1
    ·unfold Vm
     grind
    rw[Ej,AR,Ew (by rw[hu];simp)];simp
   |true=>
    simp only[An,Ad];have h0:(0:Int)<=(i:Int):=by omega
    have d:(i:Int)<(a.Knots.length:Int):=by omega
    rw[Ie h0 d];obtain⟨h4,hk⟩:=FE hK h0 d;simp only[Aa];rw[Mk<|by omega];simp only[Aa];have inner:Al (λs:Int×List Int=>FU (Vm a.Knots R i) ((B8 a.Knots (i:Int)).Leaf,(B8 a.Knots (i:Int)).Kids) s.1 s.2) (0,(B8 a.Knots (i:Int)).Kids)=some (Zi a.Knots R i).Kids:=by
     unfold Zi
     cases hl:(B8 a.Knots (i:Int)).Leaf with
     |true=>rw[Ax];rfl
     |false=>
      have q:=O7 (body:=λs:Int×List Int=>FU (Vm a.Knots R i) (false,(B8 a.Knots (i:Int)).Kids) s.1 s.2) (λl k=>(k,l)) (λ_ x=>PN a.Knots R x) (B8 a.Knots (i:Int)).Kids
       (λk l x h j m=>by
        have n:k<4:=by grind
        have ex:x=MU (B8 a.Knots (i:Int)) k:=by grind
        simp only[FU];rw[Ac (by omega:(k:Int)<4)];simp only[Ai,Aa,Cj];rw[Au,j];simp only[Aa]
        rcases Gw hK h0 d hl n with e|⟨e1,e2,e3⟩
        ·rw[cF,ad1];have:PN a.Knots R x=x:=by unfold PN;omega
         rw[this,show l.set k x=l from by
          apply BN
          grind]
        rw[cT];obtain⟨c,hc⟩:∃c:Nat,x=(c:Int):=⟨x.toNat,by omega⟩;have p:x∈(B8 a.Knots (i:Int)).Kids:=Ar m;have f:=VJ (ZH hK hR hu hl) h0 p (by omega);rw[hc]at f;rw[hc,Au];unfold Vm;rw[HO (by omega),Aa,AH ⟨by omega,f⟩,DJ,ad1]
        rfl)
       (λl h=>by
        simp only[FU]
        grind)
      rw[Je]at q;exact q
    rw[inner];simp only[Aa];have t:gi (Vm a.Knots R i) (i:Int)=some 0:=by
     unfold Vm;rw[Au,HO hi,AO<|by omega]
    rw[t];simp only[Aa];have u:=AEi (K:=a.Knots) (R:=R) i;have g:(((List.range i).filter<|CC a.Knots R).map<|Zi a.Knots R).length=e8 a.Knots R i:=by rw[Bm];rfl
    rw[Bi (by rw[g];simp;omega),Aa,ad1,Bh,g,DJ];refine .inl ⟨(_,_),rfl,?_⟩;congr 1
    ·unfold Vm;apply Qa
     grind
    rw[Ej,AR,Ev hu,Ny,Cb]
    rfl)
  (λo ho=>⟨o,by simp only[FV,D1],ho⟩) (s:=(List.replicate a.Knots.length 0,[])) (by
   unfold Vm;simp only[Nat.not_lt_zero,false_and,Ke];rw[Nx,Dy]
   rfl)
 rw[<-h2];exact h1
theorem tK (a:Arena) (ha:a.Knots.length<=1048576) (R:List Int) (hc:R.length<=1048576) (hR:∀r∈R,D0 a.Knots r=true):
  Al (λs:List Int×Int=>FT (Vm a.Knots R a.Knots.length,V7 a.Knots R) s.1 s.2) (R,0)=some (R.map (PN a.Knots R)):=by
 have q:=O7 (body:=λs:List Int×Int=>FT (Vm a.Knots R a.Knots.length,V7 a.Knots R) s.1 s.2) (λl k=>(l,k)) (λ_ x=>PN a.Knots R x) R
  (λk l x b d f=>by
   have i:=(Ae.1 d).1;simp only[FT,DK i,Au,d,Aa]
   rcases BY (hR x<|Ar f)with e|⟨e1,e2,e3⟩
   ·rw[cF,ad1];have:PN a.Knots R x=x:=by unfold PN;omega
    rw[this,show l.set k x=l from by
     apply BN
     grind]
   rw[cT];obtain⟨c,g⟩:∃c:Nat,x=(c:Int):=⟨x.toNat,by omega⟩;have h:=PQ (K:=a.Knots) (Ar f) e1;rw[g]at h;rw[g,Au];unfold Vm;rw[HO (by omega),Aa,AH ⟨by omega,h⟩,DJ,ad1]
   rfl)
  (λl b=>by simp only[FT,Bh,b];rw[cF])
 rw[Je]at q;exact q
theorem aD (a:Arena) (ha:a.Knots.length<=1048576) (hK:CJ a.Knots=true) (R:List Int) (hc:R.length<=1048576) (hR:∀r∈R,D0 a.Knots r=true):
  KG a R=some (Arena.mk (V7 a.Knots R),R.map (PN a.Knots R)):=by
 unfold KG;rw[Mk (by omega),KQ a ha,hK];simp only[Aa];rw[eO a ha R hc hR];rw[Bh,bG (by omega)<|by omega];simp only[Aa];rw[kY a ha hK R hc hR];rw[bG (by omega)<|by omega];simp only[Aa];rw[eP a ha hK R hR];simp only[Aa];rw[tK a ha R hc hR];rfl
theorem cR (p:Nat->Bool) (hp:p i=true):∀{n:Nat},i<n->((List.range n).filter p)[((List.range i).filter p).length]?=some i
 |0,h=>by omega
 |n+1,h=>by
  rw[Ej,AR];by_cases e:i=n
  ·grind
  have h2:=cR p hp<|show i<n by omega
  grind
theorem rE {n:Nat} (p:Nat->Bool) (hp:p i=true) (h:i<n):((List.range i).filter p).length<((List.range n).filter p).length:=(Ae.1<|cR p hp h).1
theorem rD (p:Nat->Bool):∀{n j:Nat},j<((List.range n).filter p).length->∃i,i<n/\p i=true/\((List.range i).filter p).length=j
 |0,j,h=>by simp at h
 |n+1,j,h=>by
  rw[Ej,AR,Ak]at h;by_cases e:j<((List.range n).filter p).length
  ·obtain⟨i,h1,h2,h3⟩:=rD p e
   grind
  grind
theorem kI:(V7 K R).length=e8 K R K.length:=by unfold V7 e8;rw[Bm]
theorem T1 (hu:CC K R i=true) (hi:i<K.length):B8 (V7 K R) (e8 K R i:Nat)=Zi K R i/\e8 K R i<(V7 K R).length:=by
 have h:=rE (CC K R) hu hi;have h2:e8 K R i<(V7 K R).length:=by rw[kI];exact h
 refine⟨?_,h2⟩;unfold B8;rw[Au];unfold V7;rw[BX];have:=cR (CC K R) hu hi;rw[show e8 K R i=((List.range i).filter<|CC K R).length from rfl,this];rfl
theorem AAU (hj:j<(V7 K R).length):∃i,i<K.length/\CC K R i=true/\e8 K R i=j:=by
 rw[kI]at hj;exact rD (CC K R) hj
theorem AFE (hu:CC K R i=true) (h:i<j):e8 K R i<e8 K R j:=rE _ hu h
theorem ZP (i:Nat):(Zi K R i).Leaf=(B8 K (i:Int)).Leaf:=rfl
theorem wF (hK:CJ K=true) (hi:i<K.length):(Zi K R i).Kids.length=4:=by
 have:=(GH.1 hK i hi).1;unfold Zi
 grind
theorem wG (hl:(B8 K (i:Int)).Leaf=false) (hj:j<(B8 K (i:Int)).Kids.length):MU (Zi K R i) j=PN K R (MU (B8 K (i:Int)) j):=by
 unfold MU Zi
 grind
theorem UB (hl:(B8 K (i:Int)).Leaf=true):(Zi K R i).Kids=(B8 K (i:Int)).Kids:=by
 unfold Zi;rw[hl];rfl
theorem Zn (h:n<0):PN K R n=n:=by unfold PN;omega
theorem TG (n:Nat):PN K R (n:Int)=(e8 K R n:Int):=by rfl
theorem AEH (hK:CJ K=true) (hR:∀r∈R,D0 K r=true):CJ (V7 K R)=true:=by
 rw[GH];intro j hj;obtain⟨i,hi,hu,rfl⟩:=AAU hj;rw[(T1 hu hi).1];refine⟨wF hK hi,λn hn=>?_⟩;have h0:(0:Int)<=(i:Int):=by omega
 have h1:(i:Int)<(K.length:Int):=by omega
 obtain⟨h4,hk⟩:=FE hK h0 h1;rw[ZP]
 cases hl:(B8 K (i:Int)).Leaf with
 |true=>
  rw[UB hl]at hn;have:=(GH.1 hK i hi).2 n hn;rw[hl]at this;simpa[Rg]using this
 |false=>
  obtain⟨m,hm,b⟩:=A4 hn;rw[wF hK hi]at hm;have e:n=PN K R (MU (B8 K (i:Int)) m):=by
   rw[<-wG hl (by omega),<-b];unfold MU
   grind
  rcases Gw hK h0 h1 hl hm with k1|⟨k1,k2,k3⟩
  ·rw[k1,Zn<|by omega]at e;subst e;rfl
  obtain⟨c,hc⟩:∃c:Nat,MU (B8 K (i:Int)) m=(c:Int):=⟨_,(AS k1).symm⟩;rw[hc]at e k2 k3;rw[TG]at e;have a:=VJ (ZH hK hR hu hl) h0 (Ar (hk m hm).1) (by omega);rw[hc]at a;have d:c<K.length:=by omega
  have f:e8 K R c<e8 K R i:=AFE (by simpa using a) (by omega);subst e;simp only[Rg,Ad,CU,CK,Ag,A5];refine .inr ⟨by omega,?_⟩;rw[(T1 (by simpa using a) d).1,ZP];exact k3
theorem ABi (hR:∀r∈R,D0 K r=true) (hr:r∈R):D0 (V7 K R) (PN K R r)=true:=by
 rcases BY (hR r hr)with e|⟨h0,h1,hl⟩
 ·rw[e,Zn<|by omega];rfl
 obtain⟨c,rfl⟩:∃c:Nat,r=(c:Int):=⟨_,(AS h0).symm⟩;have a:=PQ (K:=K) hr h0;rw[Ba]at a;obtain⟨g1,g2⟩:=T1 a (by omega);rw[TG];unfold D0;rw[Ac (by omega),g1,ZP,hl];simp
theorem wS (hK:CJ K=true) (hR:∀r∈R,D0 K r=true) (hr:r∈R):EF (V7 K R) (PN K R r)=EF K r:=by
 unfold EF;apply CR;intro s hs;rw[Lx]at hs;unfold Sc
 rcases BY (hR r hr)with e|⟨h0,h1,hl⟩
 ·rw[e,Zn (by omega),AH (by omega),AH<|by omega]
 obtain⟨c,rfl⟩:∃c:Nat,r=(c:Int):=⟨_,(AS h0).symm⟩;have a:=PQ (K:=K) hr h0;rw[Ba]at a;obtain⟨g1,g2⟩:=T1 a (by omega);obtain⟨h4,hk⟩:=FE hK h0 h1;rw[TG,g1,wG hl<|by omega];simp only[AO (show¬((e8 K R c:Nat):Int)<0 by omega),AO<|show¬((c:Nat):Int)<0 by omega]
 rcases Gw hK h0 h1 hl (show s/4<4 by omega)with k1|⟨k1,k2,k3⟩
 ·rw[k1,Zn<|by omega];rfl
 obtain⟨d,hd⟩:∃d:Nat,MU (B8 K (c:Int)) (s/4)=(d:Int):=⟨_,(AS k1).symm⟩;have b:=VJ hr h0 (Ar (hk (s/4)<|by omega).1) k1;rw[hd]at b k2 k3;rw[hd,TG];simp only[AO (show¬((e8 K R d:Nat):Int)<0 by omega),AO<|show¬((d:Nat):Int)<0 by omega];rw[(T1 (by simpa using b)<|by omega).1];unfold MU;rw[UB k3]
theorem AC0 (hK:CJ K=true) (hR:∀r∈R,D0 K r=true) (hj:j<(V7 K R).length):CC (V7 K R) (R.map (PN K R)) j=true:=by
 obtain⟨i,hi,hu,rfl⟩:=AAU hj;have hu':=hu;unfold CC at hu';rw[Ds]at hu';obtain⟨r,hr,h⟩:=hu';unfold OO at h;simp only[Ag,CU,A5,Ds]at h;obtain⟨h0,h⟩:=h;unfold CC;rw[Ds];refine⟨PN K R r,A6.2 ⟨r,hr,rfl⟩,?_⟩;obtain⟨c,rfl⟩:∃c:Nat,r=(c:Int):=⟨_,(AS h0).symm⟩;rw[TG];unfold OO;simp only[Ag,CU,A5,Ds];refine⟨by omega,?_⟩
 rcases h with h|⟨n,hn,h⟩
 ·grind
 right
 rcases BY (hR _ hr)with e|⟨_,h1,hl⟩
 ·omega
 have a:=PQ (K:=K) hr h0;rw[Ba]at a;rw[(T1 a<|by omega).1];refine⟨(e8 K R i:Int),?_,rfl⟩;unfold Zi;rw[hl];simp only[Ad,A6];exact⟨n,hn,by rw[h,TG]⟩
theorem O9 {i:Int} (h0:0<=i) (h:i<(K.length:Int)):B8 (K++X) i=B8 K i:=by
 obtain⟨c,rfl⟩:∃c:Nat,i=(c:Int):=⟨_,(AS h0).symm⟩;unfold B8;rw[Au,Au,BP<|by omega]
theorem ABf (h:D0 K r=true):D0 (K++X) r=true:=by
 rcases BY h with e|⟨h0,h1,hl⟩
 ·rw[e];rfl
 unfold D0;rw[O9 h0 h1,hl,Ac<|by grind];simp
theorem wO (hK:CJ K=true) (h:D0 K r=true):EF (K++X) r=EF K r:=by
 unfold EF;apply CR;intro s hs;rw[Lx]at hs;unfold Sc
 rcases BY h with e|⟨h0,h1,hl⟩
 ·rw[e];rfl
 rw[O9 h0 h1]
 rcases Gw hK h0 h1 hl (show s/4<4 by omega)with k1|⟨k1,k2,k3⟩
 ·rw[k1];rfl
 rw[O9 k1<|by omega]
theorem iZ {s:Nat} (hK:CJ K=true) (hr:D0 K r=true) (hs:s<16) (n:Int):(Qi K r s n).length=4:=by
 unfold Qi;rw[Ki]
 rcases BY hr with e|⟨h0,h1,hl⟩
 ·grind
 rw[AO<|by omega]
 rcases Gw hK h0 h1 hl (show s/4<4 by omega)with k1|⟨k1,k2,k3⟩
 ·grind
 rw[AO<|by omega];exact(FE hK k1<|by omega).1
theorem oL (hK:CJ K=true) (hr:D0 K r=true) (s:Nat):(UT K r s).length=4:=by
 unfold UT;rw[Ki]
 rcases BY hr with e|⟨h0,h1,hl⟩
 ·grind
 rw[AO<|by omega];exact(FE hK h0 h1).1
theorem X7 {s:Nat}:B8 (Kc K r s n) (K.length:Int)=Bs.mk true (Qi K r s n):=by
 unfold B8 Kc;rw[Au,Bt<|Ay _,Nat.sub_self];rfl
theorem X6 {s:Nat}:B8 (Kc K r s n) ((K.length:Int)+1)=Bs.mk false (UT K r s):=by
 unfold B8 Kc;rw[show(K.length:Int)+1=((K.length+1:Nat):Int)from rfl,Au,Bt (by omega),show K.length+1-K.length=1 by omega];rfl
theorem AEQ {s:Nat} (hK:CJ K=true) (hr:D0 K r=true) (hs:s<16) (hn:0<=n):CJ (Kc K r s n)=true:=by
 rw[GH];intro j hj;have a:(Kc K r s n).length=K.length+2:=by unfold Kc;simp
 rw[a]at hj;by_cases h:j<K.length
 ·have hk:B8 (Kc K r s n) (j:Int)=B8 K (j:Int):=O9 (by omega) (by omega);rw[hk];obtain⟨h4,h5⟩:=GH.1 hK j h;refine⟨h4,λm hm=>?_⟩;have:=h5 m hm
  cases hl:(B8 K (j:Int)).Leaf with
  |true=>rw[hl]at this;exact this
  |false=>
   rw[hl]at this;simp only[Rg,Ad,CU,CK,Ag,A5]at this⊢
   rcases this with e|⟨e1,e2⟩
   ·exact .inl e
   refine .inr ⟨e1,?_⟩;rw[show B8 (Kc K r s n) m=B8 K m from O9 e1.1<|by omega];exact e2
 by_cases e:j=K.length
 ·subst e;rw[X7];refine⟨iZ hK hr hs n,λm hm=>?_⟩;simp only[Rg,Ai,A5]
  rcases CG hm with hm|hm
  ·rcases BY hr with e|⟨h0,h1,hl⟩
   ·grind
   rw[AO<|by omega]at hm
   rcases Gw hK h0 h1 hl (show s/4<4 by omega)with k1|⟨k1,k2,k3⟩
   ·grind
   rw[AO<|by omega]at hm;have hq:=GH.1 hK (MU (B8 K r)<|s/4).toNat (by omega);rw[AS k1,k3]at hq;have:=hq.2 m hm;simpa[Rg]using this
  omega
 have:j=K.length+1:=by omega
 subst this;rw[show((K.length+1:Nat):Int)=(K.length:Int)+1 from rfl,X6];refine⟨oL hK hr s,λm hm=>?_⟩;simp only[Rg,Ad,CU,CK,Ag,A5]
 rcases CG hm with hm|hm
 ·rcases BY hr with e|⟨h0,h1,hl⟩
  ·grind
  rw[AO<|by omega]at hm;obtain⟨q,hq,rfl⟩:=A4 hm;obtain⟨h4,hk⟩:=FE hK h0 h1;have e5:=(hk q<|by omega).1;rw[Ab hq]at e5
  injection e5 with e5
  rw[e5]
  rcases Gw hK h0 h1 hl (show q<4 by omega)with k1|⟨k1,k2,k3⟩
  ·exact .inl k1
  refine .inr ⟨by omega,?_⟩;rw[show B8 (Kc K r s n) (MU (B8 K r) q)=B8 K (MU (B8 K r) q)from O9 k1 (by omega)];exact k3
 refine .inr ⟨by omega,?_⟩;rw[hm,X7]
theorem zJ {s:Nat}:D0 (Kc K r s n) ((K.length:Int)+1)=true:=by
 unfold D0;rw[X6,Ac (by unfold Kc;simp;omega)];simp
theorem wX {s:Nat} (hK:CJ K=true) (hr:D0 K r=true) (hs:s<16):EF (Kc K r s n) ((K.length:Int)+1)=(EF K r).set s n:=by
 unfold EF;symm;apply Qa;intro t ht;unfold Sc;rw[X6];simp only[AO<|show¬((K.length:Int)+1)<0 by omega];have a:=oL hK hr s;have b:=iZ hK hr hs n;by_cases hq:t/4=s/4
 ·have e1:MU (Bs.mk false<|UT K r s) (t/4)=(K.length:Int):=by
   unfold MU UT;unfold UT at a
   grind
  rw[e1,AO (by omega),X7];have e2:MU (Bs.mk true<|Qi K r s n) (t %4)=if t %4=s %4 then n else(if r<0 then 0 else if MU (B8 K r) (s/4)<0 then 0 else MU (B8 K<|MU (B8 K r)<|s/4)<|t %4):=by
   unfold MU Qi;unfold Qi at b;rw[Gj];by_cases e:s %4=t %4
   ·grind
   by_cases c1:r<0
   ·grind
   unfold MU
   grind
  grind
 rw[AO<|show¬t=s by omega];have e1:MU (Bs.mk false<|UT K r s) (t/4)=if r<0 then-1 else MU (B8 K r) (t/4):=by
  unfold MU UT;rw[Gj,AO<|JI hq];by_cases c1:r<0
  ·rw[AH c1,AH c1];have:t/4<4:=by omega
   generalize t/4=q at this
   match q,this with
   |0,_=>rfl
   |1,_=>rfl
   |2,_=>rfl
   |3,_=>rfl
  grind
 rw[e1]
 rcases BY hr with e|⟨h0,h1,hl⟩
 ·rw[e];rfl
 simp only[AO<|show¬r<0 by omega]
 rcases Gw hK h0 h1 hl (show t/4<4 by omega)with k1|⟨k1,k2,k3⟩
 ·rw[k1];rfl
 rw[show B8 (Kc K r s n) (MU (B8 K r)<|t/4)=B8 K (MU (B8 K r)<|t/4)from O9 k1 (by omega)]
def Nj (n:Nat) (p:Nat->Bool):Nat:=((List.range n).filter p).length
theorem Mf (n:Nat) (p:Nat->Bool):Nj (n+1) p=Nj n p+(if p n=true then 1 else 0):=by
 unfold Nj;rw[Ej,AR,Ak]
 grind
theorem Z5 (p q:Nat->Bool):∀n,Nj n (λj=>p j||q j)<=Nj n p+Nj n q
 |0=>by simp[Nj]
 |n+1=>by
  have:=Z5 p q n;rw[Mf,Mf,Mf]
  grind
theorem cZ (x:Int):∀n,Nj n (λj=>decide (x=(j:Int)))<=1/\(x>=(n:Int)->Nj n (λj=>decide (x=(j:Int)))=0)
 |0=>by simp[Nj]
 |n+1=>by
  obtain⟨h1,h2⟩:=cZ x n;rw[Mf]
  grind
theorem ACo (l:List Int) (n:Nat):Nj n (λj=>l.any λx=>decide (x=(j:Int)))<=l.length:=by
 induction l with
 |nil=>simp[Nj]
 |cons x l ih=>
  simp only[List.any_cons,AA];have:=Z5 (λj=>decide<|x=(j:Int)) (λj=>l.any λx=>decide<|x=(j:Int)) n;have:=(cZ x n).1;omega
theorem ADN {n:Nat} {q:Nat->Bool} (h:∀j,j<n->p j=true->q j=true):Nj n p<=Nj n q:=by
 induction n with
 |zero=>simp[Nj]
 |succ n ih=>
  rw[Mf,Mf]
  grind
theorem rL {n:Nat} (h:∀j,j<n->p j=true):Nj n p=n:=by
 induction n with
 |zero=>rfl
 |succ n ih=>rw[Mf,AH (h n<|by omega),ih λj hj=>h j<|by omega]
theorem ADH (hK:CJ K=true) (hr:D0 K r=true) (n:Nat):Nj n (OO K r)<=5:=by
 have h1:=Z5 (λj=>decide<|r=(j:Int)) (λj=>(B8 K r).Kids.any λn=>decide<|n=(j:Int)) n;have h2:=(cZ r n).1;have h3:=ACo (B8 K r).Kids n
 have h4:Nj n (OO K r)<=Nj n (λj=>decide (r=(j:Int))||(B8 K r).Kids.any λn=>decide<|n=(j:Int)):=ADN λj _ h=>by
  unfold OO at h
  grind
 rcases BY hr with e|⟨h0,hl,_⟩
 ·have:Nj n (OO K r)=Nj n (λ_=>false):=by rw[e];rfl
  rw[this];unfold Nj;rw[Bq.2<|by simp];simp
 have:=(FE hK h0 hl).1;omega
theorem ZI (hK:CJ K=true) (n:Nat):∀(R:List Int),(∀r∈R,D0 K r=true)->Nj n (CC K R)<=5*R.length
 |[],_=>by simp[Nj,CC]
 |r::R,h=>by
  have h1:=ZI hK n R (λx hx=>h x<|by simp[hx]);have h2:=ADH hK (h r<|by simp) n;have h3:=Z5 (OO K r) (CC K R) n;have h4:Nj n (CC K (r::R))=Nj n (λj=>OO K r j||CC K R j):=rfl
  grind
theorem yZ (hK:CJ K=true) (hR:∀r∈R,D0 K r=true):(V7 K R).length<=5*R.length:=by
 rw[kI];exact ZI hK _ R hR
def Bu (s:Store):List Int:=s.Vols.map Vol.Root
structure StoreR (s:Store):Prop where
 len:s.Vols.length<=3
 ar:CJ s.Arena.Knots=true
 nx:1<=s.Next/\s.Next<=1000000000
 ids:∀v∈s.Vols,1<=v.Id/\v.Id<=9
 asc:(s.Vols.map Vol.Id).Pairwise (·<·)
 root:∀r∈Bu s,D0 s.Arena.Knots r=true
 lt:∀r∈Bu s,∀x∈EF s.Arena.Knots r,x<s.Next
 few:s.Arena.Knots.length<=1000
structure C5 (s:Store):Prop extends StoreR s where
 used:∀i,i<s.Arena.Knots.length->CC s.Arena.Knots (Bu s) i=true
theorem C5.small (h:C5 s):s.Arena.Knots.length<=15:=by
 have h1:=ZI h.ar s.Arena.Knots.length (Bu s) h.root;rw[rL h.used]at h1;have:(Bu s).length=s.Vols.length:=by unfold Bu;rw[Bm]
 have:=h.len;omega
def AM (s:Store):List (Int×List Int):=s.Vols.map λv=>(v.Id,EF s.Arena.Knots v.Root)
def L8 (s:Store):Store:=Store.mk (s.Vols.map λv=>Vol.mk v.Id<|PN s.Arena.Knots (Bu s) v.Root) (Arena.mk<|V7 s.Arena.Knots<|Bu s) s.Next
theorem QU (s:Store):Bu (L8 s)=(Bu s).map (PN s.Arena.Knots (Bu s)):=by
 unfold Bu L8;simp only[FI];rfl
theorem wE (h:StoreR s):C5 (L8 s):=by
 have b:(Bu s).length=s.Vols.length:=by unfold Bu;rw[Bm]
 refine⟨⟨by unfold L8;simpa using h.len,AEH h.ar h.root,h.nx,?_,?_,?_,?_,?_⟩,?_⟩
 ·intro v hv;unfold L8 at hv;simp only[A6]at hv;obtain⟨w,hw,rfl⟩:=hv;exact h.ids w hw
 ·have:((L8 s).Vols.map Vol.Id)=s.Vols.map Vol.Id:=by unfold L8;simp
  rw[this];exact h.asc
 ·intro r hr;rw[QU]at hr;obtain⟨q,hq,rfl⟩:=A6.1 hr;exact ABi h.root hq
 ·intro r hr;rw[QU]at hr;obtain⟨q,hq,rfl⟩:=A6.1 hr;have:=wS h.ar h.root hq;intro x hx;have a:x∈EF s.Arena.Knots q:=by rw[<-this];exact hx
  exact h.lt q hq x a
 ·have:=yZ h.ar h.root;have:=h.len;show(V7 s.Arena.Knots<|Bu s).length<=1000;omega
 intro i hi;rw[QU];exact AC0 h.ar h.root hi
theorem gN (h:StoreR s):AM (L8 s)=AM s:=by
 unfold AM;show(s.Vols.map λv=>Vol.mk v.Id<|PN s.Arena.Knots (Bu s) v.Root).map _=_;rw[FI];apply CR;intro v hv;have:=wS h.ar h.root<|show v.Root∈Bu s from A6.2 ⟨v,hv,rfl⟩;show(v.Id,EF (V7 s.Arena.Knots<|Bu s)<|PN s.Arena.Knots (Bu s) v.Root)=_;rw[this]
theorem UC (s:Store) (hv:s.Vols.length<=1048576):Or s=some (Bu s):=by
 unfold Or;obtain⟨b,h1,h2⟩:=AJ (body:=λq:List Int×Int=>Jz s q.1 q.2) (λ(o:List Int) i=>(o,i)) s.Vols.length (λi o=>o=(s.Vols.take i).map Vol.Root) (λb=>b=Bu s)
  (λo i hi ho=>by
   have hx:=Ab hi;simp only[Jz,DK hi,Au,hx,Aa];rw[Bi (by rw[ho];simp;omega),Aa,ad1]
   exact .inl ⟨_,rfl,by rw[ho,DR,hx,Cb];rfl⟩)
  (λo ho=>⟨o,by simp only[Jz,D1],by rw[ho,AK<|Ay _];rfl⟩) (s:=[]) rfl
 rw[h1,h2];rfl
theorem Jx (h:StoreR s):Hu s=some (L8 s):=by
 have hl:=h.len;have hf:=h.few;have c:(Bu s).length=s.Vols.length:=by unfold Bu;rw[Bm]
 unfold Hu;rw[UC s<|by omega];simp only[Aa];rw[aD _ (by omega) h.ar _ (by omega) h.root];rw[Mk<|by omega];simp only[Aa];have q:=O7 (body:=λq:Int×List Vol=>Jy ((Bu s).map<|PN s.Arena.Knots<|Bu s,V7 s.Arena.Knots<|Bu s) q.1 q.2) (λl i=>(i,l)) (λ_ v=>Vol.mk v.Id<|PN s.Arena.Knots (Bu s) v.Root) s.Vols
  (λi l x a b d=>by
   have hi:=(Ae.1 b).1;simp only[Jy,DK hi];have:gi ((Bu s).map<|PN s.Arena.Knots<|Bu s) (i:Int)=some (PN s.Arena.Knots (Bu s) x.Root):=by
    rw[Au,BX];unfold Bu
    grind
   rw[this,Au,b];simp only[Aa]
   rw[DJ,ad1])
  (λl a=>by simp only[Jy,Bh,a];rw[cF])
 rw[Je]at q;rw[q];rfl
theorem ZN (h:C5 s):L8 s=s:=by
 have d:∀i,i<=s.Arena.Knots.length->e8 s.Arena.Knots (Bu s) i=i:=λi hi=>rL λj hj=>h.used j<|by omega
 have b:∀n:Int,n<(s.Arena.Knots.length:Int)->PN s.Arena.Knots (Bu s) n=n:=λn hn=>by
  unfold PN
  grind
 have a:∀r∈Bu s,PN s.Arena.Knots (Bu s) r=r:=λr hr=>by
  rcases BY (h.root r hr)with e|⟨h0,h1,_⟩
  ·grind
  exact b r h1
 have c:V7 s.Arena.Knots (Bu s)=s.Arena.Knots:=by
  unfold V7;rw[GJ.2 λi hi=>h.used i<|by simpa using hi];apply BN;intro i;rw[BX];by_cases hi:i<s.Arena.Knots.length
  ·rw[List.getElem?_range hi,Ab hi];simp only[BD];congr 1;have h0:(0:Int)<=(i:Int):=by omega
   have h1:(i:Int)<(s.Arena.Knots.length:Int):=by omega
   unfold Zi
   cases hl:(B8 s.Arena.Knots (i:Int)).Leaf with
   |true=>
    simp only[Ai];rw[<-hl,O8 hi]
   |false=>
    simp only[Ad];have:(B8 s.Arena.Knots (i:Int)).Kids.map (PN s.Arena.Knots<|Bu s)=(B8 s.Arena.Knots (i:Int)).Kids:=by
     conv=>rhs;rw[<-VA (B8 s.Arena.Knots (i:Int)).Kids]
     apply CR;intro n hn;obtain⟨q,hq,rfl⟩:=A4 hn;obtain⟨h4,hk⟩:=FE h.ar h0 h1;have e5:=(hk q<|by omega).1;rw[Ab hq]at e5
     injection e5 with e5
     rw[e5]
     rcases Gw h.ar h0 h1 hl (show q<4 by omega)with k1|⟨k1,k2,k3⟩
     ·grind
     grind
    rw[this,<-hl,O8 hi]
  grind
 unfold L8;rw[c];have:(s.Vols.map λv=>Vol.mk v.Id<|PN s.Arena.Knots (Bu s) v.Root)=s.Vols:=by
  conv=>rhs;rw[<-VA s.Vols]
  apply CR;intro v hv;rw[a _<|A6.2 ⟨v,hv,rfl⟩];rfl
 rw[this]
theorem dD {s:Nat} (hs:s<16):Sc K r s∈EF K r:=A6.2 ⟨s,by simpa using hs,rfl⟩
theorem SF {l:List Int} {y:Int} (h:l.Pairwise (·<·)) (a:i<j) (hx:l[i]?=some x) (hy:l[j]?=some y):x<y:=by
 obtain⟨h1,rfl⟩:=Ae.1 hx;obtain⟨h2,rfl⟩:=Ae.1 hy;exact CF.1 h i j h1 h2 a
theorem S3 (h:C5 s):PW s=some true:=by
 have hl:=h.len;have hf:=h.few;have d:(Bu s).length=s.Vols.length:=by unfold Bu;rw[Bm]
 unfold PW;rw[Bh,cF,KQ _ (by omega),h.ar,Di,Ac h.nx];obtain⟨b,h1,h2⟩:=AJ (body:=λq:Int=>KI s q) (λ(_:Unit) i=>i) s.Vols.length (λ_ _=>True) (λb=>b= .inl ())
  (λ_ i hi _=>by
   have hx:=Ab hi;have hm:s.Vols[i]∈s.Vols:=Az hi;have hr:s.Vols[i].Root∈Bu s:=A6.2 ⟨_,hm,rfl⟩;simp only[KI,DK hi,Au,hx,Aa];rw[Di,Ac<|h.ids _ hm,N5 _ (by omega),h.root _ hr];simp only[Aa,An,Ad];have a:(cond (decide<|(i:Int)>0) ((gi s.Vols<|sb (i:Int) 1).bind λx2=>cond (decide<|x2.Id>=s.Vols[i].Id) (some true)<|some false) (some false):Option Bool)=some false:=by
    by_cases h0:i=0
    ·rw[cF]
    rw[cT,Co,show(i:Int)-1=((i-1:Nat):Int) by omega,Au,Ab<|by omega];simp only[Aa];have:=SF h.asc (show i-1<i by omega) (x:=s.Vols[i-1].Id) (y:=s.Vols[i].Id) (by grind) (by grind);rw[cF]
   rw[a];obtain⟨c,q1,q2⟩:=AJ (body:=λq:Int=>N6 s s.Vols[i] q) (λ(_:Unit) i=>i) 16 (λ_ _=>True) (λb=>b= .inl ())
    (λ_ k hk _=>by
     simp only[N6];rw[cT,Yi _ h.ar (h.root _ hr) hk];simp only[Aa];have:=h.lt _ hr _<|dD hk;rw[cF,ad1]
     simp)
    (λ_ _=>⟨_,by rfl,rfl⟩) (s:=()) trivial
   rw[q1,q2];rw[ad1]
   simp)
  (λ_ _=>⟨_,by simp only[KI,D1],rfl⟩) (s:=()) trivial
 rw[h1,h2];simp only[Aa,Cp];rw[UC s (by omega),Aa,aD _ (by omega) h.ar _ (by omega) h.root];have:V7 s.Arena.Knots (Bu s)=s.Arena.Knots:=by
  have:=ZN h;unfold L8 at this
  grind
 rw[this];simp
abbrev Vs:=List<|Int×List Int
def HK (l:Vs) (id:Int):Option (List Int):=(l.find? λp=>p.1==id).map Prod.snd
def bO (l:Vs) (id:Int) (a:List Int):Vs:=(l.filter λp=>decide<|p.1<id)++ [(id,a)]++l.filter λp=>decide<|p.1>id
def uW (l:Vs) (id:Int):Vs:=l.filter λp=>p.1 !=id
def eE (l:Vs) (id:Int) (s:Nat) (n:Int):Vs:=l.map λp=>if p.1=id then(p.1,p.2.set s n)else p
def GB (r:Cw):Bool:=decide (0<=r.Arg/\r.Arg<=1000000000)&&(bif r.Kind==1 then r.Vol==0&&r.Chunk==0 else decide (2<=r.Kind/\r.Kind<=5)&&decide (1<=r.Vol/\r.Vol<=9)&&(r.Kind==4||r.Chunk==0)&&
 (bif r.Kind==2 then decide (r.Arg<=9)else bif r.Kind==3 then r.Arg==0 else bif r.Kind==4 then decide (r.Arg<16)&&decide (1<=r.Chunk/\r.Chunk<=1000000000)else decide (r.Arg<16)))
def Oc:List Int:=List.replicate 16 0
def Dc (l:Vs) (nx:Int) (r:Cw):Option (Vs×Int):=if GB r=false then none else if r.Kind=1 then some ([],if r.Arg=0 then 1 else r.Arg) else if r.Kind=2 then
  if(0<r.Arg/\HK l r.Arg=none)\/HK l r.Vol≠none\/l.length=3 then none else some (bO l r.Vol (if 0<r.Arg then(HK l r.Arg).getD Oc else Oc),nx) else if HK l r.Vol=none\/r.Chunk=1000000000 then none else if r.Kind=3 then some (uW l r.Vol,nx) else some (eE l r.Vol r.Arg.toNat r.Chunk,max nx<|r.Chunk+1)
theorem NT (r:Cw):Ph r=some (GB r):=by
 unfold Ph GB;simp only[Di,Aa]
 cases decide (0<=r.Arg/\r.Arg<=1000000000)with
 |false=>rfl
 |true=>grind
theorem DU (s:Store) (hv:s.Vols.length<=1048576) (id:Int):(De s id=some (-1)/\∀v∈s.Vols,v.Id≠id)\/∃k:Nat,∃v,De s id=some (k:Int)/\s.Vols[k]?=some v/\v.Id=id/\∀j w,j<k->s.Vols[j]?=some w->w.Id≠id:=by
 unfold De;obtain⟨b,h1,h2⟩:=AJ (body:=λq:Int=>Hv s id q) (λ(_:Unit) i=>i) s.Vols.length (λi _=>∀j w,j<i->s.Vols[j]?=some w->w.Id≠id)
  (λb=>(b= .inl ()/\∀v∈s.Vols,v.Id≠id)\/∃k:Nat,∃v,b= .inr (k:Int)/\s.Vols[k]?=some v/\v.Id=id/\∀j w,j<k->s.Vols[j]?=some w->w.Id≠id)
  (λ_ i hi hs=>by
   have hx:=Ab hi;simp only[Hv,DK hi,Au,hx,Aa]
   cases e:(s.Vols[i].Id==id)with
   |true=>grind
   |false=>
    rw[ad1];refine .inl ⟨(),rfl,λj w hj hw=>?_⟩
    grind)
  (λ_ hs=>⟨_,by simp only[Hv,D1],.inl ⟨rfl,λv hv=>by
   obtain⟨j,hj,rfl⟩:=A4 hv
   exact hs j _ hj<|Ab hj⟩⟩) (s:=()) (λj w hj=>by omega)
 grind
theorem Jo {id:Int}:(∀v∈s.Vols,v.Id≠id)↔HK (AM s) id=none:=by
 unfold HK AM;simp
theorem ADT {w:Vol} (h:(s.Vols.map Vol.Id).Pairwise (·<·)) (hv:v∈s.Vols) (hw:w∈s.Vols) (e:v.Id=w.Id):v=w:=by
 obtain⟨i,hi,rfl⟩:=A4 hv;obtain⟨j,hj,rfl⟩:=A4 hw;have gi:(s.Vols.map Vol.Id)[i]?=some s.Vols[i].Id:=by grind
 have gj:(s.Vols.map Vol.Id)[j]?=some s.Vols[j].Id:=by grind
 rcases V9 i j with h1|h1|h1
 ·have:=SF h h1 gi gj;omega
 ·subst h1;rfl
 have:=SF h h1 gj gi;omega
theorem Mb (h:(s.Vols.map Vol.Id).Pairwise (·<·)) (hv:v∈s.Vols):HK (AM s) v.Id=some (EF s.Arena.Knots v.Root):=by
 unfold HK;have hm:(v.Id,EF s.Arena.Knots v.Root)∈AM s:=A6.2 ⟨v,hv,rfl⟩
 cases hf:(AM s).find? λp=>p.1==v.Id with
 |none=>grind
 |some p=>
  have h1:=List.find?_some hf;have h2:=List.mem_of_find?_eq_some hf;obtain⟨w,hw,rfl⟩:=A6.1 h2;have:w=v:=ADT h hw hv (by simpa using h1);rw[this];rfl
theorem IQ (s:Store):(AM s).length=s.Vols.length:=by unfold AM;rw[Bm]
theorem pO (K:Ks):EF K (-1)=Oc:=by rfl
theorem vC (s:Store) (p:Int->Bool) (t:Store) (hk:t.Arena=s.Arena) (hv:t.Vols=s.Vols.filter λv=>p v.Id):AM t=(AM s).filter λq=>p q.1:=by
 unfold AM;rw[hk,hv,List.filter_map];rfl
theorem TL {body:List Vol×Int->Option ((List Vol×Int)⊕List Vol)} (l:List Vol) (p:Vol->Bool) (o:List Vol) (hM:l.length+o.length<=1048576) (h1:∀(i:Nat) v (a:List Vol),l[i]?=some v->a.length<=1048576->body (a,(i:Int))=some (.inl (bif p v then a++ [v]else a,((i+1:Nat):Int)))) (h2:∀a,body (a,(l.length:Int))=some (.inr a)):
  Al body (o,0)=some (o++l.filter p):=by
 obtain⟨b,h3,h4⟩:=AJ (body:=body) (λ(q:List Vol) i=>(q,i)) l.length (λi q=>q=o++(l.take i).filter p) (λb=>b=o++l.filter p)
  (λq i hi hq=>by
   have hx:=Ab hi;refine .inl ⟨_,h1 i _ q hx ?_,?_⟩
   ·grind
   rw[hq,DR,hx,AR]
   grind)
  (λq hq=>⟨q,h2 q,by grind⟩) (s:=o) (by simp)
 rw[h3,h4]
theorem AB7 {R':List Int} (h:∀r∈R,r∈R') (hu:CC K R i=true):CC K R' i=true:=by
 unfold CC at hu⊢
 grind
theorem ZV {l:List Vol} (h:(l.map Vol.Id).Pairwise (·<·)) (v:Vol):(((l.filter λw=>decide (w.Id<v.Id))++ [v]++l.filter λw=>decide (w.Id>v.Id)).map Vol.Id).Pairwise (·<·):=by
 rw[K8]at h;rw[K8,AG,AQ];refine⟨h.filter _,?_,?_⟩
 ·grind
 grind
theorem gU (l:List Vol) (id:Int):(l.filter λw=>decide (w.Id<id)).length+(l.filter λw=>decide (w.Id>id)).length<=l.length:=by
 induction l with
 |nil=>simp
 |cons v l ih=>grind
def Mu (s:Store) (r:Cw) (o:Option (Store×Bool)):Prop:=match Dc (AM s) s.Next r with
 |none=>o=some (s,false)
 |some (l,nx)=>∃t,o=some (t,true)/\C5 t/\AM t=l/\t.Next=nx
theorem AAg {r:Cw} (h:C5 s) (hr:GB r=true) (hk:r.Kind=2):Mu s r (Gp s r):=by
 have hl:=h.len;have d:=Lq h.ar (by have:=h.few;omega);have b:=Gr s d (by omega);have hb:GB r=true:=hr;unfold GB at hr;rw[hk]at hr;simp at hr;unfold Mu Dc;rw[hb,hk];simp only[U5,Ke,Ch,show¬((2:Int)=1) by omega];unfold Gp;have root:(HK (AM s) r.Arg=none/\0<r.Arg/\(cond (decide<|r.Arg>0) ((De s r.Arg).bind λv1=>cond (decide<|v1<0) ((Ed s).bind λv2=>some<|.inr (v2,false))<|(gi s.Vols v1).bind λx1=>some<|.inl x1.Root) (some<|.inl<|-1):Option (Int⊕(Store×Bool)))=some (.inr (s,false)))\/
   (¬(0<r.Arg/\HK (AM s) r.Arg=none)/\∃q,D0 s.Arena.Knots q=true/\(q= -1\/q∈Bu s)/\EF s.Arena.Knots q=(if 0<r.Arg then(HK (AM s) r.Arg).getD Oc else Oc)/\(cond (decide<|r.Arg>0) ((De s r.Arg).bind λv1=>cond (decide<|v1<0) ((Ed s).bind λv2=>some<|.inr (v2,false))<|(gi s.Vols v1).bind λx1=>some<|.inl x1.Root) (some<|.inl<|-1):Option (Int⊕(Store×Bool)))=some (.inl q)):=by
  by_cases h0:0<r.Arg
  ·rw[Ac (by omega:r.Arg>0)]
   rcases DU s (by omega) r.Arg with⟨h1,h2⟩|⟨k,v,h1,h2,h3,_⟩
   ·left;rw[h1,b];exact⟨Jo.1 h2,h0,rfl⟩
   right;rw[h1];have hm:=Ar h2;have hg:=Mb h.asc hm;refine⟨λhh=>(by grind),v.Root,h.root _<|A6.2 ⟨v,hm,rfl⟩,.inr<|A6.2 ⟨v,hm,rfl⟩,?_,?_⟩
   ·grind
   simp only[Aa];rw[cF,Au,h2];rfl
  right;rw[Af (by omega:¬r.Arg>0),AO h0];exact⟨λhh=>h0 hh.1,-1,rfl,.inl rfl,pO _,rfl⟩
 rcases root with⟨g1,g2,g3⟩|⟨g1,q,g2,g3,g4,g5⟩
 ·grind
 rw[g5];simp only[Aa,Cp]
 rcases DU s (by omega) r.Vol with⟨h1,h2⟩|⟨k,v,h1,h2,h3,_⟩
 ·rw[h1];rw[Aa,cF,Bh];have j:HK (AM s) r.Vol=none:=Jo.1 h2;by_cases h3:s.Vols.length=3
  ·rw[h3,AH<|.inr<|.inr<|by rw[IQ,h3]]
   grind
  have e3:((s.Vols.length:Int)==3)=false:=by simp;omega
  rw[e3,AO (by
   rintro(hh|hh|hh)
   ·exact g1 hh
   ·exact hh j
   rw[IQ]at hh;exact h3 hh)]
  rw[b];have k1:=TL (body:=λq:List Vol×Int=>Hn s r q.1 q.2) s.Vols (λv=>decide<|v.Id<r.Vol) [] (by simp;omega)
   (λi v c hv ho=>by
    have hi:=(Ae.1 hv).1;simp only[Hn,DK hi,Au,hv,Aa];rw[ad1]
    cases decide (v.Id<r.Vol)with
    |true=>rw[Bi (by simp;omega)];rfl
    |false=>rfl)
   (λc=>by simp only[Hn,D1])
  rw[A3]at k1;rw[k1];simp only[Aa];have l:=gU s.Vols r.Vol;rw[Bi (by simp;omega)];simp only[Aa];have k2:=TL (body:=λq:List Vol×Int=>Hm s r q.1 q.2) s.Vols (λv=>decide<|v.Id>r.Vol) ((s.Vols.filter λv=>decide<|v.Id<r.Vol)++ [Vol.mk r.Vol q]) (by simp;omega)
   (λi v c hv ho=>by
    have hi:=(Ae.1 hv).1;simp only[Hm,DK hi,Au,hv,Aa];rw[ad1]
    cases decide (v.Id>r.Vol)with
    |true=>rw[Bi (by simp;omega)];rfl
    |false=>rfl)
   (λc=>by simp only[Hm,D1])
  rw[k2];have f:((s.Vols.filter λv=>decide<|v.Id<r.Vol)++ [Vol.mk r.Vol q]++s.Vols.filter λv=>decide<|v.Id>r.Vol).length<=3:=by grind
  have g:∀x∈Bu s,x∈(Bu<|Store.mk ((s.Vols.filter λv=>decide<|v.Id<r.Vol)++ [Vol.mk r.Vol q]++s.Vols.filter λv=>decide<|v.Id>r.Vol) s.Arena s.Next):=by
   intro x hx;obtain⟨v,hv,rfl⟩:=A6.1 hx;refine A6.2 ⟨v,?_,rfl⟩
   grind
  have a:∀x∈(Bu<|Store.mk ((s.Vols.filter λv=>decide<|v.Id<r.Vol)++ [Vol.mk r.Vol q]++s.Vols.filter λv=>decide<|v.Id>r.Vol) s.Arena s.Next),x= -1\/x∈Bu s:=by
   intro x hx;obtain⟨v,hv,rfl⟩:=A6.1 hx;simp only[Ao,AX,Bk]at hv
   rcases hv with(hv|rfl)|hv
   ·exact .inr<|A6.2 ⟨v,hv.1,rfl⟩
   ·exact g3
   exact .inr<|A6.2 ⟨v,hv.1,rfl⟩
  refine⟨_,rfl,⟨⟨f,h.ar,h.nx,?_,ZV h.asc<|Vol.mk r.Vol q,?_,?_,h.few⟩,?_⟩,?_,rfl⟩
  ·intro v hv;simp only[Ao,AX,Bk]at hv
   rcases hv with(hv|rfl)|hv
   ·exact h.ids v hv.1
   ·grind
   exact h.ids v hv.1
  ·intro x hx
   rcases a x hx with e|e
   ·rw[e];rfl
   exact h.root x e
  ·intro x hx
   rcases a x hx with e|e
   ·intro y hy;rw[e]at hy;rw[pO]at hy;have:=Dr hy;have:=h.nx
    grind
   exact h.lt x e
  ·intro i hi;exact AB7 g<|h.used i hi
  rw[<-g4];unfold bO AM;simp only[Cb,CL,vQ,List.filter_map];rfl
 rw[h1];have hg:=Mb h.asc<|Ar h2
 grind
theorem PK {f:α->Int} {v:α} (h:(l.map f).Pairwise (·<·)) (hv:l[k]?=some v):l.take k++l.drop (k+1)=l.filter λw=>f w !=f v:=by
 rw[K8]at h;have hk:=(Ae.1 hv).1;have e:l=l.take k++v::l.drop (k+1):=by
  have h2:=AE hk;rw[(Ae.1 hv).2]at h2;rw[<-h2,BF]
 rw[e,AQ]at h;obtain⟨h1,h2,h3⟩:=h;rw[C0]at h2
 conv=>rhs;rw[e]
 rw[AR,Ew<|by simp];congr 1
 ·symm;rw[GJ]
  grind
 symm;rw[GJ]
 grind
theorem ACj (h:C5 s) (id:Int):StoreR (Store.mk (s.Vols.filter λw=>w.Id !=id) s.Arena s.Next):=by
 have hl:=h.len;refine⟨?_,h.ar,h.nx,λv hv=>h.ids v (AX.1 hv).1,?_,?_,?_,h.few⟩
 ·grind
 ·have:=h.asc
  grind
 ·intro x hx;obtain⟨w,hw,rfl⟩:=A6.1 hx;exact h.root _<|A6.2 ⟨w,(AX.1 hw).1,rfl⟩
 intro x hx;obtain⟨w,hw,rfl⟩:=A6.1 hx;exact h.lt _<|A6.2 ⟨w,(AX.1 hw).1,rfl⟩
theorem AEh {t:Nat} (h:C5 s) (h2:s.Vols[k]?=some v) (ht:t<16) (hn:0<=n) (e:n+1<=1000000000):StoreR (Store.mk (s.Vols.set k (Vol.mk v.Id ((s.Arena.Knots.length:Int)+1))) (Arena.mk (Kc s.Arena.Knots v.Root t n)) (max s.Next (n+1))):=by
 have hl:=h.len;have hm:=Ar h2;have a:=h.root _<|A6.2 ⟨v,hm,rfl⟩;have f:=h.small
 have b:∀w∈s.Vols.set k (Vol.mk v.Id<|(s.Arena.Knots.length:Int)+1),w∈s.Vols\/w=Vol.mk v.Id ((s.Arena.Knots.length:Int)+1):=λw hw=>CG hw
 refine⟨by simpa using hl,AEQ h.ar a ht hn,?_,?_,?_,?_,?_,?_⟩
 ·have:=h.nx
  grind
 ·intro w hw
  rcases b w hw with hw|rfl
  ·exact h.ids w hw
  exact h.ids v hm
 ·have:(s.Vols.set k<|Vol.mk v.Id<|(s.Arena.Knots.length:Int)+1).map Vol.Id=s.Vols.map Vol.Id:=by
   rw[List.map_set];apply BN
   grind
  rw[this];exact h.asc
 ·intro x hx;obtain⟨w,hw,rfl⟩:=A6.1 hx
  rcases b w hw with hw|rfl
  ·exact ABf<|h.root _<|A6.2 ⟨w,hw,rfl⟩
  exact zJ
 ·intro x hx y hy;obtain⟨w,hw,rfl⟩:=A6.1 hx;show y<max s.Next (n+1)
  rcases b w hw with hw|rfl
  ·have d:=h.root _<|A6.2 ⟨w,hw,rfl⟩;have c:y∈EF s.Arena.Knots w.Root:=by rw[<-wO (X:=[Bs.mk true<|Qi s.Arena.Knots v.Root t n,Bs.mk false<|UT s.Arena.Knots v.Root t]) h.ar d];exact hy
   have:=h.lt _ (A6.2 ⟨w,hw,rfl⟩) y c;omega
  have c:y∈(EF s.Arena.Knots v.Root).set t n:=by rw[<-wX (s:=t) (n:=n) h.ar a (by omega)];exact hy
  rcases CG c with c|rfl
  ·have:=h.lt _ (A6.2 ⟨v,hm,rfl⟩) y c;omega
  omega
 unfold Kc;simp;omega
theorem cV (h:C5 s) (r:Cw):Mu s r (TD s r):=by
 have hl:=h.len;have d:=Lq h.ar (by have:=h.few;omega);have a:=Gr s d (by omega);unfold TD;rw[S3 h,NT];simp only[Aa,An,Ad]
 cases hb:GB r with
 |false=>
  rw[a];unfold Mu Dc;rw[hb];rfl
 |true=>
  have hr:=hb;unfold GB at hr
  cases k1:(r.Kind==1)with
  |true=>
   have e1:r.Kind=1:=by simpa using k1
   rw[e1]at hr;simp at hr;unfold Mu Dc;rw[hb,e1];have:(cond (r.Arg==0) (some 1) (some r.Arg):Option Int)=some (if r.Arg=0 then 1 else r.Arg):=by grind
   rw[this];refine⟨_,rfl,⟨⟨by simp,rfl,?_,by simp,by simp,by simp[Bu],by simp[Bu],by simp⟩,by simp⟩,rfl,rfl⟩
   grind
  |false=>
   have n1:r.Kind≠1:=by simpa using k1
   rw[k1]at hr
   cases k2:(r.Kind==2)with
   |true=>
    have:=AAg h hb (by simpa using k2);have e:((Gp s r).bind λv4=>some (v4.1,v4.2))=Gp s r:=by cases Gp s r<;>rfl
    grind
   |false=>
    have n2:r.Kind≠2:=by simpa using k2
    unfold Mu Dc;rw[hb];simp only[U5,Ke,AO n1,AO n2]
    rcases DU s (by omega) r.Vol with⟨h1,h2⟩|⟨k,v,h1,h2,h3,_⟩
    ·rw[h1];simp only[Aa];rw[cT,AH<|.inl<|Jo.1 h2]
     grind
    rw[h1];simp only[Aa];rw[cF];simp only[Aa];have hm:=Ar h2;have g:=(Ae.1 h2).1;have hg:=Mb h.asc hm
    cases hc:(r.Chunk==1000000000)with
    |true=>grind
    |false=>
     have n:r.Chunk≠1000000000:=by simpa using hc
     rw[AO (by grind),a];simp only[Aa]
     cases k3:(r.Kind==3)with
     |true=>
      have e3:r.Kind=3:=by simpa using k3
      rw[AH e3];rw[Bh,ad1];have d1:dr s.Vols 0 (k:Int)=some (s.Vols.take k):=by
       unfold dr
       grind
      have d2:dr s.Vols ((k+1:Nat):Int) (s.Vols.length:Int)=some (s.Vols.drop<|k+1):=by
       unfold dr;rw[AH ⟨by omega,by omega,by omega⟩,Ba,Ba,AK<|by simp]
      rw[d1,d2];simp only[Aa];rw[Mk (by simp;omega)];simp only[Aa];rw[Bi (by simp;omega),PK h.asc h2,h3];simp only[Aa];have hR:=ACj h r.Vol;rw[Jx hR];refine⟨_,rfl,wE hR,?_,rfl⟩;rw[gN hR];exact vC s (λid=>id !=r.Vol) _ rfl rfl
     |false=>
      have n3:r.Kind≠3:=by simpa using k3
      rw[AO n3];have ha:0<=r.Arg/\r.Arg<16/\0<=r.Chunk/\r.Chunk<=1000000000:=by grind
      obtain⟨t,ht⟩:∃t:Nat,r.Arg=(t:Int):=⟨_,(AS ha.1).symm⟩;rw[Au,h2];simp only[Aa];have c:=h.root _<|A6.2 ⟨v,hm,rfl⟩;rw[ht,aF _ (by have:=h.few;omega) h.ar c (by omega) ha.2.2.1];simp only[Aa];rw[DJ];have hR:=AEh h h2 (show t<16 by omega) ha.2.2.1 (show r.Chunk+1<=1000000000 by omega);have f:AM (Store.mk (s.Vols.set k<|Vol.mk v.Id<|(s.Arena.Knots.length:Int)+1) (Arena.mk<|Kc s.Arena.Knots v.Root t r.Chunk)<|max s.Next<|r.Chunk+1)=eE (AM s) r.Vol t r.Chunk:=by
       unfold AM eE;simp only[FI];apply BN;intro j;rw[BX,BX,Gj];by_cases e:k=j
       ·subst e;rw[AH rfl,AH g,h2];simp only[BD,Function.comp];rw[AH h3,wX h.ar c<|by omega]
       rw[AO e]
       cases hj:s.Vols[j]? with
       |none=>rfl
       |some w=>
        have i:=Ar hj;have l:w.Id≠r.Vol:=by
         intro e2;have gi:(s.Vols.map Vol.Id)[k]?=some v.Id:=by grind
         have gj:(s.Vols.map Vol.Id)[j]?=some w.Id:=by grind
         rcases V9 k j with q|q|q
         ·have:=SF h.asc q gi gj;omega
         ·exact e q
         grind
        simp only[BD,Function.comp];rw[AO l];have:=wO (X:=[Bs.mk true<|Qi s.Arena.Knots v.Root t r.Chunk,Bs.mk false<|UT s.Arena.Knots v.Root t]) h.ar<|h.root _<|A6.2 ⟨w,i,rfl⟩;unfold Kc;rw[this]
      have m:∀b:Bool,b=decide (r.Chunk>=s.Next)->(cond b ((Hu<|Store.mk (s.Vols.set k<|Vol.mk v.Id<|(s.Arena.Knots.length:Int)+1) (Arena.mk<|Kc s.Arena.Knots v.Root t r.Chunk)<|ad r.Chunk 1).bind λv11=>some (v11,true))<|(Hu<|Store.mk (s.Vols.set k<|Vol.mk v.Id<|(s.Arena.Knots.length:Int)+1) (Arena.mk<|Kc s.Arena.Knots v.Root t r.Chunk) s.Next).bind λv12=>some (v12,true))=(Hu<|Store.mk (s.Vols.set k<|Vol.mk v.Id<|(s.Arena.Knots.length:Int)+1) (Arena.mk<|Kc s.Arena.Knots v.Root t r.Chunk)<|max s.Next<|r.Chunk+1).bind λv=>some (v,true):=by
       intro b hb;by_cases e:r.Chunk>=s.Next
       ·rw[hb,Ac e,Ai,Cy,show max s.Next (r.Chunk+1)=r.Chunk+1 by omega]
       grind
      rw[m _ rfl,Jx hR];refine⟨_,rfl,wE hR,?_,rfl⟩;rw[gN hR,f,Ba]
theorem ABR (s:ByteArray) (f a:Int):Ou s f a=Al (λn:Int=>Gx s a f n) 0:=by
 show(Al (λn:Int=>Gx s a f n) 0).bind _=_;simp
theorem ABQ (s:ByteArray) (f a:Nat) (hf:f<a) (ha:a<=(L s).length) (hs:(L s).length<=64):∃k:Nat,Al (λn:Int=>Gx s (a:Int) (f:Int) n) 0=some (k:Int)/\k<=31/\a+k<=(L s).length:=by
 obtain⟨b,h1,k,rfl,h2,h3⟩:=AJ (body:=λn:Int=>Gx s (a:Int) (f:Int) n) (λ(_:Unit) i=>i) 31 (λi _=>a+i<=(L s).length) (λb=>∃k:Nat,b=(k:Int)/\k<=31/\a+k<=(L s).length)
  (λ_ i hi hs=>by
   simp only[Gx];rw[cT,Cy,Cy,B5];by_cases c:a+i<(L s).length
   ·rw[cT];have e1:((f:Int)+(i:Int))=((f+i:Nat):Int):=by omega
    have e2:((a:Int)+(i:Int))=((a+i:Nat):Int):=by omega
    rw[e1,e2,Fd s (by omega),Fd s c];simp only[Aa]
    cases((((L s)[f+i]).toNat:Int)==(((L s)[a+i]).toNat:Int))with
    |true=>
     rw[ad1];exact .inl ⟨(),rfl,by omega⟩
    |false=>grind
   grind)
  (λ_ hs=>by
   simp only[Gx];rw[cF]
   exact⟨_,rfl,31,rfl,by omega,hs⟩) (s:=()) (by omega)
 grind
theorem uE (s:ByteArray) (a:Nat) (ha:a<=(L s).length) (hs:(L s).length<=64):∃z b:Nat,TO s (a:Int)=some ((z:Int),(b:Int))/\Al (λq:Int×Int×Int=>E5 s (a:Int) q.1 q.2.1 q.2.2) (0,0,sb (a:Int) 1)=some ((z:Int),(b:Int))/\z<=31/\a+z<=(L s).length/\(z=0\/4<=z/\1<=b/\b<=a):=by
 have c:(λq:Int×Int×Int=>E5 s (a:Int) q.1 q.2.1 q.2.2)=λq:Int×Int×Int=>H5 s (a:Int) q.1 q.2.1 q.2.2:=by
  simp only[E5,H5,ABR]
 rw[c,Co];obtain⟨r,h1,z,b,rfl,h2,h3,h4⟩:=AJ (body:=λq:Int×Int×Int=>H5 s (a:Int) q.1 q.2.1 q.2.2) (λ(q:Nat×Nat) i=>((q.1:Int),(q.2:Int),(a:Int)-1-i)) a (λi q=>q.1<=31/\a+q.1<=(L s).length/\(q.1=0\/4<=q.1/\1<=q.2/\q.2<=a)) (λr=>∃z b:Nat,r=((z:Int),(b:Int))/\z<=31/\a+z<=(L s).length/\(z=0\/4<=z/\1<=b/\b<=a))
  (λq i hi hq=>by
   obtain⟨k,m1,m2,m3⟩:=ABQ s (a-1-i) a (by omega) ha hs;have e1:((a:Int)-1-(i:Int))=((a-1-i:Nat):Int):=by omega
   simp only[H5,e1];rw[Ac (by omega:(((a-1-i:Nat)):Int)>=0),Ai,m1,Aa,Co,Co];refine .inl ?_;have e2:(((a-1-i:Nat):Int)-1)=(a:Int)-1-((i+1:Nat):Int):=by omega
   have e3:((a:Int)-((a-1-i:Nat):Int))=((1+i:Nat):Int):=by omega
   rw[e2,e3];by_cases h4:4<=k
   ·rw[cT];by_cases h5:q.1<k
    ·rw[Ac (by omega:(k:Int)>(q.1:Int))];exact⟨(k,1+i),rfl,m2,m3,.inr ⟨h4,by omega,by omega⟩⟩
    grind
   grind)
  (λq hq=>by
   simp only[H5]
   grind) (s:=(0,0)) ⟨by omega,by omega,.inl rfl⟩
 have e0:(((0:Nat):Int),((0:Nat):Int),(a:Int)-1-0)=((0:Int),(0:Int),(a:Int)-1):=by simp
 simp only[e0]at h1;refine⟨z,b,?_,h1,h2,h3,h4⟩;unfold TO;rw[Co,h1];rfl
def VO (t:AW):Prop:=(t.Back=0/\t.Size=0/\1<=(L t.Text).length/\(L t.Text).length<=31)\/(1<=t.Back/\t.Back<=64/\4<=t.Size/\t.Size<=31/\L t.Text=[])
theorem Fs (l:List α) (x:α):gi (l++ [x]) (l.length:Int)=some x:=by
 rw[Au];simp
theorem Kl (l:List α) (x y:α):si (l++ [x]) (l.length:Int) y=l++ [y]:=by
 rw[DJ];simp
theorem r7 (s:ByteArray) (hs:(L s).length<=64):∃l,LM s=some l/\Rr s=some l/\l.length<=64/\∀t∈l,VO t:=by
 unfold LM Rr;obtain⟨l,h1,h2,h3,h4⟩:=TJ (body:=λq:List AW×Int=>C6 s q.1 q.2) (body':=λq:List AW×Int=>M0 s q.1 q.2) (λq=>(L s).length-q.2.toNat)
  (λq=>∃a:Nat,q.2=(a:Int)/\a<=(L s).length/\q.1.length<=a/\∀t∈q.1,VO t) (λl=>l.length<=64/\∀t∈l,VO t)
  (by
   rintro⟨f,at_⟩ ⟨a,ha,h1,h2,h3⟩;simp only at ha h2 h3;subst ha;simp only[C6,M0];rw[B5];by_cases i:a<(L s).length
   ·rw[Ac (by omega:(a:Int)<((L s).length:Int)),Ai,Ai];obtain⟨z,b,m1,m2,m3,m4,m5⟩:=uE s a h1 hs;rw[m1,m2];simp only[Aa]
    have c:∀x:AW,ap 32 f [x]=some (f++ [x]):=λx=>Bi<|by grind
    refine .inl ?_;by_cases hz:z=0
    ·subst hz;have esub:sub s (a:Int) (ad (a:Int) 1)=some (s.extract a<|a+1):=by rw[ad1];exact Fe s (by omega) (by omega)
     have elen:(L<|s.extract a<|a+1).length=1:=by rw[If];simp;omega
     rw[esub,ad1,Co (by rw[Bh];omega) (by rw[Bh];omega),Bh]
     have ecat:∀x:ByteArray,(L x).length<=31->Ih x (s.extract a<|a+1)=some (x++s.extract a (a+1)):=λx hx=>FQ _ _ (by rw[elen];omega)
     have e0:Ih (bs []) (s.extract a<|a+1)=some (s.extract a<|a+1):=by
      rw[ecat _ (by rw[El];simp)];rfl
     have enew:VO (AW.mk 0 0<|s.extract a<|a+1):= .inl ⟨rfl,rfl,by grind,by grind⟩
     have d:∀(o:List AW) (x:AW),(∀t∈o,VO t)->VO x->∀t∈o++ [x],VO t:=λo x ho hx t ht=>by grind
     have fin:∀o:List AW,o.length<=a+1->(∀t∈o,VO t)->(∃a':Nat,((a+1:Nat):Int)=(a':Int)/\a'<=(L s).length/\o.length<=a'/\∀t∈o,VO t)/\(L s).length-(((a+1:Nat)):Int).toNat<(L s).length-((a:Int)).toNat:=λo g h=>⟨⟨a+1,rfl,by omega,g,h⟩,by omega⟩
     rcases Ht f with rfl|⟨o,x,rfl⟩
     ·simp only[Ek,Int.ofNat_zero,Int.zero_sub];rw[Ac (by omega:(-1:Int)<0),Af (by omega:¬(-1:Int)>=0)];simp only[Ai,Ad,Aa,c];rw[show ad (-1) 1=(([]:List AW).length:Int)from rfl];simp only[Fs,Aa,e0,Kl];exact⟨_,rfl,rfl,fin _ (by simp)<|d _ _ (by simp) enew⟩
     rw[K6]at h2 h3 c⊢;simp only[Ak,B7]at h2⊢;have ek:(((o.length+1:Nat):Int)-1)=(o.length:Int):=by omega
     rw[ek,Af (by omega:¬(o.length:Int)<0),Ac (by omega:(o.length:Int)>=0)];simp only[Ai,Ad,Fs,Aa];have hx:=h3 x (by simp);have e:=d (o++ [x]) _ h3 enew;have elast:ad (o.length:Int) 1=((o++ [x]).length:Int):=by rw[ad1];simp
     rcases hx with⟨x1,x2,x3,x4⟩|⟨x1,x2,x3,x4,x5⟩
     ·rw[x1];simp only[show((0:Int)==0)=true from rfl,Ai,show decide ((0:Int)>0)=false from rfl,Ad];rw[B5];by_cases h31:(L x.Text).length<31
      ·rw[Ac (by omega:((L x.Text).length:Int)<31),Af (by omega:¬((L x.Text).length:Int)>=31)];simp only[Ai,Ad,Aa,Fs,ecat _ x4,Kl];simp only[x1];refine⟨_,rfl,rfl,fin _ (by simp;omega)<|d _ _ (λt ht=>h3 t<|by simp[ht])<|.inl ⟨rfl,x2,?_,?_⟩⟩
       ·simp only;rw[DO,Ak,elen];omega
       simp only;rw[DO,Ak,elen];omega
      rw[Af (by omega:¬((L x.Text).length:Int)<31),Ac (by omega:((L x.Text).length:Int)>=31)];simp only[Ai,Ad,Aa,c,elast,Fs,e0,Kl];exact⟨_,rfl,rfl,fin _ (by simp;omega) e⟩
     have hb:(x.Back==0)=false:=by simp;omega
     rw[hb,Ac (by omega:x.Back>0)];simp only[Ai,Ad,Aa,c,elast,Fs,e0,Kl];exact⟨_,rfl,rfl,fin _ (by simp;omega) e⟩
    rw[Ac (by omega:(z:Int)>0),Ai,Ai,c];rw[Cy];refine⟨_,rfl,rfl,⟨a+z,by simp,by omega,by simp;omega,?_⟩,by simp only;omega⟩;intro t ht
    rcases Ao.1 ht with ht|ht
    ·exact h3 t ht
    rw[Bk]at ht;subst ht;refine .inr ⟨?_,?_,?_,?_,by rfl⟩<;>simp only<;>omega
   grind) ((L s).length) ([],0) (by simp) ⟨0,rfl,by omega,by simp,by simp⟩
 grind
theorem VQ (l m:List Int):L (Ff (l++m))=L (Ff l)++L (Ff m):=by rw[Mm,Mm,Mm,Cb]
theorem Oi (l:List Int):(L (Ff l)).length=l.length:=by rw[Mm,Bm]
theorem AAW (b:ByteArray):L (Ff (tF b))=L b:=by
 rw[Mm,tF,FI];have:((λn:Int=>UInt8.ofNat n.toNat)∘λc:UInt8=>(c.toNat:Int))=id:=by
  funext c;simp
 rw[this,VA];rfl
theorem ACx (l:List Int) (b:ByteArray):aps l b=ap 1 l (tF b):=by
 have:(tF b).length=b.size:=by simp[tF]
 unfold aps ap
 grind
theorem kQ (b:ByteArray):(tF b).length=(L b).length:=by simp[tF,L]
theorem YN (s:ByteArray):∃z ok,EW s=some (z,ok)/\Ma s=some (z,ok)/\(ok=false->z=bs [])/\(ok=true->(L s).length<=64/\((L z)[0]?=some 122\/(L z)[0]?=some 114)):=by
 unfold EW Ma;rw[B5];by_cases hs:(L s).length<=64
 ·rw[Af (by omega:¬((L s).length:Int)>64),Ad,Ad];obtain⟨l,t1,t2,t3,t4⟩:=r7 s hs;rw[t1,t2];simp only[Aa];obtain⟨z,v,h1,h2,rfl,h3,h4⟩:=iW (body:=λq:ByteArray×Int=>Fp l q.1 q.2) (body':=λq:List Int×Int=>JB l q.1 q.2) (λv i=>(Ff v,i)) (λv i=>(v,i)) l.length (λi v=>v.length<=1+33*i/\(L<|Ff v)[0]?=some 122) (λz v=>z=Ff v/\v.length<=4000/\(L<|Ff v)[0]?=some 122)
   (λv i hi hv=>by
    have hg:l[i]?=some l[i]:=Ab hi;have ht:=t4 _<|Az hi;refine .inl ?_;simp only[Fp,JB,I9,Ac hi,Ai,Au,hg,Aa]
    have b:∀(a:ByteArray) (m:List Int),(L a).length<=4000->m.length<=2->Ih a (Ff m)=some (a++Ff m):=λa m h1 h2=>FQ _ _ (by rw[Oi];omega)
    have h0:∀m:List Int,(L<|Ff<|v++m)[0]?=some 122:=λm=>by
     rw[VQ,BP]
     ·exact hv.2
     grind
    rcases ht with⟨x1,x2,x3,x4⟩|⟨x1,x2,x3,x4,x5⟩
    ·rw[x1];simp only[show((0:Int)==0)=true from rfl,Ai,show decide ((0:Int)>0)=false from rfl,Ad];rw[b _ _ (by rw[Oi];omega) (by simp),Bi<|by grind];simp only[Aa];rw[FQ _ _ (by rw[DO,Ak,Oi,Oi];grind),ACx,Bi (by rw[kQ];grind)];simp only[Aa];rw[ad1<|by omega];refine⟨v++([IntKind.u8.wrap<|FL l[i].Text]++tF l[i].Text),?_,by simp,?_,h0 _⟩
     ·congr 4;apply JM;rw[DO,DO,VQ,VQ,AAW,AG]
     simp only[Ak,B7,kQ];omega
    have hb:(l[i].Back==0)=false:=by simp;omega
    rw[hb,Ac (by omega:l[i].Back>0)];simp only[Ai,Ad];rw[b _ _ (by rw[Oi];omega) (by simp),Bi<|by grind];simp only[Aa];rw[ad1<|by omega];refine⟨v++ [IntKind.u8.wrap<|ad 128 l[i].Size,IntKind.u8.wrap l[i].Back],?_,rfl,?_,h0 _⟩
    ·congr 4;apply JM;rw[DO,VQ]
    grind)
   (λv hv=>⟨_,_,by simp only[Fp,I9,EQ,GN,Ad],by simp only[JB,I9,EQ,GN,Ad],rfl,by omega,hv.2⟩) (s:=[122]) ⟨by simp,by rw[Mm];rfl⟩
  have e0:(Ff [122],(0:Int))=(bs [122],(0:Int)):=by rfl
  simp only[e0]at h1;rw[h1,h2];simp only[Aa];rw[B5,Oi,Bh,Cy (by omega)<|by omega];by_cases hc:((L s).length:Int)+1<=(v.length:Int)
  ·rw[Ac hc,Ai,FQ _ _ (by rw[El];grind)];refine⟨_,true,rfl,rfl,by simp,λ_=>⟨hs,.inr ?_⟩⟩;rfl
  rw[Af hc,Ad]
  grind
 rw[Ac (by omega:((L s).length:Int)>64),Ai,Ai];simp
def So (t:AW):Prop:=(t.Back=0/\t.Size=0/\1<=(L t.Text).length/\(L t.Text).length<=31)\/(t.Back≠0/\1<=t.Size/\t.Size<=31/\L t.Text=[])
theorem nW:Qr=FY:=by
 funext l;unfold Qr FY;have hb:NE l=DY l:=by
  funext out y;unfold NE DY
  cases decide (y<ln l)with
  |false=>rfl
  |true=>
   cases gi l y with
   |none=>rfl
   |some t=>
    simp only[Aa,cU,Qk,ACx]
    have h2:(λs:List Int×Int=>Rx t s.1 s.2)=λs:List Int×Int=>DX t s.1 s.2:=rfl
    grind
 rw[hb]
theorem RR (l:List AW) (hl:l.length<=1048576):∃p ok,FY l=some (p,ok)/\(ok=true->∀t∈l,So t):=by
 unfold FY;obtain⟨r,h1,h2⟩:=AJ (body:=λq:List Int×Int=>DY l q.1 q.2) (λ(o:List Int) i=>(o,i)) l.length (λi o=>o.length<=64/\∀(j:Nat) t,j<i->l[j]?=some t->So t) (λr=>(∃o,r= .inl o/\∀t∈l,So t)\/r= .inr (bs [],false))
  (λo i hi ho=>by
   have hg:l[i]?=some l[i]:=Ab hi;simp only[DY,DK hi,Au,hg,Aa,Qk];have good:∀(o':List Int),So l[i]->(∃s',(some (.inl o':(List Int)⊕(List Int×Int)⊕(List Int)⊕(ByteArray×Bool))).bind (Sum.elim (λj1=>cond (decide<|(ln j1)>64) (some<|.inr<|.inr (bs [],false))<|some<|.inl (j1,ad (i:Int) 1)) some)=some (.inl (s',((i+1:Nat):Int)))/\s'.length<=64/\∀(j:Nat) t,j<i+1->l[j]?=some t->So t)\/∃b,(some (.inl o':(List Int)⊕(List Int×Int)⊕(List Int)⊕(ByteArray×Bool))).bind (Sum.elim (λj1=>cond (decide<|(ln j1)>64) (some<|.inr<|.inr (bs [],false))<|some<|.inl (j1,ad (i:Int) 1)) some)=some (.inr b)/\((∃o,b= .inl o/\∀t∈l,So t)\/b= .inr (bs [],false)):=by
    intro o' ht;simp only[Aa,Cp];by_cases h64:o'.length<=64
    ·rw[Af (by rw[Bh];omega),Ad,ad1]
     grind
    rw[Ac (by rw[Bh];omega),Ai];simp
   by_cases hb:l[i].Back=0
   ·rw[hb];rw[B5];by_cases hx:(1<=(L l[i].Text).length/\(L l[i].Text).length<=31)/\l[i].Size=0
    ·obtain⟨⟨c,d⟩,a⟩:=hx;rw[Ac (by omega:(1:Int)<=((L l[i].Text).length:Int)),Ac (by omega:((L l[i].Text).length:Int)<=31),a];rw[Bi (by rw[kQ];omega)];exact good _<|.inl ⟨hb,a,c,d⟩
    grind
   have hb':(l[i].Back==0)=false:=by simpa using hb
   rw[hb'];rw[Bh,RV,El];by_cases hx:(1<=l[i].Back/\l[i].Back<=(o.length:Int))/\(1<=l[i].Size/\l[i].Size<=31)/\L l[i].Text=[]
   ·obtain⟨⟨y1,y2⟩,⟨y3,y4⟩,y5⟩:=hx;rw[Ac y1,Ac y2,Ac y3,Ac y4,Ac y5];obtain⟨o',q1,q2⟩:=AJ (body:=λq:List Int×Int=>DX l[i] q.1 q.2) (λ(o:List Int) k=>(o,k)) l[i].Size.toNat (λk u=>u.length=o.length+k) (λ_=>True)
     (λu k hk hu=>by
      simp only[DX];rw[cT,Co (by rw[Bh];omega) (by rw[Bh];omega),Bh,Ln (by omega) (by omega),Aa,Bi (by grind),ad1]
      grind)
     (λu hu=>⟨u,by simp only[DX];rw[cF],trivial⟩) (s:=o) (by omega)
    rw[q1];exact good _<|.inr ⟨hb,y3,y4,y5⟩
   grind)
  (λo ho=>⟨_,by simp only[DY,D1],.inl ⟨o,rfl,λt ht=>by
   obtain⟨j,hj,rfl⟩:=A4 ht
   simp_all⟩⟩) (s:=[]) ⟨by simp,λj t hj=>by omega⟩
 grind
theorem Zd (c:UInt8):IntKind.i64.wrap (c.toNat:Int)=(c.toNat:Int):=OM (by omega) (by have:=c.toNat_lt;omega)
theorem gK (rem:ByteArray) (a:List AW) (h:0<(L rem).length) (ho:a.length<=1048576) (hr:(L rem).length<=1048576):
  DB rem a=some (if 128<=(L rem)[0].toNat/\2<=(L rem).length then .inl (rem.extract 2 (L rem).length,a++ [AW.mk (((L rem)[1]?.getD 0).toNat:Int) (((L rem)[0].toNat:Int)-128) (bs [])])
   else if(L rem)[0].toNat<128/\(L rem)[0].toNat<(L rem).length then .inl (rem.extract (1+(L rem)[0].toNat) (L rem).length,a++ [AW.mk 0 0 (rem.extract 1 (1+(L rem)[0].toNat))])
   else .inr (.inr ([],false))):=by
 have d:=(L rem)[0].toNat_lt;have b:seq rem (bs [])=false:=by
  rw[RV,El,Gh]
  grind
 have c:∀x:AW,ap 32 a [x]=some (a++ [x]):=λx=>Bi<|by grind
 unfold DB;rw[b];have s0:sx rem 0=some ((L rem)[0].toNat:Int):=Fd rem (i:=0) h;simp only[Cj,Ai,s0,Aa,Zd,B5,c];have c0:ad 1 ((L rem)[0].toNat:Int)=((1+(L rem)[0].toNat:Nat):Int):=by rw[Cy];omega
 rw[c0];by_cases h1:128<=(L rem)[0].toNat
 ·rw[Ac (by omega:((L rem)[0].toNat:Int)>=128),Af (by omega:¬((L rem)[0].toNat:Int)<128)];simp only[Ai,Ad,Aa];by_cases h2:2<=(L rem).length
  ·have s1:sx rem 1=some ((L rem)[1].toNat:Int):=Fd rem (i:=1) (by omega);have s2:sub rem 2 ((L rem).length:Int)=some (rem.extract 2 (L rem).length):=Fe rem (i:=2) h2<|Ay _;rw[s1,s2,Co];simp only[Aa,Zd]
   grind
  grind
 rw[Af (by omega:¬((L rem)[0].toNat:Int)>=128),Ac (by omega:((L rem)[0].toNat:Int)<128),AO λe=>h1 e.1];simp only[Ai,Ad,Aa];by_cases h2:(L rem)[0].toNat<(L rem).length
 ·have s1:sub rem 1 ((1+(L rem)[0].toNat:Nat):Int)=some (rem.extract 1<|1+(L rem)[0].toNat):=Fe rem (i:=1) (by omega) (by omega);have s2:sub rem ((1+(L rem)[0].toNat:Nat):Int) ((L rem).length:Int)=some (rem.extract (1+(L rem)[0].toNat) (L rem).length):=Fe rem (by omega) (Ay _)
  grind
 grind
theorem ZL (rem:ByteArray) (a:List AW) (h:(L rem).length=0):DB rem a=some (.inr (.inl a)):=by
 have b:seq rem (bs [])=true:=by
  rw[RV,El,A5]
  grind
 unfold DB;rw[b];rfl
theorem gJ (t:ByteArray) (b:List AW) (a:Nat) (h:a<(L t).length) (ho:b.length<=1048576) (hr:(L t).length<=1048576):
  BW t b (a:Int)=some (if 128<(L t)[a].toNat then(if a+2<=(L t).length then .inl (b++ [AW.mk (((L t)[a+1]?.getD 0).toNat:Int) (((L t)[a].toNat:Int)-128) (bs [])],((a+2:Nat):Int))else .inr (.inr (b,false)))
   else if a+1+(L t)[a].toNat<=(L t).length then .inl (b++ [AW.mk 0 0 (t.extract (a+1) (a+1+(L t)[a].toNat))],((a+1+(L t)[a].toNat:Nat):Int))
   else .inr (.inr (b,false))):=by
 have d:=(L t)[a].toNat_lt
 have c:∀x:AW,ap 32 b [x]=some (b++ [x]):=λx=>Bi<|by grind
 have c2:ad (a:Int) 2=((a+2:Nat):Int):=by rw[Cy];omega
 have c3:ad ((a+1:Nat):Int) ((L t)[a].toNat:Int)=((a+1+(L t)[a].toNat:Nat):Int):=by rw[Cy];omega
 unfold BW;rw[B5,cT,Fd t h];simp only[Aa,Zd,c];rw[c2,ad1,c3];by_cases h1:128<(L t)[a].toNat
 ·rw[cT,AH h1];by_cases h2:a+2<=(L t).length
  ·rw[cF,AH h2,Fd t (by omega:a+1<(L t).length),Co];simp only[Aa,Zd]
   grind
  grind
 rw[cF,AO h1];by_cases h2:a+1+(L t)[a].toNat<=(L t).length
 ·rw[Af (by omega:¬((a+1+(L t)[a].toNat:Nat):Int)>((L t).length:Int)),Ad,AH h2,Fe t (by omega) h2];rfl
 grind
theorem ZK (t:ByteArray) (b:List AW) (a:Nat) (h:(L t).length<=a):BW t b (a:Int)=some (.inr (.inl b)):=by
 unfold BW;rw[B5,cF]
theorem AAQ (rem:ByteArray) (a:List AW) (h:a.length+(L rem).length<=1048576):∃r,Al (λq:ByteArray×List AW=>DB q.1 q.2) (rem,a)=some r/\((∃l,r= .inl l/\l.length<=1048576/\∀t∈a,t∈l)\/r= .inr ([],false)):=by
 obtain⟨r,h1,_,h2⟩:=TJ (body:=λq:ByteArray×List AW=>DB q.1 q.2) (body':=λq:ByteArray×List AW=>DB q.1 q.2) (λq=>(L q.1).length) (λq=>q.2.length+(L q.1).length<=1048576/\∀t∈a,t∈q.2) (λr=>(∃l,r= .inl l/\l.length<=1048576/\∀t∈a,t∈l)\/r= .inr ([],false))
  (by
   rintro⟨rem,o⟩ ⟨hl,ho⟩;simp only at hl ho;simp only
   rcases Ux (L rem).length with h0|h0
   ·rw[ZL rem o h0]
    grind
   rw[gK rem o h0 (by omega)<|by omega];split
   ·refine .inl ⟨_,rfl,rfl,⟨?_,λt ht=>Bn _<|ho t ht⟩,?_⟩
    ·simp only[Ak,B7,If,B4,Dq];omega
    simp only[If,B4,Dq];omega
   split
   ·refine .inl ⟨_,rfl,rfl,⟨?_,λt ht=>Bn _<|ho t ht⟩,?_⟩
    ·simp only[Ak,B7,If,B4,Dq];omega
    simp only[If,B4,Dq];omega
   simp) _ (rem,a) (Ay _) ⟨h,λt ht=>ht⟩
 grind
theorem AAP (t:ByteArray) (b:List AW) (a:Nat) (ha:a<=(L t).length) (h:b.length<=a) (hr:(L t).length<=1048576):∃r,Al (λq:List AW×Int=>BW t q.1 q.2) (b,(a:Int))=some r/\((∃l,r= .inl l/\l.length<=1048576/\∀x∈b,x∈l)\/∃l,r= .inr (l,false)/\l.length<=1048576):=by
 obtain⟨r,h1,_,h2⟩:=TJ (body:=λq:List AW×Int=>BW t q.1 q.2) (body':=λq:List AW×Int=>BW t q.1 q.2) (λq=>(L t).length-q.2.toNat) (λq=>∃a:Nat,q.2=(a:Int)/\a<=(L t).length/\q.1.length<=a/\∀x∈b,x∈q.1) (λr=>(∃l,r= .inl l/\l.length<=1048576/\∀x∈b,x∈l)\/∃l,r= .inr (l,false)/\l.length<=1048576)
  (by
   rintro⟨o,at_⟩ ⟨a,ha,hl,hb,ho⟩;simp only at ha hb ho;subst ha;simp only
   rcases Ei a (L t).length with h0|h0
   ·rw[gJ t o a h0 (by omega) hr];split
    ·split
     ·refine .inl ⟨_,rfl,rfl,⟨a+2,rfl,by omega,by grind,λt ht=>Bn _<|ho t ht⟩,by simp only;omega⟩
     grind
    split
    ·refine .inl ⟨_,rfl,rfl,⟨_,rfl,by assumption,by grind,λt ht=>Bn _<|ho t ht⟩,by simp only;omega⟩
    grind
   rw[ZK t o a h0]
   grind) _ (b,(a:Int)) (Ay _) ⟨a,rfl,ha,h,λt ht=>ht⟩
 grind
theorem AAO (t:ByteArray) (hr:(L t).length<=1048576):∀(n a:Nat) (rem:ByteArray) (b:List AW),(L t).length-a<=n->a<=(L t).length->L rem=(L t).drop a->b.length<=a->
  ∃ri rs,Al (λq:ByteArray×List AW=>DB q.1 q.2) (rem,b)=some ri/\Al (λq:List AW×Int=>BW t q.1 q.2) (b,(a:Int))=some rs/\
   ((∃l,ri= .inl l/\rs= .inl l/\l.length<=1048576)\/((ri= .inr ([],false)\/∃l,ri= .inl l/\l.length<=1048576/\∃x∈l,¬So x)/\((∃l,rs= .inr (l,false)/\l.length<=1048576)\/∃l,rs= .inl l/\l.length<=1048576/\∃x∈l,¬So x))):=by
 intro n
 induction n with
 |zero=>
  intro a rem b h1 h2 h3 h4;have ha:a=(L t).length:=by omega
  have d:(L rem).length=0:=by rw[h3,ha];simp
  refine⟨_,_,by rw[Ax];simp only[ZL rem b d],by rw[Ax];simp only[ZK t b a<|by omega],.inl ⟨b,rfl,rfl,by omega⟩⟩
 |succ n ih=>
  intro a rem b h1 h2 h3 h4
  rcases Ei a (L t).length with h0|h0
  ·have m:(L rem).length=(L t).length-a:=by rw[h3];simp
   have f:0<(L rem).length:=by omega
   have h:(L rem)[0]=(L t)[a]:=by grind
   have i:(L rem)[1]?.getD 0=(L t)[a+1]?.getD 0:=by grind
   have c:=gK rem b f (by omega) (by omega);have g:=gJ t b a h0 (by omega) hr
   have e:∀k,L (rem.extract k (L rem).length)=(L t).drop (a+k):=λk=>by
    rw[If,h3,C9,AK]
    grind
   rw[h,i]at c
   rcases V9 (L t)[a].toNat 128 with hc|hc|hc
   ·rw[AO<|by omega]at c;by_cases hk:a+1+(L t)[a].toNat<=(L t).length
    ·obtain⟨ri,rs,q1,q2,q3⟩:=ih (a+1+(L t)[a].toNat) (rem.extract (1+(L t)[a].toNat) (L rem).length) (b++ [AW.mk 0 0<|t.extract (a+1)<|a+1+(L t)[a].toNat]) (by omega) hk (by grind) (by grind);have etx:rem.extract 1 (1+(L t)[a].toNat)=t.extract (a+1) (a+1+(L t)[a].toNat):=by
      apply JM;rw[If,If,h3,C9];simp
     refine⟨ri,rs,?_,?_,q3⟩
     ·rw[Ax]
      grind
     rw[Ax]
     grind
    exact⟨_,_,by rw[Ax];grind,by rw[Ax];grind,.inr ⟨.inl rfl,.inl ⟨b,rfl,by omega⟩⟩⟩
   ·
    have hI:∃ri,Al (λq:ByteArray×List AW=>DB q.1 q.2) (rem,b)=some ri/\(ri= .inr ([],false)\/∃l,ri= .inl l/\l.length<=1048576/\∃x∈l,¬So x):=by
     by_cases hk:2<=(L rem).length
     ·obtain⟨r,q1,q2⟩:=AAQ (rem.extract 2 (L rem).length) (b++ [AW.mk (((L t)[a+1]?.getD 0).toNat:Int) (((L t)[a].toNat:Int)-128)<|bs []]) (by grind);refine⟨r,by rw[Ax];grind,?_⟩
      rcases q2 with⟨l,rfl,q3,q4⟩|rfl
      ·refine .inr ⟨l,rfl,q3,_,q4 _<|BG _<|Bk.2 rfl,?_⟩;intro hk
       rcases hk with⟨_,_,k3,_⟩|⟨_,k2,_⟩
       ·simp only[El,Ek]at k3;omega
       grind
      exact .inl rfl
     exact⟨_,by rw[Ax];grind,.inl rfl⟩
    have hS:∃rs,Al (λq:List AW×Int=>BW t q.1 q.2) (b,(a:Int))=some rs/\((∃l,rs= .inr (l,false)/\l.length<=1048576)\/∃l,rs= .inl l/\l.length<=1048576/\∃x∈l,¬So x):=by
     by_cases hk:a+1+(L t)[a].toNat<=(L t).length
     ·obtain⟨r,q1,q2⟩:=AAP t (b++ [AW.mk 0 0<|t.extract (a+1)<|a+1+(L t)[a].toNat]) (a+1+(L t)[a].toNat) hk (by grind) hr;refine⟨r,by rw[Ax];grind,?_⟩
      rcases q2 with⟨l,rfl,q3,q4⟩|⟨l,rfl,q3⟩
      ·refine .inr ⟨l,rfl,q3,_,q4 _<|BG _<|Bk.2 rfl,?_⟩;intro j
       rcases j with⟨_,_,_,k4⟩|⟨k1,_⟩
       ·simp only[If,B4,Dq]at k4;omega
       exact k1 rfl
      grind
     exact⟨_,by rw[Ax];grind,.inl ⟨b,rfl,by omega⟩⟩
    obtain⟨ri,q1,q2⟩:=hI;obtain⟨rs,q3,q4⟩:=hS;exact⟨ri,rs,q1,q3,.inr ⟨q2,q4⟩⟩
   by_cases hk:a+2<=(L t).length
   ·obtain⟨ri,rs,q1,q2,q3⟩:=ih (a+2) (rem.extract 2 (L rem).length) (b++ [AW.mk (((L t)[a+1]?.getD 0).toNat:Int) (((L t)[a].toNat:Int)-128)<|bs []]) (by omega) hk (e 2) (by grind);exact⟨ri,rs,by rw[Ax];grind,by rw[Ax];grind,q3⟩
   exact⟨_,_,by rw[Ax];grind,by rw[Ax];grind,.inr ⟨.inl rfl,.inl ⟨b,rfl,by omega⟩⟩⟩
  have ha:a=(L t).length:=by omega
  have d:(L rem).length=0:=by rw[h3,ha];simp
  refine⟨_,_,by rw[Ax];simp only[ZL rem b d],by rw[Ax];simp only[ZK t b a<|by omega],.inl ⟨b,rfl,rfl,by omega⟩⟩
theorem ABu (t:ByteArray) (hr:(L t).length<=1048576):∃li oi ls os pi ki ps ks,Rj t=some (li,oi)/\Kp t=some (ls,os)/\Qr li=some (pi,ki)/\FY ls=some (ps,ks)/\((oi=os/\pi=ps/\ki=ks)\/((oi=false\/ki=false)/\(os=false\/ks=false))):=by
 obtain⟨ri,rs,q1,q2,q3⟩:=AAO t hr ((L t).length) 0 t [] (by omega) (by omega) (by simp) (by simp);have e0:(([]:List AW),((0:Nat):Int))=([],0):=rfl;simp only[e0]at q2;unfold Rj Kp;rw[q1,q2,nW];have none:∀l:List AW,l.length<=1048576->(∃x∈l,¬So x)->∃p,FY l=some (p,false):=by
  rintro l hl ⟨x,hx,hn⟩;obtain⟨p,ok,h1,h2⟩:=RR l hl
  cases ok with
  |false=>exact⟨p,h1⟩
  |true=>grind
 rcases q3 with⟨l,rfl,rfl,hl⟩|⟨hi,hs⟩
 ·obtain⟨p,ok,h1,_⟩:=RR l hl;exact⟨l,true,l,true,p,ok,p,ok,rfl,rfl,h1,h1,.inl ⟨rfl,rfl,rfl⟩⟩
 have hI:∃li oi pi ki,(some ri).bind (Sum.elim (λv1=>some (v1,true)) some)=some (li,oi)/\FY li=some (pi,ki)/\(oi=false\/ki=false):=by
  rcases hi with rfl|⟨l,rfl,hl,hb⟩
  ·obtain⟨p,ok,h1,_⟩:=RR [] (by simp)
   grind
  obtain⟨p,h1⟩:=none l hl hb;simp_all
 have hS:∃li oi pi ki,(some rs).bind (Sum.elim (λv1=>some (v1,true)) some)=some (li,oi)/\FY li=some (pi,ki)/\(oi=false\/ki=false):=by
  rcases hs with⟨l,rfl,hl⟩|⟨l,rfl,hl,hb⟩
  ·obtain⟨p,ok,h1,_⟩:=RR l hl
   grind
  grind
 obtain⟨li,oi,pi,ki,a1,a2,a3⟩:=hI;obtain⟨ls,os,ps,ks,b1,b2,b3⟩:=hS;exact⟨li,oi,ls,os,pi,ki,ps,ks,a1,b1,a2,b2,.inr ⟨a3,b3⟩⟩
theorem UM (t:ByteArray) (hr:(L t).length<=1048576):∃u ok,Gs t=some (u,ok)/\NC t=some (u,ok)/\(ok=false->u=bs [])/\(ok=true->(L u).length<=64):=by
 unfold Gs NC;rw[B5,RV,El];by_cases h0:L t=[]
 ·simp_all
 have a:0<(L t).length:=by grind
 have e1:(((L t).length:Int)==0)=false:=by simp;exact h0
 rw[e1,Af h0,Ad,Ad];have s1:sub t 1 ((L t).length:Int)=some (t.extract 1 (L t).length):=Fe t (i:=1) (by omega)<|Ay _;have s0:sx t 0=some ((L t)[0].toNat:Int):=Fd t (i:=0) a;rw[s1,s0];simp only[Aa];generalize hx:t.extract 1 (L t).length=x;have b:(L x).length<=1048576:=by rw[<-hx,If];simp;omega
 obtain⟨li,oi,ls,os,pi,ki,ps,ks,a1,a2,a3,a4,a5⟩:=ABu x b;rw[a1,a2];simp only[Aa];rw[a3,a4];simp only[Aa];have back:∀j:ByteArray,∃u ok,((EW j).bind λv3=>(cond (!v3.2) (some true) (some<|!(seq v3.1 t)):Option Bool).bind λj2=>cond j2 (some (bs [],false)) (some (j,true)):Option (ByteArray×Bool))=some (u,ok)/\
   ((Ma j).bind λv3=>(cond (!v3.2) (some true) (some<|!(seq v3.1 t)):Option Bool).bind λj2=>cond j2 (some (bs [],false)) (some (j,true)):Option (ByteArray×Bool))=some (u,ok)/\(ok=false->u=bs [])/\(ok=true->(L u).length<=64/\((L t)[0].toNat=122\/(L t)[0].toNat=114)):=by
  intro j;obtain⟨z,ok,p1,p2,p3,p4⟩:=YN j;rw[p1,p2];simp only[Aa]
  cases ok with
  |false=>simp
  |true=>
   simp only[An,Ad,Aa]
   cases hz:seq z t with
   |false=>simp
   |true=>
    have c:z=t:=by rw[JZ,A5]at hz;exact hz
    obtain⟨p5,p6⟩:=p4 rfl;refine⟨_,true,rfl,rfl,by simp,λ_=>⟨p5,?_⟩⟩;rw[c,Ab a]at p6
    rcases p6 with p6|p6
    ·simp_all
    simp_all
 by_cases h122:(L t)[0].toNat=122
 ·have c1:((((L t)[0].toNat:Nat):Int)==122)=true:=by simp[h122]
  have c2:((((L t)[0].toNat:Nat):Int) !=114)=true:=by simp[h122]
  rw[c1,c2];simp only[Ai]
  rcases a5 with⟨rfl,rfl,rfl⟩|⟨hi,hs⟩
  ·cases oi with
   |false=>simp
   |true=>
    cases ki with
    |false=>simp
    |true=>simp_all
  grind
 have c1:((((L t)[0].toNat:Nat):Int)==122)=false:=by simp;omega
 rw[c1];simp only[Ad,Aa,Cp];by_cases h114:(L t)[0].toNat=114
 ·simp_all
 have c2:((((L t)[0].toNat:Nat):Int) !=114)=true:=by simp;omega
 rw[c2];simp only[Ai];have nope:∀(j u:ByteArray) (ok:Bool),(ok=true->(L u).length<=64/\((L t)[0].toNat=122\/(L t)[0].toNat=114))->ok=false:=by grind
 obtain⟨u,ok,b1,b2,b3,b4⟩:=back x;have k1:=nope x u ok b4;subst k1;have k2:=b3 rfl;subst k2;refine⟨bs [],false,b1,?_,by simp,by simp⟩
 cases oi with
 |false=>rfl
 |true=>
  cases ki with
  |false=>rfl
  |true=>
   simp only[An,Ad,Aa,Cp];obtain⟨u,ok,d1,d2,d3,d4⟩:=back pi
   grind
def VE (x:Bs):Nat:=x.Kids.length
def Z9 (x:Arena):Nat:=zl VE x.Knots
def JW (x:Store):Nat:=x.Vols.length+Z9 x.Arena
def Nz (x:Device):Nat:=Od x.Flash+JW x.Store
def Qj (x:Leaf):Nat:=bif x.Is==0 then 1 else 0
theorem ACt (l:List Leaf):(l.map Qj).sum<=l.length:=by
 induction l with
 |nil=>simp
 |cons x l ih=>
  have:Qj x<=1:=by unfold Qj;grind
  grind
theorem XQ (b:Block) (h:b.Leaves.length<=1048576):IG b=some ((b.Leaves.map Qj).sum:Int):=by
 unfold IG;obtain⟨v,h1,rfl⟩:=AJ (body:=λs:Int×Int=>Hs b s.1 s.2) (λ(s:Int) i=>(s,i)) b.Leaves.length (λk s=>s=(((b.Leaves.take k).map Qj).sum:Nat)) (λv=>v=((b.Leaves.map Qj).sum:Nat))
  (λs k hk hs=>by
   have hx:b.Leaves[k]?=some b.Leaves[k]:=Ab hk;have e:=Sr Qj b.Leaves k hk;have e2:=OV Qj b.Leaves<|k+1;have e3:=ACt b.Leaves;refine .inl ?_;simp only[Hs,DK hk,Au,hx,Aa];have e4:Qj b.Leaves[k]=bif b.Leaves[k].Is==0 then 1 else 0:=rfl
   cases hb:b.Leaves[k].Is==0 with
   |true=>
    rw[ad1,Cy]
    grind
   |false=>
    rw[ad1]
    grind)
  (λs hs=>⟨s,by simp only[Hs,D1],by grind⟩) (s:=0) (by simp)
 rw[h1];rfl
theorem XS (f:Flash) (hf:Kh f) (hn:nl f.Blocks<=1048576):∃v:Int,MH f=some v/\OE f=some v/\0<=v/\v<=nl f.Blocks:=by
 unfold MH OE;obtain⟨v,h1,h2,h3⟩:=MT (body:=λs:Int×Int=>MG f s.1 s.2) (body':=λs:Int×Int=>MZ f s.1 s.2) (λ(s:Int) i=>(s,i)) (λ(s:Int) i=>(s,i)) f.Blocks.length (λi n=>0<=n/\n<=(((f.Blocks.take i).map λb=>b.Leaves.length).sum:Nat)) (λv=>0<=v/\v<=nl f.Blocks)
  (λn i hi hs=>by
   have hb:f.Blocks[i]?=some f.Blocks[i]:=Ab hi;have hm:f.Blocks[i]∈f.Blocks:=Az _;have d:=Sr (λb:Block=>b.Leaves.length) f.Blocks i hi;have g:=OV (λb:Block=>b.Leaves.length) f.Blocks<|i+1;unfold nl at hn;have h:=hf.1;have c:=hf.2 _ hm;have j:=ACt f.Blocks[i].Leaves;refine .inl ?_;simp only[MG,MZ,DK hi,Au,hb,Aa,XQ _ c];obtain⟨u,q1,rfl⟩:=AJ (body:=λs:Int×Int=>MF f (i:Int) s.1 s.2) (λ(s:Int) i=>(s,i)) f.Blocks[i].Leaves.length (λk s=>s=n+(bif f.Blocks[i].Bad then 0 else((f.Blocks[i].Leaves.take k).map Qj).sum:Nat)) (λv=>v=n+(bif f.Blocks[i].Bad then 0 else(f.Blocks[i].Leaves.map Qj).sum:Nat))
    (λs k hk hs=>by
     have hx:f.Blocks[i].Leaves[k]?=some f.Blocks[i].Leaves[k]:=Ab hk;have e:=Sr Qj f.Blocks[i].Leaves k hk;have e2:=OV Qj f.Blocks[i].Leaves<|k+1;refine .inl ?_;simp only[MF,Au,hb,Aa,DK hk,hx]
     cases a:f.Blocks[i].Bad with
     |true=>
      rw[a]at hs;simp only[An,Ad,Ai]at hs⊢;rw[ad1]
      grind
     |false=>
      rw[a]at hs;simp only[Cj,Ad,Ai]at hs⊢;have e4:Qj f.Blocks[i].Leaves[k]=bif f.Blocks[i].Leaves[k].Is==0 then 1 else 0:=rfl
      cases hb:f.Blocks[i].Leaves[k].Is==0 with
      |true=>
       rw[hb]at e4;simp only[Ai]at e4⊢;rw[ad1,Cy]
       grind
      |false=>
       rw[hb]at e4;simp only[Ad]at e4⊢;rw[ad1]
       grind)
    (λs hs=>⟨s,by simp only[MF,Au,hb,Aa,D1],by grind⟩) (s:=n) (by grind)
   rw[q1];simp only[Aa]
   cases f.Blocks[i].Bad with
   |true=>
    simp only[Ai,An,Ad];rw[ad1]
    grind
   |false=>
    simp only[Ai,Cj,Ad];rw[ad1,Cy]
    grind)
  (λn hs=>by
   rw[DN]at hs
   exact⟨n,by simp only[MG,D1],by simp only[MZ,D1],hs⟩) (s:=0) (by simp)
 grind
end Go.TI
