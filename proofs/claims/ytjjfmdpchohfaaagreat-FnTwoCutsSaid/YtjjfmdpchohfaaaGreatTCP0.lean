/- The power goes twice. No condition; no program is in sight. -/
import Derived.Test.YtjjfmdpchohfaaaGreatTCD
set_option linter.unusedVariables false
set_option linter.unusedSimpArgs false
namespace Go.TI
open Go
def u32 (s:Int):Prop:=0<=s/\s<4294967296
theorem tQ (s:Int) (hs:u32 s):∃v,Ao (λs:Int×Int=>IV s.1 s.2) (s,0)=some v/\Ao (λs:Int×Int=>Jf s.1 s.2) (s,0)=some v/\u32 v:=
 HF (body:=λs:Int×Int=>IV s.1 s.2) (body':=λs:Int×Int=>Jf s.1 s.2) (λ(s:Int) i=>(s,i)) 8 (λ_ s=>u32 s) u32
  (λs i hi hs=>by
   simp only[IV,Jf];rw[Ad (by omega:(i:Int)<8),Ae,Ae,an1 hs.1 hs.2,<-AEv hs.1 hs.2];refine⟨rfl,.inl ?_⟩;have hw:u32 (IntKind.u32.wrap<|Int.tdiv s 2):=by rw[IntKind.wrap_u32];constructor<;>omega
   cases Int.tmod s 2==1
   ·exact⟨_,by rw[Ac,ad1],hw⟩
   exact⟨_,by rw[Ae,ad1],AC6 _ _⟩)
  (λs hs=>by
   simp only[IV,Jf]
   grind) (s:=s) hs
theorem tP (s:Int) (t:ByteArray) (hs:u32 s) (ht:(L t).length<=9223372036854775806):∃v,Ts s t=some v/\T7 s t=some v/\u32 v:=by
 obtain⟨v,h1,h2,h3⟩:=HF (body:=λs:Int×Int=>K7 t s.1 s.2) (body':=λs:Int×Int=>KV t s.1 s.2) (λ(s:Int) i=>(s,i)) (L t).length (λ_ s=>u32 s) u32
  (λs i hi hs=>by
   obtain⟨v,h1,h2,h3⟩:=tQ (xr s<|IntKind.u32.wrap ((L t)[i]).toNat)<|AC6 _ _;simp only[K7,KV];rw[Ad (by rw[B3];omega:(i:Int)<FR t),Ae,Ae,Ft t hi,Aa,Aa,h1,h2]
   exact⟨rfl,.inl ⟨v,by rw[Aa,ad1],h3⟩⟩)
  (λs hs=>by
   simp only[K7,KV];rw[Ah (by rw[B3];omega:¬((L t).length:Int)<FR t),Ac,Ac]
   grind) (s:=s) hs
 unfold Ts T7
 grind
theorem qA (t:ByteArray) (ht:(L t).length<=9223372036854775806):∃v,OV t=some v/\YW t=some v/\u32 v:=by
 obtain⟨v,h1,h2,h3⟩:=tP 4294967295 t ⟨by omega,by omega⟩ ht;unfold OV YW
 grind
def four (v:Int):ByteArray:=Fv [IntKind.u8.wrap<|Int.fdiv v<|2^(min (24:Int).toNat IntKind.u32.bits),IntKind.u8.wrap<|Int.fdiv v<|2^(min (16:Int).toNat IntKind.u32.bits),IntKind.u8.wrap<|Int.fdiv v<|2^(min (8:Int).toNat IntKind.u32.bits),IntKind.u8.wrap v]
theorem Wu (v:Int):(L (four v)).length=4:=by rfl
theorem iO (t:ByteArray):ID t=K9 t:=by
 unfold ID K9;by_cases h:(FR t)>20000
 ·grind
 rw[Ah h,Ac,Ac];rw[B3]at h;obtain⟨v,h1,h2,_⟩:=qA t (by omega);rw[h1,h2];rfl
theorem TP (t:ByteArray):(20000<(L t).length->K9 t=some (bs [],false))/\((L t).length<=20000->∃v,OV t=some v/\K9 t=some (t++four v,true)):=by
 unfold K9;rw[B3];refine⟨λh=>by rw[cT],λh=>?_⟩;obtain⟨v,h1,h2,_⟩:=qA t (by omega);rw[cF,h1];refine⟨v,rfl,?_⟩;have:L7 v=some (four v):=rfl;rw[Aa,this,Aa,FZ _ _ (by rw[Wu];omega),Aa]
theorem pY (t:ByteArray) (ht:(L t).length<=9223372036854775806):∃u ok,L9 t=some (u,ok)/\Re t=some (u,ok)/\(ok=true->(L u).length<=20000/\∃v,OV u=some v/\t=u++four v)/\(ok=false->u=bs []):=by
 unfold L9 Re;have e4:sb (FR t) 4=((L t).length:Int)-4:=by rw[B3,Co]
 rw[e4];by_cases h4:(L t).length<4
 ·rw[Ad (by omega:((L t).length:Int)-4<0),Ad (by rw[B3];omega:FR t<4)]
  grind
 rw[Ah (by omega:¬((L t).length:Int)-4<0),Ah (by rw[B3];omega:¬FR t<4)];simp only[Ac];have en:((L t).length:Int)-4=(((L t).length-4:Nat):Int):=by omega
 rw[en,B3];have b:sub t 0 (((L t).length-4:Nat):Int)=some (t.extract 0<|(L t).length-4):=Fu t (i:=0) (by omega) (by omega);have a:sub t (((L t).length-4:Nat):Int) ((L t).length:Int)=some (t.extract ((L t).length-4) (L t).length):=Fu t (by omega) (by omega);rw[b,a];simp only[Aa];have hu:(L<|t.extract 0<|(L t).length-4).length=(L t).length-4:=by rw[Ig];simp
 obtain⟨k1,k2⟩:=TP<|t.extract 0<|(L t).length-4;rw[iO];by_cases hb:20000<(L t).length-4
 ·grind
 obtain⟨v,h1,h2⟩:=k2 (by omega);rw[Ah (by omega:¬(((L t).length-4:Nat):Int)>20000),h1,h2];have h3:L7 v=some (four v):=rfl;simp only[Ac,Aa,h3,Ag];have c:seq (t.extract ((L t).length-4) (L t).length) (four v)=seq (t.extract 0 ((L t).length-4)++four v) t:=by
  rw[RJ,RJ,DT,Ig,Ig,Fo,A4,A4];have e1:List.take ((L t).length-((L t).length-4)) (List.drop ((L t).length-4)<|L t)=(L t).drop ((L t).length-4):=AO (by simp);have e2:List.take ((L t).length-4-0) (List.drop 0<|L t)=(L t).take ((L t).length-4):=by simp
  rw[e1,e2];constructor
  ·intro h;rw[<-h,Cw]
  grind
 rw[c]
 cases hs:seq (t.extract 0 ((L t).length-4)++four v) t with
 |false=>grind
 |true=>
  rw[JT,A4]at hs
  grind
theorem Ja (n:Nat) (h:n<=1099511627776):∃s,HB (n:Int)=some s/\L s=Cu n:=by
 unfold HB;obtain⟨m,o,h1,h2,h3,h4⟩:=iC (body:=λs:Int×List Int=>OU s.1 s.2) (λ_ _=>rfl) n [] (by simpa using h);rw[h1,Aa];have:IntKind.u8.wrap (m:Int)=m:=by rw[IntKind.wrap_u8];omega
 rw[this,BD (by grind),Aa];refine⟨_,rfl,?_⟩;rw[Md,h4];simp
def ADc (t:ByteArray) (at_:Int) (r:Int×Int×Bool):Prop:=(r.2.2=false/\r.1=0/\r.2.1=0)\/(r.2.2=true/\∃(a b n:Nat),at_=a/\r.2.1=b/\r.1=n/\a<b/\b<=(L t).length/\n<=1000000000/\Cu n=((L t).drop a).take (b-a))
theorem Zx (l:List UInt8) (a k:Nat) (h:a+k<l.length):(l.drop a).take (k+1)=(l.drop a).take k++ [l[a+k]]:=by
 rw[Al (by simp;omega),Vq]
theorem kF (k:Nat) (h:k<5):(128:Nat)^k<=268435456:=by
 have:k<=4:=by omega
 calc 128^k<=128^4:=Nat.pow_le_pow_right (by omega) this
  _=268435456:=by decide
theorem YH:∀ds:List UInt8,FC ds<128^ds.length
 |[]=>by simp[FC]
 |d::ds=>by
  have:=YH ds;simp only[FC,AB,tU];omega
theorem AB4 (x k:Nat) (hx:x<128) (hk:k<5):shl .i64 (x:Int) (ml 7 (k:Int))=some ((x*128^k:Nat):Int):=by
 have h7:ml 7 (k:Int)=((7*k:Nat):Int):=by rw[Qb (by omega)<|by omega];omega
 unfold shl;rw[h7,AH<|by omega];have e:(2:Int)^(min ((7*k:Nat):Int).toNat IntKind.i64.bits)=((128^k:Nat):Int):=by
  have hb:IntKind.i64.bits=64:=rfl;have h128:(128:Nat)^k=2^(7*k):=by rw[Nat.pow_mul]
  grind
 rw[e];have hp:=kF k hk;have hm:x*128^k<=128*268435456:=eZ (by omega) hp;have ec:(x:Int)*((128^k:Nat):Int)=((x*128^k:Nat):Int):=by norm_cast
 rw[ec,P2 (by omega)<|by omega]
theorem i7 (x:Nat):Int.tmod (x:Int) 128=((x %128:Nat):Int):=rfl
theorem IM (t:ByteArray) (at_:Int) (ht:(L t).length<=4611686018427387904) (o:oI at_):∃r,Kj t at_=some r/\Kq t at_=some r/\ADc t at_ r:=by
 have fails:∀(at_:Int),(at_<0\/((L t).length:Int)<=at_)->oI at_->Kq t at_=some (0,0,false):=by
  intro at_ h o;unfold Kq;rw[Aw];simp only[H6];rw[cT];by_cases h0:at_>=0
  ·rw[Ad h0,Ae,B3,Co,Ah<|by omega];rfl
  grind
 by_cases h4:0<=at_/\at_<(L t).length
 ·obtain⟨a,rfl⟩:=Cv h4.1;have ha:a<(L t).length:=by omega
  have h5:∀(B1:Int×Int×Int->Option ((Int×Int×Int)⊕Unit⊕(Int×Int×Bool))) (B2:Int×Int->Option ((Int×Int)⊕Unit⊕(Int×Int×Bool))),(∀n sc i,B1 (n,sc,i)=DL t (a:Int) n sc i)->(∀n k,B2 (n,k)=H6 t (a:Int) n k)->∀(m k:Nat),k+m=5->a+k<=(L t).length->(∀d∈((L t).drop a).take k,128<=d.toNat)->
    ∃r,(Ao B1 (((FC (((L t).drop a).take k):Nat):Int),((128^k:Nat):Int),((a+k:Nat):Int))=some r/\Ao B2 (((FC (((L t).drop a).take k):Nat):Int),(k:Int))=some r)/\(r= .inl ()\/∃q,r= .inr q/\ADc t (a:Int) q):=by
   intro B1 B2 p u m
   induction m with
   |zero=>
    intro k hk h6 hd;have f:k=5:=by omega
    subst f;refine⟨.inl (),⟨?_,?_⟩,.inl rfl⟩
    ·rw[Aw];simp only[p,DL];rw[Cr,Ah (by omega:¬((a+5:Nat):Int)<(a:Int)+5)]
     grind
    rw[Aw];simp only[u,H6];rfl
   |succ m ih=>
    intro k hk h6 hd;rw[Aw,Aw B2];simp only[p,u,DL,H6];have f:k<5:=by omega
    rw[Cr (b:=5) (by omega) (by omega),Ad (by omega:((a+k:Nat):Int)<(a:Int)+5),Ad (by omega:(k:Int)<5),Ad (by omega:(a:Int)>=0),B3,Co];by_cases v:a+k<(L t).length
    ·rw[Ad (by omega:((a+k:Nat):Int)<((L t).length:Int)),Ad (by omega:(a:Int)<((L t).length:Int)-k)];have eak:ad (a:Int) (k:Int)=((a+k:Nat):Int):=by rw[Cr];omega
     simp only[Ae,Aa,Ft t v,eak];have hx:=mY<|(L t)[a+k];have j:=Zx (L t) a k v;have w:(((L t).drop a).take k).length=k:=by simp;omega
     have g:=OO (((L t).drop a).take k) [(L t)[a+k]];rw[<-j,w]at g;have h7:=YH<|((L t).drop a).take k;rw[w]at h7;have hp:=kF k f;generalize a4:(L t)[a+k]=x at hx j g;simp only[FC,Nat.mul_zero,OL]at g;have hw:IntKind.i64.wrap (x.toNat:Int)=x.toNat:=P2 (by omega) (by omega);have a2:x.toNat %128*128^k<=127*268435456:=eZ (by omega) hp;have emul:ml ((x.toNat %128:Nat):Int) ((128^k:Nat):Int)=((x.toNat %128*128^k:Nat):Int):=by
      have ec:((x.toNat %128:Nat):Int)*((128^k:Nat):Int)=((x.toNat %128*128^k:Nat):Int):=by norm_cast
      rw[Qb (by rw[ec];omega) (by rw[ec];omega),ec]
     have enew:ad (((FC (((L t).drop a).take k):Nat)):Int) ((x.toNat %128*128^k:Nat):Int)=((FC (((L t).drop a).take<|k+1):Nat):Int):=by
      rw[Cr,g,Nat.mul_comm<|128^k];omega
     rw[hw,i7,AB4 _ k (by omega) f];simp only[Aa,emul,enew];by_cases l:x.toNat<128
     ·rw[Ad (by omega:(x.toNat:Int)<128),Ah (by omega:¬(x.toNat:Int)>=128)];simp only[Ae,Ac];have ek1:ad ((a+k:Nat):Int) 1=((a+k+1:Nat):Int):=ad1 (by omega);have c:=iB (((L t).drop a).take k) x hd l;rw[<-j]at c;have h8:(((L t).drop a).take k≠ [])↔0<k:=by grind
      rw[h8]at c;have y:sub t (a:Int) ((a+k+1:Nat):Int)=some (t.extract a<|a+k+1):=Fu t (by omega) (by omega);rw[ek1,y];by_cases a3:FC (((L t).drop a).take<|k+1)>1000000000
      ·rw[Ad (by omega:((FC (((L t).drop a).take<|k+1):Nat):Int)>1000000000)];refine⟨.inr (0,0,false),⟨rfl,?_⟩,.inr ⟨_,rfl,.inl ⟨rfl,rfl,rfl⟩⟩⟩
       grind
      rw[Ah (by omega:¬((FC (((L t).drop a).take<|k+1):Nat):Int)>1000000000)];obtain⟨s,h9,a0⟩:=Ja (FC<|((L t).drop a).take<|k+1) (by omega);simp only[Ac,Aa,h9];have z:seq s (t.extract a<|a+k+1)=decide (¬(x.toNat=0/\0<k)):=by
       rw[RJ,a0,Ig,show a+k+1-a=k+1 by omega,Fo,A4,A4];exact c
      rw[z];by_cases hz:x.toNat=0/\0<k
      ·rw[Ah λe=>e hz];refine⟨.inr (0,0,false),⟨rfl,?_⟩,.inr ⟨_,rfl,.inl ⟨rfl,rfl,rfl⟩⟩⟩
       grind
      rw[Ad hz];refine⟨.inr (((FC (((L t).drop a).take<|k+1):Nat):Int),((a+k+1:Nat):Int),true),⟨rfl,?_⟩,.inr ⟨_,rfl,.inr ⟨rfl,a,a+k+1,_,rfl,rfl,rfl,by omega,by omega,by omega,?_⟩⟩⟩
      ·by_cases a1:x.toNat=0
       ·have:((x.toNat:Int)==0)=true:=by rw[a1];rfl
        rw[this,Ah (by omega:¬(k:Int)>0)];rfl
       grind
      rw[show a+k+1-a=k+1 by omega];exact c.2 hz
     rw[Ah (by omega:¬(x.toNat:Int)<128),Ad (by omega:(x.toNat:Int)>=128)];simp only[Ae,Ac];have e1:ml ((128^k:Nat):Int) 128=((128^(k+1):Nat):Int):=by
      rw[Qb (by omega) (by omega),tU];norm_cast
     have e2:ad ((a+k:Nat):Int) 1=((a+(k+1):Nat):Int):=ad1 (by omega);have e3:ad (k:Int) 1=((k+1:Nat):Int):=ad1 (by omega);rw[e1,e2,e3];exact ih (k+1) (by omega) (by omega)<|by grind
    rw[Ah (by omega:¬((a+k:Nat):Int)<((L t).length:Int)),Ah (by omega:¬(a:Int)<((L t).length:Int)-k)];simp
  obtain⟨r,⟨h1,h2⟩,h3⟩:=h5 (λs=>DL t (a:Int) s.1 s.2.1 s.2.2) (λs=>H6 t (a:Int) s.1 s.2) (λ_ _ _=>rfl) (λ_ _=>rfl) 5 0 rfl (by omega) (by simp);unfold Kj Kq;have hw:BK (a:Int) 0 (FR t)=some true:=by
   unfold BK;rw[cT,B3,Ad<|by omega]
  rw[hw];simp only[Aa,Ag,Ac];simp only[Jk,FC,Nat.pow_zero,OL]at h1 h2;rw[show((0:Nat):Int)=0 from rfl,show((1:Nat):Int)=1 from rfl]at h1;rw[show((0:Nat):Int)=0 from rfl]at h2;rw[h1,h2]
  rcases h3 with rfl|⟨q,rfl,h3⟩
  ·exact⟨_,rfl,rfl,.inl ⟨rfl,rfl,rfl⟩⟩
  grind
 have hf:=fails at_ (by omega) o;refine⟨(0,0,false),?_,hf,.inl ⟨rfl,rfl,rfl⟩⟩;unfold Kj;by_cases h0:0<=at_/\at_<=(L t).length
 ·have hw:BK at_ 0 (FR t)=some true:=by
   unfold BK;rw[cT,B3,Ad<|by omega]
  rw[hw];simp only[Aa,Ag,Ac];rw[Aw];simp only[DL];rw[Ah (by rw[B3];omega:¬at_<FR t)];rfl
 have hw:BK at_ 0 (FR t)=some false:=by
  unfold BK;by_cases h1:at_>=0
  ·rw[Ad h1,Ae,B3,Ah<|by omega]
  grind
 rw[hw];rfl
theorem bS:Ha=BK:=rfl
variable {r n x:Int} {R:List Int} {i j k:Nat} {s:Store} {α γ:Type} {v:Vol} {p:Nat->Bool} {l:List α}
theorem Cz {i:Int} {x:α} (h:gi l i=some x):0<=i/\l[i.toNat]?=some x:=by
 unfold gi at h
 grind
theorem Rx:NW=Gh:=by
 have h2:NE=EC:=by
  funext x y;unfold NE EC
  cases decide (y<ln x.Leaves)with
  |false=>rfl
  |true=>
   simp only[Ae]
   cases gi x.Leaves y with
   |none=>rfl
   |some z=>rfl
 funext f;unfold NW Gh;have:NF f=ED f:=by
  funext i;unfold NF ED;rw[h2];rfl
 rw[this];rfl
def JZ (f:Flash):Prop:=f.Blocks.length<=1048576/\∀b∈f.Blocks,b.Leaves.length<=1048576
theorem RL (x a b:Int):BK x a b=some (decide (a<=x)&&decide (x<=b)):=by
 unfold BK
 grind
theorem ACt (x:Leaf):∃v,NQ x=some v:=by
 unfold NQ;cases x.Is==0
 ·simp only[Ac];cases x.Is==1
  ·simp only[Ac];cases x.Is==2<;>exact⟨_,rfl⟩
  simp only[Ae,RL,Aa];exact⟨_,rfl⟩
 exact⟨_,rfl⟩
theorem Vk (f:Flash) (h:JZ f):∃v,Gh f=some v/\(v=true->f.Blocks.length<=10/\∀b∈f.Blocks,b.Leaves.length=4):=by
 have a:=AL (body:=λs:Int=>ED f s) (λ(_:Unit) i=>i) f.Blocks.length (λi _=>∀j b,j<i->f.Blocks[j]?=some b->b.Leaves.length=4) (λr=>r= .inr false\/r= .inl ()/\∀b∈f.Blocks,b.Leaves.length=4)
  (λs i hi hs=>by
   obtain⟨x,hx⟩:∃x,f.Blocks[i]?=some x:=⟨_,Ab hi⟩;have hM:=h.1;have hL:=h.2 x<|Ar hx;simp only[ED,DV hi,Au,hx,Aa,RL];by_cases h4:x.Leaves.length=4
   ·have e1:(ln x.Leaves !=4)=false:=by simp[ln,h4]
    simp only[e1,Ac,Aa]
    cases hw:(decide (0<=x.Wear)&&decide (x.Wear<=1000000000))with
    |false=>grind
    |true=>
     simp only[Ag,Ac];obtain⟨r,h5,h6⟩:=AL (body:=λs:Int=>EC x s) (λ(_:Unit) i=>i) x.Leaves.length (λ_ _=>True) (λr=>r= .inl ()\/r= .inr (.inr<|.inr false))
      (λs k hk _=>by
       obtain⟨y,hy⟩:∃y,x.Leaves[k]?=some y:=⟨_,Ab hk⟩;obtain⟨v,hv⟩:=ACt y;simp only[EC,DV hk,Au,hy,Aa,hv];have fin:∀j:Bool,(∃s':Unit,(bif j then some (.inr<|.inr<|.inr<|.inr false)else some (.inl<|ad (k:Int) 1):Option (Int⊕Unit⊕Int⊕Unit⊕Bool))=some (.inl (((k+1:Nat)):Int))/\True)\/∃b,(bif j then some (.inr<|.inr<|.inr<|.inr false)else some (.inl<|ad (k:Int) 1):Option (Int⊕Unit⊕Int⊕Unit⊕Bool))=some (.inr b)/\(b= .inl ()\/b= .inr (.inr<|.inr false)):=by
        intro j
        cases j with
        |true=>grind
        |false=>exact .inl ⟨(),by rw[Ac,ad1],trivial⟩
       cases v with
       |false=>exact fin true
       |true=>
        simp only[Ag,Ac];by_cases c:0<k
        ·rw[cT,Co,Ld (by omega) (by omega),Aa];cases(x.Leaves[((k:Int)-1).toNat]'(by omega)).Is==0
         ·exact fin false
         exact fin<|y.Is !=0
        rw[Ah (by omega:¬(k:Int)>0)]
        exact fin false)
      (λs _=>⟨_,by simp only[EC,DI],.inl rfl⟩) (s:=()) trivial
     rw[h5,Aa]
     rcases h6 with rfl|rfl
     ·refine .inl ⟨(),by rw[Br,ad1],?_⟩
      grind
     grind
   have e1:(ln x.Leaves !=4)=true:=by simp[ln];omega
   grind)
  (λs hs=>⟨_,by simp only[ED,DI],.inr ⟨rfl,λb hb=>by
   obtain⟨j,hj,e⟩:=A5 hb
   exact hs j b hj<|by grind⟩⟩) (s:=()) (λj b hj=>absurd hj<|by omega)
 obtain⟨r,h1,h2⟩:=a;unfold Gh;rw[h1,Aa]
 rcases h2 with rfl|⟨rfl,h2⟩
 ·simp
 simp only[Br,RL,Aa];refine⟨_,rfl,λe=>⟨?_,h2⟩⟩;rw[Ai,A4,A4,Bv]at e;omega
theorem TQ (p:Page):∃v,KD p=some v/\SN p=some v/\(v=true->(p.Kind=1\/p.Kind=2)/\(1<=p.Seq/\p.Seq<=1000000000)/\(1<=p.Tx/\p.Tx<=1000000000)/\(1<=p.Count/\p.Count<=9)/\(0<=p.Part/\p.Part<p.Count)/\FR p.Text<=90):=by
 unfold KD SN;rw[bS];simp only[RL,Aa];by_cases h1:1<=p.Seq/\p.Seq<=1000000000
 ·by_cases h2:1<=p.Tx/\p.Tx<=1000000000
  ·by_cases h3:1<=p.Count/\p.Count<=9
   ·have e:sb p.Count 1=p.Count-1:=Co (by omega) (by omega);rw[e];by_cases h4:0<=p.Part/\p.Part<=p.Count-1
    ·by_cases h5:FR p.Text>90
     ·refine⟨false,?_,?_,by simp⟩
      ·grind
      grind
     by_cases k2:p.Kind=2
     ·exact⟨true,by grind,by grind,λ_=>⟨.inr k2,h1,h2,h3,⟨h4.1,by omega⟩,by omega⟩⟩
     by_cases k1:p.Kind=1
     ·exact⟨p.Count==1,by grind,by grind,λ_=>⟨.inl k1,h1,h2,h3,⟨h4.1,by omega⟩,by omega⟩⟩
     have hk:(decide (1<=p.Kind)&&decide (p.Kind<=2))=false:=by grind
     have e1:(p.Kind==1)=false:=by simpa using k1
     have e2:(p.Kind==2)=false:=by simpa using k2
     exact⟨false,by simp[hk],by grind,by simp⟩
    have e4:(decide (0<=p.Part)&&decide (p.Part<=p.Count-1))=false:=by grind
    refine⟨false,?_,?_,by simp⟩
    ·grind
    grind
   have e3:(decide (1<=p.Count)&&decide (p.Count<=9))=false:=by grind
   refine⟨false,?_,?_,by simp⟩
   ·grind
   simp[h1,h2,e3]
  have e2:(decide (1<=p.Tx)&&decide (p.Tx<=1000000000))=false:=by grind
  refine⟨false,?_,?_,by simp⟩
  ·grind
  simp[h1,e2]
 have e1:(decide (1<=p.Seq)&&decide (p.Seq<=1000000000))=false:=by grind
 refine⟨false,?_,?_,by simp⟩
 ·grind
 simp[e1]
def gJ:Page:=Page.mk 0 0 0 0 0<|bs []
theorem H1 (u:ByteArray) (a:Int) (hu:(L u).length<=20000) (ha:oI a):Dl (Ez.mk u a true)=some (0,Ez.mk u a true):=by
 obtain⟨r,h1,_,_⟩:=IM u a (by omega) ha;unfold Dl
 grind
theorem Kn {r:Int×Int×Bool} (u:ByteArray) (a:Int) (hu:(L u).length<=20000) (h:Kj u a=some r):Dl (Ez.mk u a false)=some (cond r.2.2 (r.1,Ez.mk u r.2.1 false) (0,Ez.mk u a true)):=by
 unfold Dl
 grind
theorem R3 {a b:Nat} (l:List UInt8) (h:a<=b):l.drop a=(l.drop a).take (b-a)++l.drop b:=by
 have:=(Cw (b-a)<|l.drop a).symm;rw[CA,show a+(b-a)=b by omega]at this;exact this
theorem Yv (p:Page) (u:ByteArray) (k:UInt8) (n1 n2 n3 n4:Nat) (hp:KD p=some true) (hk:p.Kind=(k.toNat:Int)) (h1:p.Seq=n1) (h2:p.Tx=n2) (h3:p.Part=n3) (h4:p.Count=n4) (b1:n1<=1000000000) (b2:n2<=1000000000) (b3:n3<=1000000000) (b4:n4<=1000000000) (hu:(L u).length<=20000) (e:L u=[k]++Cu n1++Cu n2++Cu n3++Cu n4++L p.Text):Ex p=K9 u:=by
 obtain⟨s1,q1,r1⟩:=Ja n1 (by omega);obtain⟨s2,q2,r2⟩:=Ja n2 (by omega);obtain⟨s3,q3,r3⟩:=Ja n3 (by omega);obtain⟨s4,q4,r4⟩:=Ja n4 (by omega);have hl:=BR List.length e;simp only[Ak,Bg]at hl;have hb:Kf p.Kind=some (Fv [IntKind.u8.wrap p.Kind]):=rfl;have a:L (Fv [IntKind.u8.wrap p.Kind])=[k]:=by
  rw[Md,hk,IntKind.wrap_u8];have:=mY k;have e2:((k.toNat:Int) %256).toNat=k.toNat:=by omega
  simp only[C6,List.map_nil,e2,UInt8.ofNat_toNat]
 unfold Ex;rw[hp];simp only[Aa,Ag,Ac,hb,h1,h2,h3,h4,q1,q2,q3,q4];rw[FZ _ _ (by grind),Aa,FZ _ _ (by rw[DT,a,r1,r2];grind),Aa,FZ _ _ (by rw[DT,DT,a,r1,r2,r3];grind),Aa,FZ _ _ (by rw[DT,DT,DT,a,r1,r2,r3,r4];grind),Aa,FZ _ _ (by rw[DT,DT,DT,DT,a,r1,r2,r3,r4];grind),Aa];have:Fv [IntKind.u8.wrap p.Kind]++s1++s2++s3++s4++p.Text=u:=by
  apply Ll;rw[DT,DT,DT,DT,DT,a,r1,r2,r3,r4,e]
 rw[this]
 cases K9 u with
 |none=>rfl
 |some v=>rfl
theorem IN (t:ByteArray) (ht:(L t).length<=9223372036854775806):∃p ok,FK t=some (p,ok)/\Rk t=some (p,ok)/\(ok=false->p=gJ)/\(ok=true->KD p=some true):=by
 obtain⟨u,uok,j,k,m,n⟩:=pY t ht;unfold FK Rk;rw[j,k];simp only[Aa];have o1:oI 1:=⟨by omega,by omega⟩
 cases uok with
 |false=>
  have:=n rfl;subst this;have hz:(L<|bs []).length<=20000:=by rw[EU];simp
  simp only[AQ,Ae,Aa,H1 _ _ hz o1];exact⟨gJ,false,rfl,rfl,λ_=>rfl,by simp⟩
 |true=>
  obtain⟨e,v,hv,o⟩:=m rfl;simp only[Ag,Ac,Aa];by_cases he:(L u).length<1
  ·have g:seq u (bs [])=true:=by
    rw[RJ,A4,EU]
    grind
   rw[Ad (by rw[B3];omega:FR u<1),g];simp only[Ae,H1 _ _ e o1,Aa];exact⟨gJ,false,rfl,rfl,λ_=>rfl,by simp⟩
  have g:seq u (bs [])=false:=by
   rw[RJ,E4,EU]
   grind
  rw[Ah (by rw[B3];omega:¬FR u<1),g];simp only[Ac];have four_:∀(B:Int×Int×Int×Int×Int×Int->Option ((Int×Int×Int×Int×Int×Int)⊕(Int×Int×Int×Int×Int)⊕(Page×Bool))),(∀x y a b c d,B (x,y,a,b,c,d)=EK (u,true) x y a b c d)->
    ∃(a:Int) (m1 m2 m3 m4:Int) (bad:Bool),(∃c1 c2 c3,Dl (Ez.mk u 1 false)=some (m1,c1)/\Dl c1=some (m2,c2)/\Dl c2=some (m3,c3)/\Dl c3=some (m4,Ez.mk u a bad))/\
     Ao B (1,0,0,0,0,0)=some (bif bad then .inr (gJ,false)else .inl (a,m1,m2,m3,m4))/\(bad=false->∃(a1 a2 a3 a4 n1 n2 n3 n4:Nat),m1=n1/\m2=n2/\m3=n3/\m4=n4/\a=a4/\1<a1/\a1<a2/\a2<a3/\a3<a4/\a4<=(L u).length/\n1<=1000000000/\n2<=1000000000/\n3<=1000000000/\n4<=1000000000/\
      Cu n1=((L u).drop 1).take (a1-1)/\Cu n2=((L u).drop a1).take (a2-a1)/\Cu n3=((L u).drop a2).take (a3-a2)/\Cu n4=((L u).drop a3).take (a4-a3)):=by
   intro B hB;obtain⟨r1,p1,q1,w1⟩:=IM u 1 (by omega) o1;have g1:=Kn u 1 e p1;rw[Aw,hB];unfold EK;rw[cT,q1,Aa]
   rcases w1 with⟨w1,w2,w3⟩|⟨w1,a0',a1,n1,z0,z1,z2,z3,z4,z5,z6⟩
   ·rw[w1]at g1⊢;exact⟨1,0,0,0,0,true,⟨_,_,_,g1,H1 u 1 e o1,H1 u 1 e o1,H1 u 1 e o1⟩,rfl,by simp⟩
   have ea0:a0'=1:=by omega
   subst ea0;rw[w1]at g1⊢;have x1:oI r1.2.1:=⟨by omega,by omega⟩;simp only[Ag,Ac,Ae]at g1⊢;rw[show((0:Int)==0)=true from rfl,Ae,show ad 0 1=1 from ad1 (i:=0)<|by omega];simp only;obtain⟨r2,p2,q2,y1⟩:=IM u r1.2.1 (by omega) x1;have g2:=Kn u r1.2.1 e p2;rw[Aw,hB];unfold EK;rw[cT,q2,Aa]
   rcases y1 with⟨y1,_,_⟩|⟨y1,b0,a2,n2,y2,y3,y4,y5,y6,y7,y8⟩
   ·rw[y1]at g2⊢;exact⟨r1.2.1,r1.1,0,0,0,true,⟨_,_,_,g1,g2,H1 u _ e x1,H1 u _ e x1⟩,rfl,by simp⟩
   have eb:b0=a1:=by omega
   subst eb;rw[y1]at g2⊢;have x2:oI r2.2.1:=⟨by omega,by omega⟩;simp only[Ag,Ac,Ae]at g2⊢;rw[show((1:Int)==0)=false from rfl,Ac,show((1:Int)==1)=true from rfl,Ae,show ad 1 1=2 from ad1 (i:=1)<|by omega];simp only;obtain⟨r3,p3,q3,k1⟩:=IM u r2.2.1 (by omega) x2;have g3:=Kn u r2.2.1 e p3;rw[Aw,hB];unfold EK;rw[cT,q3,Aa]
   rcases k1 with⟨k1,_,_⟩|⟨k1,c0,a3,n3,k2,k3,k4,k5,k6,k7,k8⟩
   ·rw[k1]at g3⊢;exact⟨r2.2.1,r1.1,r2.1,0,0,true,⟨_,_,_,g1,g2,g3,H1 u _ e x2⟩,rfl,by simp⟩
   have ec:c0=a2:=by omega
   subst ec;rw[k1]at g3⊢;have x3:oI r3.2.1:=⟨by omega,by omega⟩;simp only[Ag,Ac,Ae]at g3⊢;rw[show((2:Int)==0)=false from rfl,Ac,show((2:Int)==1)=false from rfl,Ac,show((2:Int)==2)=true from rfl,Ae,show ad 2 1=3 from ad1 (i:=2)<|by omega];simp only;obtain⟨r4,p4,q4,l1⟩:=IM u r3.2.1 (by omega) x3;have g4:=Kn u r3.2.1 e p4;rw[Aw,hB];unfold EK;rw[cT,q4,Aa]
   rcases l1 with⟨l1,_,_⟩|⟨l1,d0,a4,n4,l2,l3,l4,l5,l6,l7,l8⟩
   ·rw[l1]at g4⊢;exact⟨r3.2.1,r1.1,r2.1,r3.1,0,true,⟨_,_,_,g1,g2,g3,g4⟩,rfl,by simp⟩
   have ed:d0=a3:=by omega
   subst ed;rw[l1]at g4⊢;simp only[Ag,Ac,Ae]at g4⊢;rw[show((3:Int)==0)=false from rfl,Ac,show((3:Int)==1)=false from rfl,Ac,show((3:Int)==2)=false from rfl,Ac,show((3:Int)==3)=true from rfl,Ae,show ad 3 1=4 from ad1 (i:=3)<|by omega];simp only;rw[Aw,hB];unfold EK;rw[cF];exact⟨r4.2.1,r1.1,r2.1,r3.1,r4.1,false,⟨_,_,_,g1,g2,g3,g4⟩,rfl,λ_=>⟨b0,c0,d0,a4,n1,n2,n3,n4,z2,y4,k4,l4,l3,z3,y5,k5,l5,l6,z5,y7,k7,l7,z6,y8,k8,l8⟩⟩
  obtain⟨a,m1,m2,m3,m4,bad,⟨c1,c2,c3,f1,f2,f3,f4⟩,f5,f6⟩:=four_ (λs:Int×Int×Int×Int×Int×Int=>EK (u,true) s.1 s.2.1 s.2.2.1 s.2.2.2.1 s.2.2.2.2.1 s.2.2.2.2.2) λ_ _ _ _ _ _=>rfl;rw[f5];simp only[f1,f2,f3,f4,Aa]
  cases bad with
  |true=>exact⟨gJ,false,rfl,rfl,λ_=>rfl,by simp⟩
  |false=>
   obtain⟨a1,a2,a3,a4,n1,n2,n3,n4,rfl,rfl,rfl,rfl,rfl,i1,i2,i3,i4,i5,j1,j2,j3,j4,s1,s2,s3,s4⟩:=f6 rfl;simp only[Ac,Aa,Br];have q:sx u 0=some (((L u)[0]'(by omega)).toNat:Int):=Ft u (i:=0) (by omega);have h:sub u (a4:Int) (FR u)=some (u.extract a4 (L u).length):=by rw[B3];exact Fu u (by omega)<|by omega
   rw[q,h];simp only[Aa];have hk:=mY ((L u)[0]'(by omega));have hw:IntKind.i64.wrap (((L u)[0]'(by omega)).toNat:Int)=((L u)[0]'(by omega)).toNat:=P2 (by omega) (by omega);rw[hw];obtain⟨po,po1,po2,_⟩:=TQ (Page.mk (((L u)[0]'(by omega)).toNat:Int) n1 n2 n3 n4<|u.extract a4 (L u).length);rw[po2];simp only[Aa]
   cases po with
   |false=>
    have:Ex (Page.mk (((L u)[0]'(by omega)).toNat:Int) n1 n2 n3 n4<|u.extract a4 (L u).length)=some (bs [],false):=by
     unfold Ex;rw[po1];rfl
    rw[this];exact⟨gJ,false,rfl,rfl,λ_=>rfl,by simp⟩
   |true=>
    have hT:L (u.extract a4 (L u).length)=(L u).drop a4:=by
     rw[Ig];exact AO<|by simp
    have f:L u=[(L u)[0]'(by omega)]++Cu n1++Cu n2++Cu n3++Cu n4++L (u.extract a4 (L u).length):=by
     rw[hT,s1,s2,s3,s4];have h0:L u=[(L u)[0]'(by omega)]++(L u).drop 1:=by
      have:=AM (l:=L u) (i:=0) (by omega);simpa using this
     have d1:=R3 (L u) (a:=1) (b:=a1) (by omega);have d2:=R3 (L u) (a:=a1) (b:=a2) (by omega);have d3:=R3 (L u) (a:=a2) (b:=a3) (by omega);have d4:=R3 (L u) (a:=a3) (b:=a4) (by omega);simp only[AE];rw[<-d4,<-d3,<-d2,<-d1];exact h0
    rw[Yv _ u ((L u)[0]'(by omega)) n1 n2 n3 n4 po1 rfl rfl rfl rfl rfl j1 j2 j3 j4 e f];obtain⟨v',hv',hs'⟩:=(TP u).2 e;rw[hv]at hv'
    injection hv' with hv'
    subst hv';rw[hs',Aa];have:seq (u++four v) t=true:=by rw[JT,A4];exact o.symm
    simp only[Ag,Ac,Aa,this];exact⟨_,true,rfl,rfl,by simp,λ_=>po1⟩
def PF (x:Leaf):Nat:=x.Text.size
def K2 (x:Block):Nat:=zl PF x.Leaves
def Ob (x:Flash):Nat:=zl K2 x.Blocks
theorem ACN (f:Flash) (h:Ob f<=1048576):JZ f/\∀b∈f.Blocks,∀x∈b.Leaves,(L x.Text).length<=1048576:=by
 have h1:=Qz (z:=K2) (l:=f.Blocks);unfold Ob at h;refine⟨⟨by omega,λb hb=>?_⟩,λb hb x hx=>?_⟩
 ·have h2:=iV (z:=K2) hb;have h3:=Qz (z:=PF) (l:=b.Leaves);have e:K2 b=zl PF b.Leaves:=rfl;omega
 have h2:=iV (z:=K2) hb;have h3:=iV (z:=PF) hx;have e:K2 b=zl PF b.Leaves:=rfl;have e2:PF x=x.Text.size:=rfl;rw[X7];omega
def nl (l:List Block):Nat:=(l.map λb=>b.Leaves.length).sum
theorem AEI (f:Flash):nl f.Blocks<=Ob f:=by
 unfold nl Ob zl;have:∀l:List Block,(l.map λb=>b.Leaves.length).sum<=(l.map K2).sum:=by
  intro l
  induction l with
  |nil=>simp
  |cons b l ih=>
   have:=Qz (z:=PF) (l:=b.Leaves);have e:K2 b=zl PF b.Leaves:=rfl
   grind
 grind
def S9 (f:Flash) (y:Aq):Prop:=∃b x,gi f.Blocks y.Block=some b/\gi b.Leaves y.Leaf=some x/\(x.Is==1)=true/\FK x.Text=some (y.Page,true)
theorem Yr {b:Block} {x:Leaf} (f:Flash) (hf:JZ f) (hb:f.Blocks[i]?=some b) (hx:b.Leaves[k]?=some x):QB f i k=some (cond (x.Is==1) (x.Text,true) (bs [],false)):=by
 have h1:=(Af.1 hb).1;have h2:=(Af.1 hx).1;have h3:=hf.1;have h4:=hf.2 b<|Ar hb;unfold QB;rw[Co (by rw[Bv];omega) (by rw[Bv];omega),RL,Bv,Ad (by omega:(0:Int)<=(i:Int)),Ad (by omega:(i:Int)<=(f.Blocks.length:Int)-1)];simp only[Aa,No,Ag,Ac,Au,hb];rw[Co (by rw[Bv];omega) (by rw[Bv];omega),RL,Bv,Ad (by omega:(0:Int)<=(k:Int)),Ad (by omega:(k:Int)<=(b.Leaves.length:Int)-1)]
 grind
theorem bX (f:Flash) (hf:JZ f) (hT:∀b∈f.Blocks,∀x∈b.Leaves,(L x.Text).length<=1048576) (hn:nl f.Blocks<=1048576):
  ∃X,Ao (λs:List Aq×Int=>EA f s.1 s.2) ([],0)=some X/\Ao (λs:Int×List Aq=>Jg f s.1 s.2) (0,[])=some X/\X.length<=nl f.Blocks/\∀y∈X,S9 f y:=by
 refine MJ (body:=λs:List Aq×Int=>EA f s.1 s.2) (body':=λs:Int×List Aq=>Jg f s.1 s.2) (λs i=>(s,i)) (λs i=>(i,s)) f.Blocks.length (λi a=>a.length<=((f.Blocks.take i).map λb=>b.Leaves.length).sum/\∀y∈a,S9 f y) (λX=>X.length<=nl f.Blocks/\∀y∈X,S9 f y) ?_ ?_ (s:=[]) ⟨by simp,by simp⟩
 ·intro a i hi ⟨c,d⟩;have hb:f.Blocks[i]?=some f.Blocks[i]:=Ab hi;have hm:f.Blocks[i]∈f.Blocks:=A0 _;have h:=Sc (λb:Block=>b.Leaves.length) f.Blocks i hi;have j:=OP (λb:Block=>b.Leaves.length) f.Blocks<|i+1;unfold nl at hn;have l:=hf.1;refine .inl ?_;simp only[EA,Jg,DV hi,Au,hb,Aa];obtain⟨u,q1,q2,q3⟩:=MJ (body:=λs:List Aq×Int=>Gx f (i:Int) s.1 s.2) (body':=λs:Int×List Aq=>La (i:Int) f.Blocks[i] s.1 s.2) (λs i=>(s,i)) (λs i=>(i,s)) f.Blocks[i].Leaves.length (λk u=>u.length<=a.length+k/\∀y∈u,S9 f y) (λu=>u.length<=a.length+f.Blocks[i].Leaves.length/\∀y∈u,S9 f y)
   (λu k hk hu=>by
    have hx:f.Blocks[i].Leaves[k]?=some f.Blocks[i].Leaves[k]:=Ab hk;have m:f.Blocks[i].Leaves[k]∈f.Blocks[i].Leaves:=A0 _;have n:=hf.2 _ hm
    have g:∀y:Aq,ap 72 u [y]=some (u++ [y]):=λy=>BD<|by grind
    refine .inl ?_;obtain⟨p,ok,r1,r2,r3,r4⟩:=IN f.Blocks[i].Leaves[k].Text (by grind);simp only[Gx,La,DV hk,Au,hb,hx,Aa,Yr f hf hb hx,r2,g];have o:=hu.1
    cases e:f.Blocks[i].Leaves[k].Is==1 with
    |false=>
     obtain⟨p',ok',t1,_⟩:=IN (bs []) (by rw[EU];simp);simp only[Ac,Aa,t1];refine⟨u,by rw[ad1],by cases ok<;>(simp only[Ae,Ac,Aa];rw[ad1]),by omega,hu.2⟩
    |true=>
     simp only[Ae,Aa,r1]
     cases ok with
     |false=>exact⟨u,by simp only[Ac];rw[ad1],by simp only[Ac,Aa];rw[ad1],by omega,hu.2⟩
     |true=>
      refine⟨u++ [Aq.mk i k p],by simp only[Ae];rw[ad1],by simp only[Ae,Aa];rw[ad1],by grind,λy hy=>?_⟩
      rcases Ap.1 hy with hy|hy
      ·exact hu.2 y hy
      rw[Bu]at hy;subst hy
      exact⟨_,_,by simp only[Au];exact hb,by simp only[Au];exact hx,e,r1⟩)
   (λu hu=>⟨u,by simp only[Gx,Au,hb,Aa,DI],by simp only[La,DI],hu⟩) (s:=a) ⟨by omega,d⟩
  rw[q1,q2,Aa,ad1]
  grind
 intro a ⟨c,d⟩;refine⟨a,by simp only[EA,DI],by simp only[Jg,DI],?_,d⟩;rw[DS]at c;exact c
theorem lN {l:List γ} {i j:Int} {x y:γ} (h:gi l j=some y):∃z,gi (si l i x) j=some z:=by
 obtain⟨h1,h2⟩:=Cz h;have:=(Af.1 h2).1;unfold gi;rw[AG h1];exact⟨_,Ab (by simp only[si,HT];exact this)⟩
theorem qX (l:List Aq) (k:Int):KA l k=(Ba (NV B9) 0 k l).map (Sum.map (λs=>(s.2,s.1)) id):=by
 unfold KA Ba yZ qW
 cases hk:decide (k>0)with
 |false=>rfl
 |true=>
  simp only[Ae]
  cases h1:gi l (sb k 1)with
  |none=>simp
  |some x=>
   cases h2:gi l k with
   |none=>simp
   |some y=>
    simp only[Aa];have e:(decide<|x.Page.Seq>y.Page.Seq)=NV B9 y x:=rfl;rw[e]
    cases NV B9 y x with
    |false=>rfl
    |true=>
     simp only[Ae,h1,h2,Aa];obtain⟨z,hz⟩:=lN (i:=k) (x:=x) h1;rw[hz];rfl
theorem AB0 {l l':List γ} {i j:Int} (h:qW l i j=some l'):l'.length=l.length:=by
 unfold qW at h;obtain⟨x,_,h⟩:=An.1 h;obtain⟨y,_,h⟩:=An.1 h
 injection h with h
 subst h;simp[si]
theorem ACD {a j:Int} {l r:List Aq} (h:Ao (λs:Int×List Aq=>Ba (NV B9) a s.1 s.2) (j,l)=some r):r.length=l.length:=by
 refine xI (λs:Int×List Aq=>s.2.length=l.length) (λr=>r.length=l.length) ?_ ?_ (s:=(j,l)) rfl h
 ·rintro⟨j,m⟩ s' hm hb;simp only[Ba]at hb;obtain⟨c,_,hb⟩:=An.1 hb
  cases c with
  |false=>cases hb
  |true=>
   simp only[Ae]at hb;obtain⟨m',h1,hb⟩:=An.1 hb
   injection hb with hb
   injection hb with hb
   subst hb;exact(AB0 h1).trans hm
 rintro⟨j,m⟩ b hm hb;simp only[Ba]at hb;obtain⟨c,_,hb⟩:=An.1 hb
 cases c with
 |false=>grind
 |true=>
  simp only[Ae]at hb;obtain⟨m',h1,hb⟩:=An.1 hb;cases hb
theorem cO (f:Flash) (hf:JZ f) (hT:∀b∈f.Blocks,∀x∈b.Leaves,(L x.Text).length<=1048576) (hn:nl f.Blocks<=1048576):
  ∃r,Fe f=some r/\Gm f=some r/\r.length<=nl f.Blocks/\(∀y∈r,S9 f y)/\srt B9 r:=by
 obtain⟨X,h1,h2,h3,h4⟩:=bX f hf hT hn;obtain⟨r,h5,h6,h7⟩:=fP B9 X (by omega);obtain⟨r',h8,h9,h10⟩:=Jc B9 [] X [] (by grind);have hr:r'=r:=Og B9 h9 h6 (λk=>by rw[h7 k,<-h10 k]);subst hr;refine⟨r',?_,?_,?_,?_,h6⟩
 ·unfold Fe;rw[h1,Aa];simp only[A7,A9,Fl,HZ]at h8;unfold BS at h8;rw[show ad ((0:Nat):Int) 1=1 from rfl]at h8;have hc:Ao (λs:List Aq×Int=>KC s.1 s.2) (X,1)=Ao (λs:Int×List Aq=>Bl (NV B9) ((0:Nat):Int) (X.length:Int) s.1 s.2) (1,X):=by
   refine oP (body:=λs:Int×List Aq=>Bl (NV B9) ((0:Nat):Int) (X.length:Int) s.1 s.2) (body':=λs:List Aq×Int=>KC s.1 s.2) (λs=>(s.2,s.1)) (λs=>s.2.length=X.length) ?_ ?_ (1,X) rfl
   ·rintro⟨j,m⟩ hm;simp only at hm;simp only[KC,Bl,Bv,hm]
    cases decide (j<(X.length:Int))with
    |false=>rfl
    |true=>
     simp only[Ae];rw[sJ (body:=λs:Int×List Aq=>Ba (NV B9) ((0:Nat):Int) s.1 s.2) (body':=λs:List Aq×Int=>KA s.1 s.2) (λs=>(s.2,s.1)) (λs=>qX s.2 s.1) (j,m)];cases Ao (λs:Int×List Aq=>Ba (NV B9) ((0:Nat):Int) s.1 s.2) (j,m)<;>rfl
   rintro⟨j,m⟩ s' hm hb;simp only[Bl]at hb
   cases hc:decide (j<(X.length:Int))with
   |false=>grind
   |true=>
    rw[hc,Ae]at hb;obtain⟨m',h1,hb⟩:=An.1 hb
    injection hb with hb
    injection hb with hb
    subst hb;exact(ACD h1).trans hm
  rw[hc];exact h8
 ·unfold Gm
  grind
 ·rw[<-h7.len];exact h3
 exact λy hy=>h4 y<|(h7.mem).1 hy
theorem Oz {S:Type} {body:S->Option (S⊕List α)} (a:List α->Int->S) (g:Nat->α->α) (l0:List α) (h1:∀(i:Nat) (l:List α) x,l.length=l0.length->l[i]?=some x->l0[i]?=some x->body (a l (i:Nat))=some (.inl (a (l.set i (g i x)) ((i+1:Nat):Int)))) (h2:∀l:List α,l.length=l0.length->body (a l (l0.length:Nat))=some (.inr l)):Ao body (a l0 0)=some (l0.mapIdx g):=by
 obtain⟨b,h3,h4⟩:=AL (body:=body) a l0.length (λi l=>l.length=l0.length/\∀j,l[j]?=if j<i then(l0[j]?).map (g j)else l0[j]?) (λb=>b=l0.mapIdx g)
  (λl i hi hs=>by
   obtain⟨hl,hs⟩:=hs;have c:l0[i]?=some l0[i]:=Ab hi;have hx:l[i]?=some l0[i]:=by grind
   refine .inl ⟨_,h1 i l _ hl hx c,by grind,λj=>?_⟩;rw[EX];by_cases e:i=j
   ·grind
   grind)
  (λl hs=>⟨l,h2 l hs.1,by
   apply Ck
   grind⟩) (s:=l0) ⟨rfl,λj=>by rfl⟩
 rw[h3,h4]
abbrev Ks:=List Bz
def dk:Bz:=Bz.mk true []
def B6 (K:Ks) (i:Int):Bz:=(gi K i).getD dk
def MK (k:Bz) (j:Nat):Int:=(k.Kids[j]?).getD 0
def QU (K:Ks) (i:Nat) (leaf:Bool) (n:Int):Bool:=bif leaf then decide (0<=n)else(n== -1||(decide (0<=n/\n<=(i:Int)-1)&&(B6 K n).Leaf))
def CP (K:Ks):Bool:=K.zipIdx.all λz=>z.1.Kids.length==4&&z.1.Kids.all (QU K z.2 z.1.Leaf)
def D7 (K:Ks) (r:Int):Bool:=r== -1||(decide (0<=r/\r<(K.length:Int))&&!(B6 K r).Leaf)
def RO (K:Ks) (root:Int) (s:Nat):Int:=if root<0 then 0 else if MK (B6 K root) (s/4)<0 then 0 else MK (B6 K<|MK (B6 K root)<|s/4)<|s %4
def Fi (K:Ks) (root:Int):List Int:=(List.range 16).map<|RO K root
variable {K X:Ks}
theorem O1 (h:i<K.length):B6 K (i:Int)=K[i]:=by
 unfold B6;rw[Au,Ab h];rfl
theorem If {i:Int} (h0:0<=i) (h:i<(K.length:Int)):gi K i=some (B6 K i):=by
 unfold B6;rw[Ld h0 h];rfl
theorem E0 (x a b:Int):BK x a b=some (decide (a<=x/\x<=b)):=by
 rw[RL];simp
theorem GH:CP K=true↔∀i:Nat,i<K.length->(B6 K (i:Int)).Kids.length=4/\∀n∈(B6 K (i:Int)).Kids,QU K i (B6 K (i:Int)).Leaf n=true:=by
 unfold CP;rw[Qv];constructor
 ·intro h i hi;have:=h (K[i],i) (by grind);rw[Ai,Qv]at this;rw[O1 hi]
  grind
 intro h z hz;rw[List.mem_zipIdx_iff_getElem?]at hz;obtain⟨a,hz⟩:=Af.1 hz;have:=h z.2 a;rw[O1 a,hz]at this
 grind
theorem KH (a:Arena) (ha:a.Knots.length<=1048576):GV a=some (CP a.Knots):=by
 unfold GV;have h:=aO (body:=λs:Int=>Eh a s) a.Knots (λi k=>k.Kids.length==4&&k.Kids.all (QU a.Knots i k.Leaf)) (.inr false) (.inl ()) (by omega)
  (λi k hk=>by
   have hi:=(Af.1 hk).1;simp only[Eh,DV hi,Au,hk,Aa];by_cases h4:k.Kids.length=4
   ·have e1:(ln k.Kids !=4)=false:=by simp[ln,h4]
    have e2:(k.Kids.length==4)=true:=by simp[h4]
    simp only[e1,Ac,e2,Ii];have q:=aO (body:=λs:Int=>EI a (i:Int) k s) k.Kids (λ_ n=>QU a.Knots i k.Leaf n) (.inr<|.inr<|.inr false) (.inl ()) (by omega)
     (λj n hn=>by
      have hj:=(Af.1 hn).1;simp only[EI];rw[cT,Au,hn];simp only[Aa,QU]
      cases hl:k.Leaf with
      |true=>
       simp only[Ae,Ag,Ac];by_cases h0:n<0
       ·grind
       rw[Ah h0,Ad (by omega:0<=n)];simp only[Ac,Aa,Ae];rw[ad1]
      |false=>
       simp only[Ac,AQ,Ae];by_cases h1:n= -1
       ·subst h1;simp only[Vn,Ac,Aa,BEq.rfl,Bool.true_or,Ae];rw[ad1]
       have e3:(n != -1)=true:=by simp[h1]
       have e4:(n== -1)=false:=by simp[h1]
       rw[e3,e4];simp only[Ae,WF];rw[Co,E0];simp only[Aa];by_cases h2:0<=n/\n<=(i:Int)-1
       ·rw[Ad h2];simp only[Ag,Ac];rw[If h2.1<|by omega];simp only[Aa,Ii]
        cases(B6 a.Knots n).Leaf with
        |true=>simp only[Ag,Ac,Ae];rw[ad1]
        |false=>rfl
       grind)
     (by simp only[EI];rw[cF])
    rw[q];have hz:(k.Kids.zipIdx.all λz=>QU a.Knots i k.Leaf z.1)=k.Kids.all (QU a.Knots i k.Leaf):=by
     rw[show(λz:Int×Nat=>QU a.Knots i k.Leaf z.1)=(QU a.Knots i k.Leaf)∘Prod.fst from rfl,<-List.all_map];simp
    rw[Aa,hz]
    cases k.Kids.all (QU a.Knots i k.Leaf)with
    |true=>simp only[Ae,Br];rw[ad1]
    |false=>rfl
   have e1:(ln k.Kids !=4)=true:=by simp[ln];omega
   grind)
  (by simp only[Eh,DI])
 rw[h];unfold CP
 grind
theorem Nx (a:Arena) (ha:a.Knots.length<=1048576) (r:Int):HK a r=some (D7 a.Knots r):=by
 unfold HK D7
 cases hr:(r== -1)with
 |true=>rfl
 |false=>
  simp only[Ac,WF];rw[Bv,Co,E0];simp only[Aa];by_cases h:0<=r/\r<(a.Knots.length:Int)
  ·rw[Ad h,Ad (by omega:0<=r/\r<=(a.Knots.length:Int)-1)];simp only[Ae,Ii];rw[If h.1 h.2];rfl
  grind
theorem BX (h:D7 K r=true):r= -1\/(0<=r/\r<(K.length:Int)/\(B6 K r).Leaf=false):=by
 unfold D7 at h
 grind
theorem FN (hK:CP K=true) (h0:0<=r) (h1:r<(K.length:Int)):(B6 K r).Kids.length=4/\∀j,j<4->(B6 K r).Kids[j]?=some (MK (B6 K r) j)/\QU K r.toNat (B6 K r).Leaf (MK (B6 K r) j)=true:=by
 have:=GH.1 hK r.toNat (by omega);rw[show((r.toNat:Nat):Int)=r by omega]at this;refine⟨this.1,λj hj=>?_⟩;have a:j<(B6 K r).Kids.length:=by omega
 have e:(B6 K r).Kids[j]?=some (MK (B6 K r) j):=by unfold MK;grind
 grind
theorem G3 (hK:CP K=true) (h0:0<=r) (h1:r<(K.length:Int)) (hl:(B6 K r).Leaf=false) (hj:j<4):MK (B6 K r) j= -1\/(0<=MK (B6 K r) j/\MK (B6 K r) j<r/\(B6 K (MK (B6 K r) j)).Leaf=true):=by
 have:=((FN hK h0 h1).2 j hj).2;rw[hl]at this;simp only[QU,Ac,CJ,Da,Ai,A4]at this
 grind
theorem AAU (hK:CP K=true) (h0:0<=r) (h1:r<(K.length:Int)) (hl:(B6 K r).Leaf=true) (hj:j<4):0<=MK (B6 K r) j:=by
 have:=((FN hK h0 h1).2 j hj).2;rw[hl]at this;simpa[QU]using this
theorem qu4 {s:Nat} (h:s<16):qu (s:Int) 4=((s/4:Nat):Int):=by
 unfold qu;rw[show Int.tdiv (s:Int) 4=((s/4:Nat):Int) by rfl];exact P2 (by omega)<|by omega
theorem zK {s:Nat}:Int.tmod (s:Int) 4=((s %4:Nat):Int):=by rfl
theorem XJ {s:Nat} (a:Arena) (hK:CP a.Knots=true) (hr:D7 a.Knots r=true) (hs:s<16):On a r (s:Int)=some (RO a.Knots r s):=by
 unfold On RO
 rcases BX hr with rfl|⟨h0,h1,hl⟩
 ·rfl
 rw[Ah (by omega:¬r<0),AH (by omega),Ac,If h0 h1];rw[Aa,qu4 hs,Au,((FN hK h0 h1).2 (s/4)<|by omega).1];simp only[Aa]
 rcases G3 hK h0 h1 hl (show s/4<4 by omega)with e|⟨e1,e2,e3⟩
 ·rw[e];rfl
 rw[Ah (by omega),AH (by omega),Ac,If e1<|by omega];rw[Aa,zK,Au,((FN hK e1<|by omega).2 (s %4)<|by omega).1];rfl
theorem ZM {s:Nat} (a:Arena) (ha:a.Knots.length<=1048576) (hK:CP a.Knots=true) (hr:D7 a.Knots r=true) (hs:s<16):QD a r (s:Int)=some (RO a.Knots r s):=by
 unfold QD;rw[KH a ha,Nx a ha,E0,hK,hr];simp only[Aa,Ag,Ac];rw[Ad (by omega:0<=(s:Int)/\(s:Int)<=15)];simp only[Ag,Ac];rw[XJ a hK hr hs]
 try rfl
theorem Ot (a:Arena) (ha:a.Knots.length<=1048576) (hK:CP a.Knots=true) (hr:D7 a.Knots r=true):Ic a r=some (Fi a.Knots r):=by
 unfold Ic;obtain⟨b,h1,h2⟩:=AL (body:=λs:List Int×Int=>LI a r s.1 s.2) (λ(o:List Int) i=>(o,i)) 16 (λi o=>o=(List.range i).map (RO a.Knots r)) (λb=>b=Fi a.Knots r)
  (λo i hi ho=>by
   refine .inl ⟨_,?_,rfl⟩;simp only[LI]
   rw[cT,ZM a ha hK hr hi,Aa,BD (by rw[ho];simp;omega),Aa,ad1,ho,Ep,Ca,List.map_singleton])
  (λo ho=>⟨_,by rfl,ho⟩) (s:=[]) rfl
 rw[h1,h2];rfl
theorem Ma {by_:Nat} (h:l.length*by_<=140737488355328):ap by_ [] l=some l:=by
 rw[BD (by simpa using h),A7]
def ABk (K:Ks):Prop:=K.length<=1048576/\∀k∈K,k.Kids.length<=1048576
theorem Lh (hK:CP K=true) (h:K.length<=1048576):ABk K:=by
 refine⟨h,λk hk=>?_⟩;obtain⟨i,hi,rfl⟩:=A5 hk;have:=(GH.1 hK i hi).1;rw[O1 hi]at this;omega
theorem VK (a:Arena) (h:ABk a.Knots):NP a=some a:=by
 unfold NP;have h1:=S7 (body:=λs:Int×List Bz=>K4 a s.1 s.2) a.Knots (λk=>k)
  (λi k b hk ho=>by
   have hi:=(Af.1 hk).1;have hm:=h.2 k<|Ar hk;have:=h.1;simp only[K4,DV hi,Au,hk,Aa]
   rw[Ma (by omega),Aa,BD (by simp;omega),Aa,ad1])
  (λb=>by simp only[K4,DI])
 rw[h1];simp
theorem Gu (s:Store) (h:ABk s.Arena.Knots) (hv:s.Vols.length<=1048576):Ej s=some s:=by
 unfold Ej;rw[Ma (by omega),VK _ h];rfl
def Pm (K:Ks) (r:Int) (s:Nat) (n:Int):List Int:=(if r<0 then [0,0,0,0]else if MK (B6 K r) (s/4)<0 then [0,0,0,0]else(B6 K<|MK (B6 K r)<|s/4).Kids).set (s %4) n
def TS (K:Ks) (r:Int) (s:Nat):List Int:=(if r<0 then [-1,-1,-1,-1]else(B6 K r).Kids).set (s/4) (K.length:Int)
def J6 (K:Ks) (r:Int) (s:Nat) (n:Int):Ks:=K++ [Bz.mk true<|Pm K r s n,Bz.mk false<|TS K r s]
theorem mk4:mk 8 (0:Int) 4=some [0,0,0,0]:=by rfl
theorem pD {k:Bz} (h:j<k.Kids.length):gi k.Kids (j:Int)=some (MK k j):=by
 unfold MK;rw[Au,Ab h];rfl
theorem ZI {s:Nat} (a:Arena) (ha:a.Knots.length<=1048000) (hK:CP a.Knots=true) (hr:D7 a.Knots r=true) (hs:s<16) (hn:0<=n):
  YN a r (s:Int) n=some (Arena.mk (J6 a.Knots r s n),(a.Knots.length:Int)+1):=by
 unfold YN;rw[VK _ (Lh hK<|by omega),KH a (by omega),Nx a (by omega),E0,hK,hr];simp only[Aa,Ag,Ac];rw[Ad (by omega:0<=(s:Int)/\(s:Int)<=15),Ah (by omega:¬n<0)];simp only[Ag,Ac,Aa];rw[mk4];simp only[Aa];have fin:∀(lf tp:List Int),lf.length=4->tp.length=4->J6 a.Knots r s n=a.Knots++ [Bz.mk true<|lf.set (s %4) n,Bz.mk false<|tp.set (s/4) (a.Knots.length:Int)]->
   ((gi lf<|Int.tmod (s:Int) 4).bind λx4=>(gi tp<|qu (s:Int) 4).bind λx5=>(ap 32 a.Knots [Bz.mk true<|si lf (Int.tmod (s:Int) 4) n,Bz.mk false<|si tp (qu (s:Int) 4)<|ln a.Knots]).bind λq4=>some (Arena.mk q4,sb (ln q4) 1))=some (Arena.mk<|J6 a.Knots r s n,(a.Knots.length:Int)+1):=by
  intro lf tp h1 h2 h3;rw[qu4 hs,zK,Au,Au,Ab (by omega),Ab<|by omega];simp only[Aa];rw[BD (by simp;omega),Em,Em,Bv,<-h3];simp only[Aa];rw[Bv,h3,Ak,Co (by simp;omega) (by simp;omega)]
  grind
 rcases BX hr with rfl|⟨h0,h1,hl⟩
 ·rw[Ah (by omega:¬(-1:Int)>=0)];simp only[Ac,Aa];exact fin _ _ rfl rfl rfl
 rw[cT,If h0 h1];have h4:=(FN hK h0 h1).1;simp only[Aa];rw[Ma<|by omega];simp only[Aa];rw[qu4 hs,pD (by omega:s/4<(B6 a.Knots r).Kids.length)];simp only[Aa];rw[<-qu4 hs]
 rcases G3 hK h0 h1 hl (show s/4<4 by omega)with e|⟨e1,e2,e3⟩
 ·rw[Ah (by omega:¬MK (B6 a.Knots r) (s/4)>=0)];simp only[Ac,Aa];exact fin _ _ rfl h4 (by unfold J6 Pm TS;simp only[AH (show¬r<0 by omega),AG<|show MK (B6 a.Knots r) (s/4)<0 by omega])
 rw[cT,If e1<|by omega];have h5:=(FN hK e1<|by omega).1;simp only[Aa];rw[Ma<|by omega];simp only[Aa];exact fin _ _ h5 h4 (by unfold J6 Pm TS;grind)
def OI (K:Ks) (r:Int) (i:Nat):Bool:=decide (0<=r)&&(decide (r=(i:Int))||(B6 K r).Kids.any λn=>decide<|n=(i:Int))
theorem kN (n:Nat) (f:Nat->α) (g:Nat->α->α):((List.range n).map f).mapIdx g=(List.range n).map λi=>g i (f i):=by
 apply Ck
 grind
theorem PT (n:Nat) (f:Nat->α) (i:Nat) (x:α) (g:Nat->α) (h:∀j,j<n->g j=if j=i then x else f j):((List.range n).map f).set i x=(List.range n).map g:=by
 apply Ck
 grind
theorem HM {n:Nat} {f:Nat->α} (h:i<n):((List.range n).map f)[i]?=some (f i):=by grind
theorem V7 {l:List Int} {m:Nat} (h:l[m]?=some x) (p:Int->Bool):(l.take (m+1)).any p=((l.take m).any p||p x):=by
 rw[DX,h,List.any_append];simp
theorem nJ (a:Arena) (ha:a.Knots.length<=1048576) (hK:CP a.Knots=true) (hr:D7 a.Knots r=true):VJ a r=some ((List.range a.Knots.length).map (OI a.Knots r)):=by
 unfold VJ;rw[Bv,aL (by omega)<|by omega];simp only[Aa]
 rcases BX hr with rfl|⟨h0,h1,hl⟩
 ·simp only[show decide ((-1:Int)<0)=true from rfl,Ae];congr 1;rw[show(OI a.Knots<|-1)=λ_=>false from rfl,Np,DY]
 rw[cF];obtain⟨m,rfl⟩:∃m:Nat,r=(m:Int):=⟨r.toNat,by omega⟩;rw[Au,List.getElem?_replicate,AG<|by omega];simp only[Aa];rw[Em];obtain⟨h4,hk⟩:=FN hK h0 h1;obtain⟨b,q1,q2⟩:=AL (body:=λs:List Bool×Int=>M2 a (m:Int) s.1 s.2) (λ(o:List Bool) i=>(o,i)) 4
  (λi o=>o=(List.range a.Knots.length).map λ(j:Nat)=>decide ((m:Int)=(j:Int))||((B6 a.Knots (m:Int)).Kids.take i).any λn=>decide<|n=(j:Int))
  (λb=>b=(List.range a.Knots.length).map (OI a.Knots (m:Int)))
  (λo i hi ho=>by
   obtain⟨e,_⟩:=hk i hi;simp only[M2];rw[cT,If h0 h1];simp only[Aa];rw[Au,e];simp only[Aa]
   rcases G3 hK h0 h1 hl hi with e1|⟨e1,e2,e3⟩
   ·rw[e1,cF,ad1];refine .inl ⟨o,rfl,?_⟩;rw[ho];apply CX;intro j hj;rw[V7 e,e1,Ah (by omega:¬(-1:Int)=(j:Int)),Bool.or_false]
   obtain⟨c,hc⟩:∃c:Nat,MK (B6 a.Knots (m:Int)) i=(c:Int):=⟨(MK (B6 a.Knots (m:Int)) i).toNat,by omega⟩;rw[hc,cT]
   try simp only[Aa]
   rw[ho,Au,HM<|by omega];simp only[Aa];rw[Em,ad1];refine .inl ⟨_,rfl,?_⟩;apply PT;intro j hj;rw[V7 e,hc]
   grind)
  (λo ho=>⟨_,by simp only[M2];rw[cF],by
   rw[ho];apply CX;intro j hj;rw[AO<|by omega]
   rfl⟩) (s:=(List.replicate a.Knots.length false).set m true) (by
   rw[<-DY (n:=a.Knots.length),<-Np,DY];apply PT
   grind)
 rw[q1,q2];rfl
def CC (K:Ks) (R:List Int) (i:Nat):Bool:=R.any λr=>OI K r i
def dY (K:Ks) (R:List Int) (i:Nat):Nat:=((List.range i).filter<|CC K R).length
def PE (K:Ks) (R:List Int) (n:Int):Int:=if 0<=n then(dY K R n.toNat:Int)else n
def YJ (K:Ks) (R:List Int) (i:Nat):Bz:=Bz.mk (B6 K (i:Int)).Leaf<|bif(B6 K (i:Int)).Leaf then(B6 K (i:Int)).Kids else(B6 K (i:Int)).Kids.map<|PE K R
def Ui (K:Ks) (R:List Int):Ks:=((List.range K.length).filter<|CC K R).map<|YJ K R
theorem IZ (l:List α) (f:α->α):l.mapIdx (λ_ x=>f x)=l.map f:=by
 apply Ck
 grind
theorem PH (hr:r∈R) (h0:0<=r):CC K R r.toNat=true:=by
 unfold CC;rw[Dd];exact⟨r,hr,by unfold OI;rw[Ad h0,Ad (by omega:r=(r.toNat:Int))];rfl⟩
theorem Zr (hK:CP K=true) (hR:∀r∈R,D7 K r=true) (hu:CC K R i=true) (hl:(B6 K (i:Int)).Leaf=false):(i:Int)∈R:=by
 unfold CC at hu;rw[Dd]at hu;obtain⟨r,hr,h⟩:=hu;unfold OI at h;simp only[Ai,CJ,A4,Dd]at h;obtain⟨h0,h⟩:=h
 rcases h with h|⟨n,hn,h⟩
 ·rw[<-h];exact hr
 rcases BX (hR r hr)with e|⟨_,h1,a⟩
 ·omega
 obtain⟨h4,hk⟩:=FN hK h0 h1;obtain⟨j,hj,b⟩:=A5 hn;have e:=(hk j<|by omega).1;rw[Ab hj,b]at e
 injection e with e
 rcases G3 hK h0 h1 a (show j<4 by omega)with k1|⟨_,_,k3⟩
 ·omega
 grind
theorem Vz (hr:r∈R) (h0:0<=r) (hn:n∈(B6 K r).Kids) (h1:0<=n):CC K R n.toNat=true:=by
 unfold CC;rw[Dd];refine⟨r,hr,?_⟩;unfold OI;rw[Ad h0,Ii,CJ,Dd]
 grind
theorem ADe (i:Nat):dY K R i<=i:=by
 have:=BG (CC K R)<|List.range i;rw[DY]at this;exact this
theorem dM (a:Arena) (ha:a.Knots.length<=1048576) (R:List Int) (hc:R.length<=1048576) (hR:∀r∈R,D7 a.Knots r=true):Ao (λs:Bool×Int=>Ge a R s.1 s.2) (true,0)=some true:=by
 obtain⟨b,h1,h2⟩:=AL (body:=λs:Bool×Int=>Ge a R s.1 s.2) (λ(o:Bool) i=>(o,i)) R.length (λ_ o=>o=true) (λb=>b=true)
  (λo i hi ho=>by
   have hx:=Ab hi;simp only[Ge,FV,Ad hi,Ae,Aa,ho,Au,hx];rw[Nx a ha,hR _<|A0 hi,Aa,ad1]
   grind)
  (λo ho=>⟨o,by simp only[Ge,FV,Dw,EW,Ac,Aa],ho⟩) (s:=true) rfl
 grind
theorem jN (a:Arena) (ha:a.Knots.length<=1048576) (hK:CP a.Knots=true) (R:List Int) (hc:R.length<=1048576) (hR:∀r∈R,D7 a.Knots r=true):
  Ao (λs:List Bool×Int=>Gd a R s.1 s.2) (List.replicate a.Knots.length false,0)=some ((List.range a.Knots.length).map (CC a.Knots R)):=by
 obtain⟨b,h1,h2⟩:=AL (body:=λs:List Bool×Int=>Gd a R s.1 s.2) (λ(o:List Bool) i=>(o,i)) R.length (λi o=>o=(List.range a.Knots.length).map λ(j:Nat)=>(R.take i).any λr=>OI a.Knots r j) (λb=>b=(List.range a.Knots.length).map (CC a.Knots R))
  (λo i hi ho=>by
   have hx:=Ab hi;simp only[Gd,DV hi,Aa,Au,hx];rw[nJ a ha hK<|hR _<|A0 hi];simp only[Aa];have d:o.length=a.Knots.length:=by rw[ho];simp
   have q:=Oz (body:=λs:List Bool×Int=>HC ((List.range a.Knots.length).map<|OI a.Knots R[i]) s.1 s.2) (λl i=>(l,i)) (λk x=>x||OI a.Knots R[i] k) o
    (λk l x hl c e=>by
     have hk:k<a.Knots.length:=by grind
     simp only[HC,FV];rw[Ad (by simpa using hk),Ae,Au,c];simp only[Aa]
     cases x with
     |true=>simp only[Ae,Bool.true_or];rw[Em,ad1]
     |false=>
      simp only[Ac,WF]
      rw[Au,HM hk,Aa,Em,ad1])
    (λl hl=>by simp only[HC,FV];grind)
   rw[q,Aa,ad1,ho,kN];refine .inl ⟨_,rfl,?_⟩;apply CX;intro j hj;rw[DX,hx,List.any_append]
   simp)
  (λo ho=>⟨o,by simp only[Gd,DI],by rw[ho,AO<|by omega];rfl⟩) (s:=List.replicate a.Knots.length false) (by
   simp only[Jk,List.any_nil]
   rw[Np,DY])
 rw[<-h2];exact h1
def TU (K:Ks) (R:List Int) (i:Nat):List Int:=(List.range K.length).map λ(j:Nat)=>if j<i/\CC K R j=true then(dY K R j:Int)else 0
theorem dN (a:Arena) (ha:a.Knots.length<=1048576) (hK:CP a.Knots=true) (R:List Int) (hR:∀r∈R,D7 a.Knots r=true):
  Ao (λs:List Int×Int×List Bz=>Gc a ((List.range a.Knots.length).map (CC a.Knots R)) s.1 s.2.1 s.2.2) (List.replicate a.Knots.length 0,0,[])=some (TU a.Knots R a.Knots.length,Ui a.Knots R):=by
 obtain⟨b,h1,h2⟩:=AL (body:=λs:List Int×Int×List Bz=>Gc a ((List.range a.Knots.length).map<|CC a.Knots R) s.1 s.2.1 s.2.2) (λ(o:List Int×List Bz) i=>(o.1,i,o.2)) a.Knots.length
  (λi o=>o=(TU a.Knots R i,((List.range i).filter<|CC a.Knots R).map<|YJ a.Knots R)) (λb=>b=(TU a.Knots R a.Knots.length,Ui a.Knots R))
  (λo i hi ho=>by
   subst ho;simp only[Gc,DV hi];rw[Au,HM hi];simp only[Aa]
   cases hu:CC a.Knots R i with
   |false=>
    simp only[AQ,Ae];rw[ad1];refine .inl ⟨(TU a.Knots R i,((List.range i).filter<|CC a.Knots R).map<|YJ a.Knots R),rfl,?_⟩;congr 1
    ·unfold TU
     grind
    rw[Ep,AI,E5 (by rw[hu];simp)];simp
   |true=>
    simp only[Ag,Ac];have h0:(0:Int)<=(i:Int):=by omega
    have d:(i:Int)<(a.Knots.length:Int):=by omega
    rw[If h0 d];obtain⟨h4,hk⟩:=FN hK h0 d;simp only[Aa];rw[Ma<|by omega];simp only[Aa];have inner:Ao (λs:Int×List Int=>Gb (TU a.Knots R i) ((B6 a.Knots (i:Int)).Leaf,(B6 a.Knots (i:Int)).Kids) s.1 s.2) (0,(B6 a.Knots (i:Int)).Kids)=some (YJ a.Knots R i).Kids:=by
     unfold YJ
     cases hl:(B6 a.Knots (i:Int)).Leaf with
     |true=>rw[Aw];rfl
     |false=>
      have q:=Oz (body:=λs:Int×List Int=>Gb (TU a.Knots R i) (false,(B6 a.Knots (i:Int)).Kids) s.1 s.2) (λl k=>(k,l)) (λ_ x=>PE a.Knots R x) (B6 a.Knots (i:Int)).Kids
       (λk l x h j m=>by
        have n:k<4:=by grind
        have ex:x=MK (B6 a.Knots (i:Int)) k:=by grind
        simp only[Gb];rw[Ad (by omega:(k:Int)<4)];simp only[Ae,Aa,AQ];rw[Au,j];simp only[Aa]
        rcases G3 hK h0 d hl n with e|⟨e1,e2,e3⟩
        ·rw[cF,ad1];have:PE a.Knots R x=x:=by unfold PE;omega
         rw[this,show l.set k x=l from by
          apply Ck
          grind]
        rw[cT];obtain⟨c,hc⟩:∃c:Nat,x=(c:Int):=⟨x.toNat,by omega⟩;have p:x∈(B6 a.Knots (i:Int)).Kids:=Ar m;have f:=Vz (Zr hK hR hu hl) h0 p (by omega);rw[hc]at f;rw[hc,Au];unfold TU;rw[HM (by omega),Aa,AG ⟨by omega,f⟩,Em,ad1]
        rfl)
       (λl h=>by
        simp only[Gb]
        grind)
      rw[IZ]at q;exact q
    rw[inner];simp only[Aa];have t:gi (TU a.Knots R i) (i:Int)=some 0:=by
     unfold TU;rw[Au,HM hi,AH<|by omega]
    rw[t];simp only[Aa];have u:=ADe (K:=a.Knots) (R:=R) i;have g:(((List.range i).filter<|CC a.Knots R).map<|YJ a.Knots R).length=dY a.Knots R i:=by rw[Bs];rfl
    rw[BD (by rw[g];simp;omega),Aa,ad1,Bv,g,Em];refine .inl ⟨(_,_),rfl,?_⟩;congr 1
    ·unfold TU;apply PT
     grind
    rw[Ep,AI,DB hu,Nq,Ca]
    rfl)
  (λo ho=>⟨o,by simp only[Gc,DI],ho⟩) (s:=(List.replicate a.Knots.length 0,[])) (by
   unfold TU;simp only[Nat.not_lt_zero,false_and,FU];rw[Np,DY]
   rfl)
 rw[<-h2];exact h1
theorem rN (a:Arena) (ha:a.Knots.length<=1048576) (R:List Int) (hc:R.length<=1048576) (hR:∀r∈R,D7 a.Knots r=true):
  Ao (λs:List Int×Int=>Ga (TU a.Knots R a.Knots.length,Ui a.Knots R) s.1 s.2) (R,0)=some (R.map (PE a.Knots R)):=by
 have q:=Oz (body:=λs:List Int×Int=>Ga (TU a.Knots R a.Knots.length,Ui a.Knots R) s.1 s.2) (λl k=>(l,k)) (λ_ x=>PE a.Knots R x) R
  (λk l x d f b=>by
   have hk:=(Af.1 b).1;have i:=(Af.1 f).1;simp only[Ga,DV i,Au,f,Aa]
   rcases BX (hR x<|Ar b)with e|⟨e1,e2,e3⟩
   ·rw[cF,ad1];have:PE a.Knots R x=x:=by unfold PE;omega
    rw[this,show l.set k x=l from by
     apply Ck
     grind]
   rw[cT];obtain⟨c,g⟩:∃c:Nat,x=(c:Int):=⟨x.toNat,by omega⟩;have h:=PH (K:=a.Knots) (Ar b) e1;rw[g]at h;rw[g,Au];unfold TU;rw[HM (by omega),Aa,AG ⟨by omega,h⟩,Em,ad1]
   rfl)
  (λl d=>by simp only[Ga,Bv,d];rw[cF])
 rw[IZ]at q;exact q
theorem ZF (a:Arena) (ha:a.Knots.length<=1048576) (hK:CP a.Knots=true) (R:List Int) (hc:R.length<=1048576) (hR:∀r∈R,D7 a.Knots r=true):
  K6 a R=some (Arena.mk (Ui a.Knots R),R.map (PE a.Knots R)):=by
 unfold K6;rw[Ma (by omega),KH a ha,hK];simp only[Aa];rw[dM a ha R hc hR];simp only[Aa,Ag,Ac];rw[Bv,aL (by omega)<|by omega];simp only[Aa];rw[jN a ha hK R hc hR];simp only[Aa];rw[aL (by omega)<|by omega];simp only[Aa];rw[dN a ha hK R hR];simp only[Aa];rw[rN a ha R hc hR];rfl
theorem bQ (p:Nat->Bool) (hp:p i=true):∀{n:Nat},i<n->((List.range n).filter p)[((List.range i).filter p).length]?=some i
 |0,h=>by omega
 |n+1,h=>by
  rw[Ep,AI];by_cases e:i=n
  ·grind
  have h2:=bQ p hp<|show i<n by omega
  grind
theorem pH {n:Nat} (p:Nat->Bool) (hp:p i=true) (h:i<n):((List.range i).filter p).length<((List.range n).filter p).length:=(Af.1<|bQ p hp h).1
theorem pG (p:Nat->Bool):∀{n j:Nat},j<((List.range n).filter p).length->∃i,i<n/\p i=true/\((List.range i).filter p).length=j
 |0,j,h=>by simp at h
 |n+1,j,h=>by
  rw[Ep,AI,Ak]at h;by_cases e:j<((List.range n).filter p).length
  ·obtain⟨i,h1,h2,h3⟩:=pG p e
   grind
  grind
theorem i8:(Ui K R).length=dY K R K.length:=by unfold Ui dY;rw[Bs]
theorem Tk (hu:CC K R i=true) (hi:i<K.length):B6 (Ui K R) (dY K R i:Nat)=YJ K R i/\dY K R i<(Ui K R).length:=by
 have h:=pH (CC K R) hu hi;have h2:dY K R i<(Ui K R).length:=by rw[i8];exact h
 refine⟨?_,h2⟩;unfold B6;rw[Au];unfold Ui;rw[CM];have:=bQ (CC K R) hu hi;rw[show dY K R i=((List.range i).filter<|CC K R).length from rfl,this];rfl
theorem zN (hj:j<(Ui K R).length):∃i,i<K.length/\CC K R i=true/\dY K R i=j:=by
 rw[i8]at hj;exact pG (CC K R) hj
theorem AEz (hu:CC K R i=true) (h:i<j):dY K R i<dY K R j:=pH _ hu h
theorem Z0 (i:Nat):(YJ K R i).Leaf=(B6 K (i:Int)).Leaf:=rfl
theorem uJ (hK:CP K=true) (hi:i<K.length):(YJ K R i).Kids.length=4:=by
 have:=(GH.1 hK i hi).1;unfold YJ
 grind
theorem uK (hl:(B6 K (i:Int)).Leaf=false) (hj:j<(B6 K (i:Int)).Kids.length):MK (YJ K R i) j=PE K R (MK (B6 K (i:Int)) j):=by
 unfold MK YJ
 grind
theorem Ug (hl:(B6 K (i:Int)).Leaf=true):(YJ K R i).Kids=(B6 K (i:Int)).Kids:=by
 unfold YJ;rw[hl];rfl
theorem YO (h:n<0):PE K R n=n:=by unfold PE;omega
theorem Ty (n:Nat):PE K R (n:Int)=(dY K R n:Int):=by rfl
theorem ADA (hK:CP K=true) (hR:∀r∈R,D7 K r=true):CP (Ui K R)=true:=by
 rw[GH];intro j hj;obtain⟨i,hi,hu,rfl⟩:=zN hj;rw[(Tk hu hi).1];refine⟨uJ hK hi,λn hn=>?_⟩;have h0:(0:Int)<=(i:Int):=by omega
 have h1:(i:Int)<(K.length:Int):=by omega
 obtain⟨h4,hk⟩:=FN hK h0 h1;rw[Z0]
 cases hl:(B6 K (i:Int)).Leaf with
 |true=>
  rw[Ug hl]at hn;have:=(GH.1 hK i hi).2 n hn;rw[hl]at this;simpa[QU]using this
 |false=>
  obtain⟨m,hm,b⟩:=A5 hn;rw[uJ hK hi]at hm;have e:n=PE K R (MK (B6 K (i:Int)) m):=by
   rw[<-uK hl (by omega),<-b];unfold MK
   grind
  rcases G3 hK h0 h1 hl hm with k1|⟨k1,k2,k3⟩
  ·rw[k1,YO<|by omega]at e;subst e;rfl
  obtain⟨c,hc⟩:∃c:Nat,MK (B6 K (i:Int)) m=(c:Int):=⟨_,(AS k1).symm⟩;rw[hc]at e k2 k3;rw[Ty]at e;have a:=Vz (Zr hK hR hu hl) h0 (Ar (hk m hm).1) (by omega);rw[hc]at a;have d:c<K.length:=by omega
  have f:dY K R c<dY K R i:=AEz (by simpa using a) (by omega);subst e;simp only[QU,Ac,CJ,Da,Ai,A4];refine .inr ⟨by omega,?_⟩;rw[(Tk (by simpa using a) d).1,Z0];exact k3
theorem AAi (hR:∀r∈R,D7 K r=true) (hr:r∈R):D7 (Ui K R) (PE K R r)=true:=by
 rcases BX (hR r hr)with e|⟨h0,h1,hl⟩
 ·rw[e,YO<|by omega];rfl
 obtain⟨c,rfl⟩:∃c:Nat,r=(c:Int):=⟨_,(AS h0).symm⟩;have a:=PH (K:=K) hr h0;rw[Bi]at a;obtain⟨g1,g2⟩:=Tk a (by omega);rw[Ty];unfold D7;rw[Ad (by omega),g1,Z0,hl];simp
theorem uV (hK:CP K=true) (hR:∀r∈R,D7 K r=true) (hr:r∈R):Fi (Ui K R) (PE K R r)=Fi K r:=by
 unfold Fi;apply CX;intro s hs;rw[Ln]at hs;unfold RO
 rcases BX (hR r hr)with e|⟨h0,h1,hl⟩
 ·rw[e,YO (by omega),AG (by omega),AG<|by omega]
 obtain⟨c,rfl⟩:∃c:Nat,r=(c:Int):=⟨_,(AS h0).symm⟩;have a:=PH (K:=K) hr h0;rw[Bi]at a;obtain⟨g1,g2⟩:=Tk a (by omega);obtain⟨h4,hk⟩:=FN hK h0 h1;rw[Ty,g1,uK hl<|by omega];simp only[AH (show¬((dY K R c:Nat):Int)<0 by omega),AH<|show¬((c:Nat):Int)<0 by omega]
 rcases G3 hK h0 h1 hl (show s/4<4 by omega)with k1|⟨k1,k2,k3⟩
 ·rw[k1,YO<|by omega];rfl
 obtain⟨d,hd⟩:∃d:Nat,MK (B6 K (c:Int)) (s/4)=(d:Int):=⟨_,(AS k1).symm⟩;have b:=Vz hr h0 (Ar (hk (s/4)<|by omega).1) k1;rw[hd]at b k2 k3;rw[hd,Ty];simp only[AH (show¬((dY K R d:Nat):Int)<0 by omega),AH<|show¬((d:Nat):Int)<0 by omega];rw[(Tk (by simpa using b)<|by omega).1];unfold MK;rw[Ug k3]
theorem AB1 (hK:CP K=true) (hR:∀r∈R,D7 K r=true) (hj:j<(Ui K R).length):CC (Ui K R) (R.map (PE K R)) j=true:=by
 obtain⟨i,hi,hu,rfl⟩:=zN hj;have hu':=hu;unfold CC at hu';rw[Dd]at hu';obtain⟨r,hr,h⟩:=hu';unfold OI at h;simp only[Ai,CJ,A4,Dd]at h;obtain⟨h0,h⟩:=h;unfold CC;rw[Dd];refine⟨PE K R r,AA.2 ⟨r,hr,rfl⟩,?_⟩;obtain⟨c,rfl⟩:∃c:Nat,r=(c:Int):=⟨_,(AS h0).symm⟩;rw[Ty];unfold OI;simp only[Ai,CJ,A4,Dd];refine⟨by omega,?_⟩
 rcases h with h|⟨n,hn,h⟩
 ·grind
 right
 rcases BX (hR _ hr)with e|⟨_,h1,hl⟩
 ·omega
 have a:=PH (K:=K) hr h0;rw[Bi]at a;rw[(Tk a<|by omega).1];refine⟨(dY K R i:Int),?_,rfl⟩;unfold YJ;rw[hl];simp only[Ac,AA];exact⟨n,hn,by rw[h,Ty]⟩
theorem O2 {i:Int} (h0:0<=i) (h:i<(K.length:Int)):B6 (K++X) i=B6 K i:=by
 obtain⟨c,rfl⟩:∃c:Nat,i=(c:Int):=⟨_,(AS h0).symm⟩;unfold B6;rw[Au,Au,Cf<|by omega]
theorem AAf (h:D7 K r=true):D7 (K++X) r=true:=by
 rcases BX h with e|⟨h0,h1,hl⟩
 ·rw[e];rfl
 unfold D7;rw[O2 h0 h1,hl,Ad<|by grind];simp
theorem uR (hK:CP K=true) (h:D7 K r=true):Fi (K++X) r=Fi K r:=by
 unfold Fi;apply CX;intro s hs;rw[Ln]at hs;unfold RO
 rcases BX h with e|⟨h0,h1,hl⟩
 ·rw[e];rfl
 rw[O2 h0 h1];simp only[AH<|show¬r<0 by omega]
 rcases G3 hK h0 h1 hl (show s/4<4 by omega)with k1|⟨k1,k2,k3⟩
 ·rw[k1];rfl
 rw[O2 k1<|by omega]
theorem gW {s:Nat} (hK:CP K=true) (hr:D7 K r=true) (hs:s<16) (n:Int):(Pm K r s n).length=4:=by
 unfold Pm;rw[HT]
 rcases BX hr with e|⟨h0,h1,hl⟩
 ·grind
 rw[AH<|by omega]
 rcases G3 hK h0 h1 hl (show s/4<4 by omega)with k1|⟨k1,k2,k3⟩
 ·grind
 rw[AH<|by omega];exact(FN hK k1<|by omega).1
theorem m6 (hK:CP K=true) (hr:D7 K r=true) (s:Nat):(TS K r s).length=4:=by
 unfold TS;rw[HT]
 rcases BX hr with e|⟨h0,h1,hl⟩
 ·grind
 rw[AH<|by omega];exact(FN hK h0 h1).1
theorem Xj {s:Nat}:B6 (J6 K r s n) (K.length:Int)=Bz.mk true (Pm K r s n):=by
 unfold B6 J6;rw[Au,B8<|Ax _,Nat.sub_self];rfl
theorem Xi {s:Nat}:B6 (J6 K r s n) ((K.length:Int)+1)=Bz.mk false (TS K r s):=by
 unfold B6 J6;rw[show(K.length:Int)+1=((K.length+1:Nat):Int)from rfl,Au,B8 (by omega),show K.length+1-K.length=1 by omega];rfl
theorem ADK {s:Nat} (hK:CP K=true) (hr:D7 K r=true) (hs:s<16) (hn:0<=n):CP (J6 K r s n)=true:=by
 rw[GH];intro j hj;have a:(J6 K r s n).length=K.length+2:=by unfold J6;simp
 rw[a]at hj;by_cases h:j<K.length
 ·have hk:B6 (J6 K r s n) (j:Int)=B6 K (j:Int):=O2 (by omega) (by omega);rw[hk];obtain⟨h4,h5⟩:=GH.1 hK j h;refine⟨h4,λm hm=>?_⟩;have:=h5 m hm
  cases hl:(B6 K (j:Int)).Leaf with
  |true=>rw[hl]at this;exact this
  |false=>
   rw[hl]at this;simp only[QU,Ac,CJ,Da,Ai,A4]at this⊢
   rcases this with e|⟨e1,e2⟩
   ·exact .inl e
   refine .inr ⟨e1,?_⟩;rw[show B6 (J6 K r s n) m=B6 K m from O2 e1.1<|by omega];exact e2
 by_cases e:j=K.length
 ·subst e;rw[Xj];refine⟨gW hK hr hs n,λm hm=>?_⟩;simp only[QU,Ae,A4];unfold Pm at hm
  rcases CH hm with hm|hm
  ·rcases BX hr with e|⟨h0,h1,hl⟩
   ·grind
   rw[AH<|by omega]at hm
   rcases G3 hK h0 h1 hl (show s/4<4 by omega)with k1|⟨k1,k2,k3⟩
   ·grind
   rw[AH<|by omega]at hm;have hq:=GH.1 hK (MK (B6 K r)<|s/4).toNat (by omega);rw[AS k1,k3]at hq;have:=hq.2 m hm;simpa[QU]using this
  omega
 have:j=K.length+1:=by omega
 subst this;rw[show((K.length+1:Nat):Int)=(K.length:Int)+1 from rfl,Xi];refine⟨m6 hK hr s,λm hm=>?_⟩;simp only[QU,Ac,CJ,Da,Ai,A4];unfold TS at hm
 rcases CH hm with hm|hm
 ·rcases BX hr with e|⟨h0,h1,hl⟩
  ·grind
  rw[AH<|by omega]at hm;obtain⟨q,hq,rfl⟩:=A5 hm;obtain⟨h4,hk⟩:=FN hK h0 h1;have e5:=(hk q<|by omega).1;rw[Ab hq]at e5
  injection e5 with e5
  rw[e5]
  rcases G3 hK h0 h1 hl (show q<4 by omega)with k1|⟨k1,k2,k3⟩
  ·exact .inl k1
  refine .inr ⟨by omega,?_⟩;rw[show B6 (J6 K r s n) (MK (B6 K r) q)=B6 K (MK (B6 K r) q)from O2 k1 (by omega)];exact k3
 refine .inr ⟨by omega,?_⟩;rw[hm,Xj]
theorem wR {s:Nat}:D7 (J6 K r s n) ((K.length:Int)+1)=true:=by
 unfold D7;rw[Xi,Ad (by unfold J6;simp;omega)];simp
theorem u0 {s:Nat} (hK:CP K=true) (hr:D7 K r=true) (hs:s<16):Fi (J6 K r s n) ((K.length:Int)+1)=(Fi K r).set s n:=by
 unfold Fi;symm;apply PT;intro t ht;unfold RO;rw[Xi];simp only[AH<|show¬((K.length:Int)+1)<0 by omega];have b:=m6 hK hr s;have a:=gW hK hr hs n;by_cases hq:t/4=s/4
 ·have e1:MK (Bz.mk false<|TS K r s) (t/4)=(K.length:Int):=by
   unfold MK TS;rw[hq,EX,AG rfl];unfold TS at b
   grind
  rw[e1,AH (by omega),Xj];have e2:MK (Bz.mk true<|Pm K r s n) (t %4)=if t %4=s %4 then n else(if r<0 then 0 else if MK (B6 K r) (s/4)<0 then 0 else MK (B6 K<|MK (B6 K r)<|s/4)<|t %4):=by
   unfold MK Pm;unfold Pm at a;rw[HT]at a;rw[EX];by_cases e:s %4=t %4
   ·grind
   rw[AH e,AH<|HY e];have zero:([0,0,0,0]:List Int)[t %4]?.getD 0=0:=by
    have:t %4<4:=by omega
    generalize t %4=q at this
    match q,this with
    |0,_=>rfl
    |1,_=>rfl
    |2,_=>rfl
    |3,_=>rfl
   by_cases c1:r<0
   ·grind
   rw[AH c1,AH c1];unfold MK
   grind
  grind
 rw[AH<|show¬t=s by omega];have e1:MK (Bz.mk false<|TS K r s) (t/4)=if r<0 then-1 else MK (B6 K r) (t/4):=by
  unfold MK TS;rw[EX,AH<|HY hq];by_cases c1:r<0
  ·rw[AG c1,AG c1];have:t/4<4:=by omega
   generalize t/4=q at this
   match q,this with
   |0,_=>rfl
   |1,_=>rfl
   |2,_=>rfl
   |3,_=>rfl
  grind
 rw[e1]
 rcases BX hr with e|⟨h0,h1,hl⟩
 ·rw[e];rfl
 simp only[AH<|show¬r<0 by omega]
 rcases G3 hK h0 h1 hl (show t/4<4 by omega)with k1|⟨k1,k2,k3⟩
 ·rw[k1];rfl
 rw[show B6 (J6 K r s n) (MK (B6 K r)<|t/4)=B6 K (MK (B6 K r)<|t/4)from O2 k1 (by omega)]
def MW (n:Nat) (p:Nat->Bool):Nat:=((List.range n).filter p).length
theorem LV (n:Nat) (p:Nat->Bool):MW (n+1) p=MW n p+(if p n=true then 1 else 0):=by
 unfold MW;rw[Ep,AI,Ak]
 grind
theorem Ze (p q:Nat->Bool):∀n,MW n (λj=>p j||q j)<=MW n p+MW n q
 |0=>by simp[MW]
 |n+1=>by
  have:=Ze p q n;rw[LV,LV,LV]
  grind
theorem bZ (x:Int):∀n,MW n (λj=>decide (x=(j:Int)))<=1/\(x>=(n:Int)->MW n (λj=>decide (x=(j:Int)))=0)
 |0=>by simp[MW]
 |n+1=>by
  obtain⟨h1,h2⟩:=bZ x n;rw[LV]
  grind
theorem ABh (l:List Int) (n:Nat):MW n (λj=>l.any λx=>decide (x=(j:Int)))<=l.length:=by
 induction l with
 |nil=>simp[MW]
 |cons x l ih=>
  simp only[List.any_cons,AB];have:=Ze (λj=>decide<|x=(j:Int)) (λj=>l.any λx=>decide<|x=(j:Int)) n;have:=(bZ x n).1;omega
theorem ACK {n:Nat} {q:Nat->Bool} (h:∀j,j<n->p j=true->q j=true):MW n p<=MW n q:=by
 induction n with
 |zero=>simp[MW]
 |succ n ih=>
  have:=ih (λj hj=>h j<|by omega);rw[LV,LV]
  grind
theorem pN {n:Nat} (h:∀j,j<n->p j=true):MW n p=n:=by
 induction n with
 |zero=>rfl
 |succ n ih=>rw[LV,AG (h n<|by omega),ih λj hj=>h j<|by omega]
theorem ACF (hK:CP K=true) (hr:D7 K r=true) (n:Nat):MW n (OI K r)<=5:=by
 have h1:=Ze (λj=>decide<|r=(j:Int)) (λj=>(B6 K r).Kids.any λn=>decide<|n=(j:Int)) n;have h2:=(bZ r n).1;have h3:=ABh (B6 K r).Kids n
 have h4:MW n (OI K r)<=MW n (λj=>decide (r=(j:Int))||(B6 K r).Kids.any λn=>decide<|n=(j:Int)):=ACK λj _ h=>by
  unfold OI at h
  grind
 rcases BX hr with e|⟨h0,hl,_⟩
 ·have:MW n (OI K r)=MW n (λ_=>false):=by rw[e];rfl
  rw[this];unfold MW;rw[Bh.2<|by simp];simp
 have:=(FN hK h0 hl).1;omega
theorem Zs (hK:CP K=true) (n:Nat):∀(R:List Int),(∀r∈R,D7 K r=true)->MW n (CC K R)<=5*R.length
 |[],_=>by simp[MW,CC]
 |r::R,h=>by
  have h1:=Zs hK n R (λx hx=>h x<|by simp[hx]);have h2:=ACF hK (h r<|by simp) n;have h3:=Ze (OI K r) (CC K R) n;have h4:MW n (CC K (r::R))=MW n (λj=>OI K r j||CC K R j):=rfl
  grind
theorem wE (hK:CP K=true) (hR:∀r∈R,D7 K r=true):(Ui K R).length<=5*R.length:=by
 rw[i8];exact Zs hK _ R hR
def Bw (s:Store):List Int:=s.Vols.map Vol.Root
structure StoreR (s:Store):Prop where
 len:s.Vols.length<=3
 ar:CP s.Arena.Knots=true
 nx:1<=s.Next/\s.Next<=1000000000
 ids:∀v∈s.Vols,1<=v.Id/\v.Id<=9
 asc:(s.Vols.map Vol.Id).Pairwise (·<·)
 root:∀r∈Bw s,D7 s.Arena.Knots r=true
 lt:∀r∈Bw s,∀x∈Fi s.Arena.Knots r,x<s.Next
 few:s.Arena.Knots.length<=1000
structure C9 (s:Store):Prop extends StoreR s where
 used:∀i,i<s.Arena.Knots.length->CC s.Arena.Knots (Bw s) i=true
theorem C9.small (h:C9 s):s.Arena.Knots.length<=15:=by
 have h1:=Zs h.ar s.Arena.Knots.length (Bw s) h.root;rw[pN h.used]at h1;have:(Bw s).length=s.Vols.length:=by unfold Bw;rw[Bs]
 have:=h.len;omega
def Bb (s:Store):List (Int×List Int):=s.Vols.map λv=>(v.Id,Fi s.Arena.Knots v.Root)
def Lv (s:Store):Store:=Store.mk (s.Vols.map λv=>Vol.mk v.Id<|PE s.Arena.Knots (Bw s) v.Root) (Arena.mk<|Ui s.Arena.Knots<|Bw s) s.Next
theorem QK (s:Store):Bw (Lv s)=(Bw s).map (PE s.Arena.Knots (Bw s)):=by
 unfold Bw Lv;simp only[GN];rfl
theorem uI (h:StoreR s):C9 (Lv s):=by
 have b:(Bw s).length=s.Vols.length:=by unfold Bw;rw[Bs]
 refine⟨⟨by unfold Lv;simpa using h.len,ADA h.ar h.root,h.nx,?_,?_,?_,?_,?_⟩,?_⟩
 ·intro v hv;unfold Lv at hv;simp only[AA]at hv;obtain⟨w,hw,rfl⟩:=hv;exact h.ids w hw
 ·have:((Lv s).Vols.map Vol.Id)=s.Vols.map Vol.Id:=by unfold Lv;simp
  rw[this];exact h.asc
 ·intro r hr;rw[QK]at hr;obtain⟨q,hq,rfl⟩:=AA.1 hr;exact AAi h.root hq
 ·intro r hr;rw[QK]at hr;obtain⟨q,hq,rfl⟩:=AA.1 hr;have:=uV h.ar h.root hq;intro x hx;have a:x∈Fi s.Arena.Knots q:=by rw[<-this];exact hx
  exact h.lt q hq x a
 ·have:=wE h.ar h.root;have:=h.len;show(Ui s.Arena.Knots<|Bw s).length<=1000;omega
 intro i hi;rw[QK];exact AB1 h.ar h.root hi
theorem fM (h:StoreR s):Bb (Lv s)=Bb s:=by
 unfold Bb;show(s.Vols.map λv=>Vol.mk v.Id<|PE s.Arena.Knots (Bw s) v.Root).map _=_;rw[GN];apply CX;intro v hv;have:=uV h.ar h.root<|show v.Root∈Bw s from AA.2 ⟨v,hv,rfl⟩;show(v.Id,Fi (Ui s.Arena.Knots<|Bw s)<|PE s.Arena.Knots (Bw s) v.Root)=_;rw[this]
theorem Uk (s:Store) (hv:s.Vols.length<=1048576):Om s=some (Bw s):=by
 unfold Om;obtain⟨b,h1,h2⟩:=AL (body:=λq:List Int×Int=>Jy s q.1 q.2) (λ(o:List Int) i=>(o,i)) s.Vols.length (λi o=>o=(s.Vols.take i).map Vol.Root) (λb=>b=Bw s)
  (λo i hi ho=>by
   have hx:=Ab hi;simp only[Jy,DV hi,Au,hx,Aa];rw[BD (by rw[ho];simp;omega),Aa,ad1]
   exact .inl ⟨_,rfl,by rw[ho,DX,hx,Ca];rfl⟩)
  (λo ho=>⟨o,by simp only[Jy,DI],by rw[ho,AO<|Ax _];rfl⟩) (s:=[]) rfl
 rw[h1,h2];rfl
theorem Jw (h:StoreR s):Hw s=some (Lv s):=by
 have hl:=h.len;have hf:=h.few;have c:(Bw s).length=s.Vols.length:=by unfold Bw;rw[Bs]
 unfold Hw;rw[Uk s<|by omega];simp only[Aa];rw[ZF _ (by omega) h.ar _ (by omega) h.root];simp only[Aa];rw[Ma<|by omega];simp only[Aa];have q:=Oz (body:=λq:Int×List Vol=>Jx ((Bw s).map<|PE s.Arena.Knots<|Bw s,Ui s.Arena.Knots<|Bw s) q.1 q.2) (λl i=>(i,l)) (λ_ v=>Vol.mk v.Id<|PE s.Arena.Knots (Bw s) v.Root) s.Vols
  (λi l x a b d=>by
   have hi:=(Af.1 b).1;simp only[Jx,DV hi];have:gi ((Bw s).map<|PE s.Arena.Knots<|Bw s) (i:Int)=some (PE s.Arena.Knots (Bw s) x.Root):=by
    rw[Au,CM];unfold Bw
    grind
   rw[this,Au,b];simp only[Aa]
   rw[Em,ad1])
  (λl a=>by simp only[Jx,Bv,a];rw[cF])
 rw[IZ]at q;rw[q];rfl
theorem Zy (h:C9 s):Lv s=s:=by
 have d:∀i,i<=s.Arena.Knots.length->dY s.Arena.Knots (Bw s) i=i:=λi hi=>pN λj hj=>h.used j<|by omega
 have b:∀n:Int,n<(s.Arena.Knots.length:Int)->PE s.Arena.Knots (Bw s) n=n:=λn hn=>by
  unfold PE
  grind
 have a:∀r∈Bw s,PE s.Arena.Knots (Bw s) r=r:=λr hr=>by
  rcases BX (h.root r hr)with e|⟨h0,h1,_⟩
  ·grind
  exact b r h1
 have c:Ui s.Arena.Knots (Bw s)=s.Arena.Knots:=by
  unfold Ui;rw[GJ.2 λi hi=>h.used i<|by simpa using hi];apply Ck;intro i;rw[CM];by_cases hi:i<s.Arena.Knots.length
  ·rw[List.getElem?_range hi,Ab hi];simp only[By];congr 1;have h0:(0:Int)<=(i:Int):=by omega
   have h1:(i:Int)<(s.Arena.Knots.length:Int):=by omega
   unfold YJ
   cases hl:(B6 s.Arena.Knots (i:Int)).Leaf with
   |true=>
    simp only[Ae];rw[<-hl,O1 hi]
   |false=>
    simp only[Ac];have:(B6 s.Arena.Knots (i:Int)).Kids.map (PE s.Arena.Knots<|Bw s)=(B6 s.Arena.Knots (i:Int)).Kids:=by
     conv=>rhs;rw[<-Vp (B6 s.Arena.Knots (i:Int)).Kids]
     apply CX;intro n hn;obtain⟨q,hq,rfl⟩:=A5 hn;obtain⟨h4,hk⟩:=FN h.ar h0 h1;have e5:=(hk q<|by omega).1;rw[Ab hq]at e5
     injection e5 with e5
     rw[e5]
     rcases G3 h.ar h0 h1 hl (show q<4 by omega)with k1|⟨k1,k2,k3⟩
     ·grind
     grind
    rw[this,<-hl,O1 hi]
  grind
 unfold Lv;rw[c];have:(s.Vols.map λv=>Vol.mk v.Id<|PE s.Arena.Knots (Bw s) v.Root)=s.Vols:=by
  conv=>rhs;rw[<-Vp s.Vols]
  apply CX;intro v hv;rw[a _<|AA.2 ⟨v,hv,rfl⟩];rfl
 rw[this]
theorem cC {s:Nat} (hs:s<16):RO K r s∈Fi K r:=AA.2 ⟨s,by simpa using hs,rfl⟩
theorem S2 {l:List Int} {y:Int} (h:l.Pairwise (·<·)) (a:i<j) (hx:l[i]?=some x) (hy:l[j]?=some y):x<y:=by
 obtain⟨h1,rfl⟩:=Af.1 hx;obtain⟨h2,rfl⟩:=Af.1 hy;exact CG.1 h i j h1 h2 a
theorem So (h:C9 s):PQ s=some true:=by
 have hl:=h.len;have hf:=h.few;have d:(Bw s).length=s.Vols.length:=by unfold Bw;rw[Bs]
 unfold PQ;rw[Bv,cF,KH _ (by omega),h.ar,E0,Ad h.nx];simp only[Aa,Ag,Ac];obtain⟨b,h1,h2⟩:=AL (body:=λq:Int=>K8 s q) (λ(_:Unit) i=>i) s.Vols.length (λ_ _=>True) (λb=>b= .inl ())
  (λ_ i hi _=>by
   have hx:=Ab hi;have hm:s.Vols[i]∈s.Vols:=A0 hi;have hr:s.Vols[i].Root∈Bw s:=AA.2 ⟨_,hm,rfl⟩;simp only[K8,DV hi,Au,hx,Aa];rw[E0,Ad<|h.ids _ hm,Nx _ (by omega),h.root _ hr];simp only[Aa,Ag,Ac];have a:(cond (decide<|(i:Int)>0) ((gi s.Vols<|sb (i:Int) 1).bind λx2=>cond (decide<|x2.Id>=s.Vols[i].Id) (some true)<|some false) (some false):Option Bool)=some false:=by
    by_cases h0:i=0
    ·rw[cF]
    rw[cT,Co,show(i:Int)-1=((i-1:Nat):Int) by omega,Au,Ab<|by omega];simp only[Aa];have:=S2 h.asc (show i-1<i by omega) (x:=s.Vols[i-1].Id) (y:=s.Vols[i].Id) (by grind) (by grind);rw[cF]
   rw[a];simp only[Aa,Ac];obtain⟨c,q1,q2⟩:=AL (body:=λq:Int=>Nz s s.Vols[i] q) (λ(_:Unit) i=>i) 16 (λ_ _=>True) (λb=>b= .inl ())
    (λ_ k hk _=>by
     simp only[Nz];rw[cT,XJ _ h.ar (h.root _ hr) hk];simp only[Aa];have:=h.lt _ hr _<|cC hk;rw[cF,ad1]
     simp)
    (λ_ _=>⟨_,by rfl,rfl⟩) (s:=()) trivial
   rw[q1,q2];simp only[Aa,Br];rw[ad1]
   simp)
  (λ_ _=>⟨_,by simp only[K8,DI],rfl⟩) (s:=()) trivial
 rw[h1,h2];simp only[Aa,Br];rw[Uk s (by omega),Aa,ZF _ (by omega) h.ar _ (by omega) h.root];simp only[Aa];have:Ui s.Arena.Knots (Bw s)=s.Arena.Knots:=by
  have:=Zy h;unfold Lv at this
  grind
 rw[this];simp
abbrev Vs:=List<|Int×List Int
def Le (l:Vs) (id:Int):Option (List Int):=(l.find? λp=>p.1==id).map Prod.snd
def sK (l:Vs) (id:Int) (a:List Int):Vs:=(l.filter λp=>decide<|p.1<id)++ [(id,a)]++l.filter λp=>decide<|p.1>id
def AFv (l:Vs) (id:Int):Vs:=l.filter λp=>p.1 !=id
def rH (l:Vs) (id:Int) (s:Nat) (n:Int):Vs:=l.map λp=>if p.1=id then(p.1,p.2.set s n)else p
def GL (r:C1):Bool:=decide (0<=r.Arg/\r.Arg<=1000000000)&&(bif r.Kind==1 then r.Vol==0&&r.Chunk==0 else decide (2<=r.Kind/\r.Kind<=5)&&decide (1<=r.Vol/\r.Vol<=9)&&(r.Kind==4||r.Chunk==0)&&
 (bif r.Kind==2 then decide (r.Arg<=9)else bif r.Kind==3 then r.Arg==0 else bif r.Kind==4 then decide (r.Arg<16)&&decide (1<=r.Chunk/\r.Chunk<=1000000000)else decide (r.Arg<16)))
def Ud:List Int:=List.replicate 16 0
def Dr (l:Vs) (nx:Int) (r:C1):Option (Vs×Int):=if GL r=false then none else if r.Kind=1 then some ([],if r.Arg=0 then 1 else r.Arg) else if r.Kind=2 then
  if(0<r.Arg/\Le l r.Arg=none)\/Le l r.Vol≠none\/l.length=3 then none else some (sK l r.Vol (if 0<r.Arg then(Le l r.Arg).getD Ud else Ud),nx) else if Le l r.Vol=none\/r.Chunk=1000000000 then none else if r.Kind=3 then some (AFv l r.Vol,nx) else some (rH l r.Vol r.Arg.toNat r.Chunk,max nx<|r.Chunk+1)
theorem NS (r:C1):Pb r=some (GL r):=by
 unfold Pb GL;simp only[E0,Aa]
 cases decide (0<=r.Arg/\r.Arg<=1000000000)with
 |false=>rfl
 |true=>grind
theorem Eb (s:Store) (hv:s.Vols.length<=1048576) (id:Int):(Dk s id=some (-1)/\∀v∈s.Vols,v.Id≠id)\/∃k:Nat,∃v,Dk s id=some (k:Int)/\s.Vols[k]?=some v/\v.Id=id/\∀j w,j<k->s.Vols[j]?=some w->w.Id≠id:=by
 unfold Dk;obtain⟨b,h1,h2⟩:=AL (body:=λq:Int=>Hx s id q) (λ(_:Unit) i=>i) s.Vols.length (λi _=>∀j w,j<i->s.Vols[j]?=some w->w.Id≠id)
  (λb=>(b= .inl ()/\∀v∈s.Vols,v.Id≠id)\/∃k:Nat,∃v,b= .inr (k:Int)/\s.Vols[k]?=some v/\v.Id=id/\∀j w,j<k->s.Vols[j]?=some w->w.Id≠id)
  (λ_ i hi hs=>by
   have hx:=Ab hi;simp only[Hx,DV hi,Au,hx,Aa]
   cases e:(s.Vols[i].Id==id)with
   |true=>grind
   |false=>
    simp only[Ac];rw[ad1];refine .inl ⟨(),rfl,λj w hj hw=>?_⟩
    grind)
  (λ_ hs=>⟨_,by simp only[Hx,DI],.inl ⟨rfl,λv hv=>by
   obtain⟨j,hj,rfl⟩:=A5 hv
   exact hs j _ hj<|Ab hj⟩⟩) (s:=()) (λj w hj=>by omega)
 grind
theorem LR {id:Int}:(∀v∈s.Vols,v.Id≠id)↔Le (Bb s) id=none:=by
 unfold Le Bb;simp
theorem ACP {w:Vol} (h:(s.Vols.map Vol.Id).Pairwise (·<·)) (hv:v∈s.Vols) (hw:w∈s.Vols) (e:v.Id=w.Id):v=w:=by
 obtain⟨i,hi,rfl⟩:=A5 hv;obtain⟨j,hj,rfl⟩:=A5 hw;have gi:(s.Vols.map Vol.Id)[i]?=some s.Vols[i].Id:=by grind
 have gj:(s.Vols.map Vol.Id)[j]?=some s.Vols[j].Id:=by grind
 rcases Vo i j with h1|h1|h1
 ·have:=S2 h h1 gi gj;omega
 ·subst h1;rfl
 have:=S2 h h1 gj gi;omega
theorem NX (h:(s.Vols.map Vol.Id).Pairwise (·<·)) (hv:v∈s.Vols):Le (Bb s) v.Id=some (Fi s.Arena.Knots v.Root):=by
 unfold Le;have hm:(v.Id,Fi s.Arena.Knots v.Root)∈Bb s:=AA.2 ⟨v,hv,rfl⟩
 cases hf:(Bb s).find? λp=>p.1==v.Id with
 |none=>grind
 |some p=>
  have h1:=List.find?_some hf;have h2:=List.mem_of_find?_eq_some hf;obtain⟨w,hw,rfl⟩:=AA.1 h2;have:w=v:=ACP h hw hv (by simpa using h1);rw[this];rfl
theorem IL (s:Store):(Bb s).length=s.Vols.length:=by unfold Bb;rw[Bs]
theorem n7 (K:Ks):Fi K (-1)=Ud:=by rfl
theorem tK (s:Store) (p:Int->Bool) (t:Store) (hk:t.Arena=s.Arena) (hv:t.Vols=s.Vols.filter λv=>p v.Id):Bb t=(Bb s).filter λq=>p q.1:=by
 unfold Bb;rw[hk,hv,List.filter_map];rfl
theorem T4 {body:List Vol×Int->Option ((List Vol×Int)⊕List Vol)} (l:List Vol) (p:Vol->Bool) (o:List Vol) (hM:l.length+o.length<=1048576) (h1:∀(i:Nat) v (a:List Vol),l[i]?=some v->a.length<=1048576->body (a,(i:Int))=some (.inl (bif p v then a++ [v]else a,((i+1:Nat):Int)))) (h2:∀a,body (a,(l.length:Int))=some (.inr a)):
  Ao body (o,0)=some (o++l.filter p):=by
 obtain⟨b,h3,h4⟩:=AL (body:=body) (λ(q:List Vol) i=>(q,i)) l.length (λi q=>q=o++(l.take i).filter p) (λb=>b=o++l.filter p)
  (λq i hi hq=>by
   have hx:=Ab hi;refine .inl ⟨_,h1 i _ q hx ?_,?_⟩
   ·grind
   rw[hq,DX,hx,AI]
   grind)
  (λq hq=>⟨q,h2 q,by grind⟩) (s:=o) (by simp)
 rw[h3,h4]
theorem AA2 {R':List Int} (h:∀r∈R,r∈R') (hu:CC K R i=true):CC K R' i=true:=by
 unfold CC at hu⊢
 grind
theorem Z6 {l:List Vol} (h:(l.map Vol.Id).Pairwise (·<·)) (v:Vol):(((l.filter λw=>decide (w.Id<v.Id))++ [v]++l.filter λw=>decide (w.Id>v.Id)).map Vol.Id).Pairwise (·<·):=by
 rw[OM]at h;rw[OM,AE,AR];refine⟨h.filter _,?_,?_⟩
 ·grind
 grind
theorem fS (l:List Vol) (id:Int):(l.filter λw=>decide (w.Id<id)).length+(l.filter λw=>decide (w.Id>id)).length<=l.length:=by
 induction l with
 |nil=>simp
 |cons v l ih=>grind
def Mm (s:Store) (r:C1) (o:Option (Store×Bool)):Prop:=match Dr (Bb s) s.Next r with
 |none=>o=some (s,false)
 |some (l,nx)=>∃t,o=some (t,true)/\C9 t/\Bb t=l/\t.Next=nx
theorem yH {r:C1} (h:C9 s) (hr:GL r=true) (hk:r.Kind=2):Mm s r (Gs s r):=by
 have hl:=h.len;have d:=Lh h.ar (by have:=h.few;omega);have b:=Gu s d (by omega);have hb:GL r=true:=hr;unfold GL at hr;rw[hk]at hr;simp at hr;unfold Mm Dr;rw[hb,hk];simp only[JO,FU,Ce,show¬((2:Int)=1) by omega];unfold Gs;have root:(Le (Bb s) r.Arg=none/\0<r.Arg/\(cond (decide<|r.Arg>0) ((Dk s r.Arg).bind λv1=>cond (decide<|v1<0) ((Ej s).bind λv2=>some<|.inr (v2,false))<|(gi s.Vols v1).bind λx1=>some<|.inl x1.Root) (some<|.inl<|-1):Option (Int⊕(Store×Bool)))=some (.inr (s,false)))\/
   (¬(0<r.Arg/\Le (Bb s) r.Arg=none)/\∃q,D7 s.Arena.Knots q=true/\(q= -1\/q∈Bw s)/\Fi s.Arena.Knots q=(if 0<r.Arg then(Le (Bb s) r.Arg).getD Ud else Ud)/\(cond (decide<|r.Arg>0) ((Dk s r.Arg).bind λv1=>cond (decide<|v1<0) ((Ej s).bind λv2=>some<|.inr (v2,false))<|(gi s.Vols v1).bind λx1=>some<|.inl x1.Root) (some<|.inl<|-1):Option (Int⊕(Store×Bool)))=some (.inl q)):=by
  by_cases h0:0<r.Arg
  ·rw[Ad (by omega:r.Arg>0)];simp only[Ae]
   rcases Eb s (by omega) r.Arg with⟨h1,h2⟩|⟨k,v,h1,h2,h3,_⟩
   ·left;rw[h1,b];exact⟨LR.1 h2,h0,rfl⟩
   right;rw[h1];have hm:=Ar h2;have hg:=NX h.asc hm;rw[h3]at hg;refine⟨λhh=>(by grind),v.Root,h.root _<|AA.2 ⟨v,hm,rfl⟩,.inr<|AA.2 ⟨v,hm,rfl⟩,?_,?_⟩
   ·grind
   simp only[Aa];rw[cF,Au,h2];rfl
  right;rw[Ah (by omega:¬r.Arg>0),AH h0];exact⟨λhh=>h0 hh.1,-1,rfl,.inl rfl,n7 _,rfl⟩
 rcases root with⟨g1,g2,g3⟩|⟨g1,q,g2,g3,g4,g5⟩
 ·grind
 rw[g5];simp only[Aa,Br]
 rcases Eb s (by omega) r.Vol with⟨h1,h2⟩|⟨k,v,h1,h2,h3,_⟩
 ·rw[h1];rw[Aa,cF,Bv];have j:Le (Bb s) r.Vol=none:=LR.1 h2;by_cases h3:s.Vols.length=3
  ·rw[h3,AG<|.inr<|.inr<|by rw[IL,h3]]
   grind
  have e3:((s.Vols.length:Int)==3)=false:=by simp;omega
  rw[e3,AH (by
   rintro(hh|hh|hh)
   ·exact g1 hh
   ·exact hh j
   rw[IL]at hh;exact h3 hh)]
  simp only[Aa,Ac];rw[b];simp only[Aa];have k1:=T4 (body:=λq:List Vol×Int=>Hn s r q.1 q.2) s.Vols (λv=>decide<|v.Id<r.Vol) [] (by simp;omega)
   (λi v c hv ho=>by
    have hi:=(Af.1 hv).1;simp only[Hn,DV hi,Au,hv,Aa];rw[ad1]
    cases decide (v.Id<r.Vol)with
    |true=>simp only[Ae];rw[BD (by simp;omega)];rfl
    |false=>rfl)
   (λc=>by simp only[Hn,DI])
  rw[A7]at k1;rw[k1];simp only[Aa];have l:=fS s.Vols r.Vol;rw[BD (by simp;omega)];simp only[Aa];have k2:=T4 (body:=λq:List Vol×Int=>Hm s r q.1 q.2) s.Vols (λv=>decide<|v.Id>r.Vol) ((s.Vols.filter λv=>decide<|v.Id<r.Vol)++ [Vol.mk r.Vol q]) (by simp;omega)
   (λi v c hv ho=>by
    have hi:=(Af.1 hv).1;simp only[Hm,DV hi,Au,hv,Aa];rw[ad1]
    cases decide (v.Id>r.Vol)with
    |true=>simp only[Ae];rw[BD (by simp;omega)];rfl
    |false=>rfl)
   (λc=>by simp only[Hm,DI])
  rw[k2];simp only[Aa];have f:((s.Vols.filter λv=>decide<|v.Id<r.Vol)++ [Vol.mk r.Vol q]++s.Vols.filter λv=>decide<|v.Id>r.Vol).length<=3:=by grind
  have g:∀x∈Bw s,x∈(Bw<|Store.mk ((s.Vols.filter λv=>decide<|v.Id<r.Vol)++ [Vol.mk r.Vol q]++s.Vols.filter λv=>decide<|v.Id>r.Vol) s.Arena s.Next):=by
   intro x hx;obtain⟨v,hv,rfl⟩:=AA.1 hx;refine AA.2 ⟨v,?_,rfl⟩
   grind
  have a:∀x∈(Bw<|Store.mk ((s.Vols.filter λv=>decide<|v.Id<r.Vol)++ [Vol.mk r.Vol q]++s.Vols.filter λv=>decide<|v.Id>r.Vol) s.Arena s.Next),x= -1\/x∈Bw s:=by
   intro x hx;obtain⟨v,hv,rfl⟩:=AA.1 hx;simp only[Ap,Be,Bu]at hv
   rcases hv with(hv|rfl)|hv
   ·exact .inr<|AA.2 ⟨v,hv.1,rfl⟩
   ·exact g3
   exact .inr<|AA.2 ⟨v,hv.1,rfl⟩
  refine⟨_,rfl,⟨⟨f,h.ar,h.nx,?_,Z6 h.asc<|Vol.mk r.Vol q,?_,?_,h.few⟩,?_⟩,?_,rfl⟩
  ·intro v hv;simp only[Ap,Be,Bu]at hv
   rcases hv with(hv|rfl)|hv
   ·exact h.ids v hv.1
   ·grind
   exact h.ids v hv.1
  ·intro x hx
   rcases a x hx with e|e
   ·rw[e];rfl
   exact h.root x e
  ·intro x hx
   rcases a x hx with e|e
   ·intro y hy;rw[e]at hy;change y∈Fi s.Arena.Knots (-1)at hy;rw[n7]at hy;have:=Dx hy;have:=h.nx
    grind
   exact h.lt x e
  ·intro i hi;exact AA2 g<|h.used i hi
  rw[<-g4];unfold sK Bb;simp only[Ca,C6,List.map_nil,List.filter_map];rfl
 rw[h1];rw[Aa,cT];have hg:=NX h.asc<|Ar h2
 grind
theorem Ut {f:α->Int} {v:α} (h:(l.map f).Pairwise (·<·)) (hv:l[k]?=some v):l.take k++l.drop (k+1)=l.filter λw=>f w !=f v:=by
 rw[OM]at h;have hk:=(Af.1 hv).1;have e:l=l.take k++v::l.drop (k+1):=by
  have h2:=AM hk;rw[(Af.1 hv).2]at h2;rw[<-h2,Cw]
 rw[e,AR]at h;obtain⟨h1,h2,h3⟩:=h;rw[Cy]at h2
 conv=>rhs;rw[e]
 rw[AI,E5<|by simp];congr 1
 ·symm;rw[GJ]
  grind
 symm;rw[GJ]
 grind
theorem ABc (h:C9 s) (id:Int):StoreR (Store.mk (s.Vols.filter λw=>w.Id !=id) s.Arena s.Next):=by
 have hl:=h.len;refine⟨?_,h.ar,h.nx,λv hv=>h.ids v (Be.1 hv).1,?_,?_,?_,h.few⟩
 ·grind
 ·have:=h.asc
  grind
 ·intro x hx;obtain⟨w,hw,rfl⟩:=AA.1 hx;exact h.root _<|AA.2 ⟨w,(Be.1 hw).1,rfl⟩
 intro x hx;obtain⟨w,hw,rfl⟩:=AA.1 hx;exact h.lt _<|AA.2 ⟨w,(Be.1 hw).1,rfl⟩
theorem ADd {t:Nat} (h:C9 s) (h2:s.Vols[k]?=some v) (ht:t<16) (hn:0<=n) (e:n+1<=1000000000):StoreR (Store.mk (s.Vols.set k (Vol.mk v.Id ((s.Arena.Knots.length:Int)+1))) (Arena.mk (J6 s.Arena.Knots v.Root t n)) (max s.Next (n+1))):=by
 have hl:=h.len;have hm:=Ar h2;have f:=(Af.1 h2).1;have a:=h.root _<|AA.2 ⟨v,hm,rfl⟩;have g:=h.small
 have b:∀w∈s.Vols.set k (Vol.mk v.Id<|(s.Arena.Knots.length:Int)+1),w∈s.Vols\/w=Vol.mk v.Id ((s.Arena.Knots.length:Int)+1):=λw hw=>CH hw
 refine⟨by simpa using hl,ADK h.ar a ht hn,?_,?_,?_,?_,?_,?_⟩
 ·have:=h.nx
  grind
 ·intro w hw
  rcases b w hw with hw|rfl
  ·exact h.ids w hw
  exact h.ids v hm
 ·have:(s.Vols.set k<|Vol.mk v.Id<|(s.Arena.Knots.length:Int)+1).map Vol.Id=s.Vols.map Vol.Id:=by
   rw[List.map_set];show(s.Vols.map Vol.Id).set k v.Id=_;apply Ck
   grind
  rw[this];exact h.asc
 ·intro x hx;obtain⟨w,hw,rfl⟩:=AA.1 hx
  rcases b w hw with hw|rfl
  ·exact AAf<|h.root _<|AA.2 ⟨w,hw,rfl⟩
  exact wR
 ·intro x hx y hy;obtain⟨w,hw,rfl⟩:=AA.1 hx;show y<max s.Next (n+1)
  rcases b w hw with hw|rfl
  ·have d:=h.root _<|AA.2 ⟨w,hw,rfl⟩;have c:y∈Fi s.Arena.Knots w.Root:=by rw[<-uR (X:=[Bz.mk true<|Pm s.Arena.Knots v.Root t n,Bz.mk false<|TS s.Arena.Knots v.Root t]) h.ar d];exact hy
   have:=h.lt _ (AA.2 ⟨w,hw,rfl⟩) y c;omega
  have c:y∈(Fi s.Arena.Knots v.Root).set t n:=by rw[<-u0 (s:=t) (n:=n) h.ar a (by omega)];exact hy
  rcases CH c with c|rfl
  ·have:=h.lt _ (AA.2 ⟨v,hm,rfl⟩) y c;omega
  omega
 show(J6 s.Arena.Knots v.Root t n).length<=1000;unfold J6;simp;omega
theorem bT (h:C9 s) (r:C1):Mm s r (Tt s r):=by
 have hl:=h.len;have d:=Lh h.ar (by have:=h.few;omega);have a:=Gu s d (by omega);unfold Tt;rw[So h,NS];simp only[Aa,Ag,Ac]
 cases hb:GL r with
 |false=>
  simp only[AQ,Ae];rw[a];unfold Mm Dr;rw[hb];rfl
 |true=>
  simp only[Ag,Ac];have hr:=hb;unfold GL at hr
  cases k1:(r.Kind==1)with
  |true=>
   have e1:r.Kind=1:=by simpa using k1
   rw[e1]at hr;simp at hr;unfold Mm Dr;rw[hb,e1];simp only[JO,FU,Ce,Ae];have:(cond (r.Arg==0) (some 1) (some r.Arg):Option Int)=some (if r.Arg=0 then 1 else r.Arg):=by grind
   rw[this];refine⟨_,rfl,⟨⟨by simp,rfl,?_,by simp,by simp,by simp[Bw],by simp[Bw],by simp⟩,by simp⟩,rfl,rfl⟩
   grind
  |false=>
   simp only[Ac];have n1:r.Kind≠1:=by simpa using k1
   rw[k1]at hr
   cases k2:(r.Kind==2)with
   |true=>
    simp only[Ae];have:=yH h hb (by simpa using k2);have e:((Gs s r).bind λv4=>some (v4.1,v4.2))=Gs s r:=by cases Gs s r<;>rfl
    grind
   |false=>
    simp only[Ac];have n2:r.Kind≠2:=by simpa using k2
    rw[k2]at hr;have hv:1<=r.Vol/\r.Vol<=9:=by simp at hr;omega
    unfold Mm Dr;rw[hb];simp only[JO,FU,AH n1,AH n2]
    rcases Eb s (by omega) r.Vol with⟨h1,h2⟩|⟨k,v,h1,h2,h3,_⟩
    ·rw[h1];simp only[Aa];rw[cT,AG<|.inl<|LR.1 h2]
     grind
    rw[h1];simp only[Aa];rw[cF];simp only[Aa];have hm:=Ar h2;have g:=(Af.1 h2).1;have hg:=NX h.asc hm;rw[h3]at hg
    cases hc:(r.Chunk==1000000000)with
    |true=>grind
    |false=>
     simp only[Ac];have n:r.Chunk≠1000000000:=by simpa using hc
     rw[AH (by grind),a];simp only[Aa]
     cases k3:(r.Kind==3)with
     |true=>
      have e3:r.Kind=3:=by simpa using k3
      rw[AG e3];simp only[Ae];rw[Bv,ad1];have d1:dr s.Vols 0 (k:Int)=some (s.Vols.take k):=by
       unfold dr
       grind
      have d2:dr s.Vols ((k+1:Nat):Int) (s.Vols.length:Int)=some (s.Vols.drop<|k+1):=by
       unfold dr;rw[AG ⟨by omega,by omega,by omega⟩,Bi,Bi,AO<|by simp]
      rw[d1,d2];simp only[Aa];rw[Ma (by simp;omega)];simp only[Aa];rw[BD (by simp;omega),Ut h.asc h2,h3];simp only[Aa];have hR:=ABc h r.Vol;rw[Jw hR];refine⟨_,rfl,uI hR,?_,rfl⟩;rw[fM hR];exact tK s (λid=>id !=r.Vol) _ rfl rfl
     |false=>
      have n3:r.Kind≠3:=by simpa using k3
      rw[AH n3];simp only[Ac];rw[k3]at hr;have ha:0<=r.Arg/\r.Arg<16/\0<=r.Chunk/\r.Chunk<=1000000000:=by grind
      obtain⟨t,ht⟩:∃t:Nat,r.Arg=(t:Int):=⟨_,(AS ha.1).symm⟩;rw[Au,h2];simp only[Aa];have c:=h.root _<|AA.2 ⟨v,hm,rfl⟩;rw[ht,ZI _ (by have:=h.few;omega) h.ar c (by omega) ha.2.2.1];simp only[Aa];rw[Em];have o:=h.small;have hR:=ADd h h2 (show t<16 by omega) ha.2.2.1 (show r.Chunk+1<=1000000000 by omega);have f:Bb (Store.mk (s.Vols.set k<|Vol.mk v.Id<|(s.Arena.Knots.length:Int)+1) (Arena.mk<|J6 s.Arena.Knots v.Root t r.Chunk)<|max s.Next<|r.Chunk+1)=rH (Bb s) r.Vol t r.Chunk:=by
       unfold Bb rH;simp only[GN];apply Ck;intro j;rw[CM,CM,EX];by_cases e:k=j
       ·subst e;rw[AG rfl,AG g,h2];simp only[By,Function.comp];rw[AG h3,u0 h.ar c<|by omega]
       rw[AH e]
       cases hj:s.Vols[j]? with
       |none=>rfl
       |some w=>
        have i:=Ar hj;have l:w.Id≠r.Vol:=by
         intro e2;have gi:(s.Vols.map Vol.Id)[k]?=some v.Id:=by grind
         have gj:(s.Vols.map Vol.Id)[j]?=some w.Id:=by grind
         rcases Vo k j with q|q|q
         ·have:=S2 h.asc q gi gj;omega
         ·exact e q
         grind
        simp only[By,Function.comp];rw[AH l];have:=uR (X:=[Bz.mk true<|Pm s.Arena.Knots v.Root t r.Chunk,Bz.mk false<|TS s.Arena.Knots v.Root t]) h.ar<|h.root _<|AA.2 ⟨w,i,rfl⟩;unfold J6;rw[this]
      have m:∀b:Bool,b=decide (r.Chunk>=s.Next)->(cond b ((Hw<|Store.mk (s.Vols.set k<|Vol.mk v.Id<|(s.Arena.Knots.length:Int)+1) (Arena.mk<|J6 s.Arena.Knots v.Root t r.Chunk)<|ad r.Chunk 1).bind λv11=>some (v11,true))<|(Hw<|Store.mk (s.Vols.set k<|Vol.mk v.Id<|(s.Arena.Knots.length:Int)+1) (Arena.mk<|J6 s.Arena.Knots v.Root t r.Chunk) s.Next).bind λv12=>some (v12,true))=(Hw<|Store.mk (s.Vols.set k<|Vol.mk v.Id<|(s.Arena.Knots.length:Int)+1) (Arena.mk<|J6 s.Arena.Knots v.Root t r.Chunk)<|max s.Next<|r.Chunk+1).bind λv=>some (v,true):=by
       intro b hb;have:=h.nx;by_cases e:r.Chunk>=s.Next
       ·rw[hb,Ad e,Ae,Cr,show max s.Next (r.Chunk+1)=r.Chunk+1 by omega]
       grind
      rw[m _ rfl,Jw hR];refine⟨_,rfl,uI hR,?_,rfl⟩;rw[fM hR,f,Bi]
end Go.TI
