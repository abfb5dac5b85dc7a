/- Steps on a device as the reference does them, what is lent marked and held. No condition. -/
import Derived.Test.YtmjoddpjpkneeaaGreatSAD
set_option linter.unusedVariables false
set_option linter.unusedSimpArgs false
namespace Go.TI
open Go
noncomputable section
def JI (xA:Flash) (xK:Int):Option (Int×Flash):=(IC xA.Blocks xK).bind λv1=>some (v1.1,Flash.mk v1.2)
def JJ (xA:Arena) (xK:Int):Option (Int×Arena):=(JG xA.Knots xK).bind λv1=>some (v1.1,Arena.mk v1.2)
def JH (xA:Store) (xK:Int):Option (Int×Store):=(KF xA.Vols xK).bind λv1=>(JJ xA.Arena v1.1).bind λv2=>some (v2.1,Store.mk v1.2 v2.2 xA.Next)
def Fw (xA:Device) (xK:Int):Option (Int×Device):=(JI xA.Flash xK).bind λv1=>(JH xA.Store v1.1).bind λv2=>some (v2.1,Device.mk v1.2 v2.2 xA.Seq xA.Tx xA.Base)
def EI (b:Device) (a:List Step):Option Bool:=(O0 b 1048576).bind λv1=>cond (decide<|v1<0) (some true)<|(Qj a v1).bind λv2=>cond (decide<|v2<0) (some true)<|(Gq b).bind λv3=>(IU a).bind λv4=>(KV v3 v4).bind λv5=>(Gq b).bind λv6=>(IU a).bind λv7=>(Jy v6 v7).bind λv8=>(Gr v8 v5).bind λv9=>cond (!v9) (some false)<|(Gq b).bind λv10=>(Gr v6 v10).bind λv11=>cond (!v11) (some false)<|(IU a).bind λv12=>(Qo v7 v12).bind λv13=>cond (!v13) (some false)<|(Fw v6 1).bind λv14=>(JE v7 v14.1).bind λv15=>(cond (decide<|v15.1<0) (some true) ((Gr v8 v5).bind λv16=>some<|!v16):Option Bool).bind λj1=>cond j1 (some false)<|(Fw v8 1).bind λv17=>(GP v17.2 1).bind λv18=>cond (decide<|v18<0) (some false)<|cond (v18 !=v17.1) (some false)<|(Gq b).bind λv19=>(IU a).bind λv20=>(Jy v19 v20).bind λv21=>(Gr v21 v5).bind λv22=>cond (!v22) (some false)<|(GP v17.2 1).bind λv23=>cond (decide<|v23<0) (some false)<|cond (v23 !=v17.1) (some false)<|some true
end
theorem dJ:GL=B3:=rfl
variable {r k n:Int} {R:List Int} {α γ β:Type} {i j:Nat} {s:Store} {f:Flash} {y:Ay} {v:Vol} {b:Block} {p:Nat->Bool} {l:List α} {x:α}
theorem L7 {i:Int} (h:gi l i=some x):0<=i/\l[i.toNat]?=some x:=by grind [gi]
theorem LA:K1=DO:=by
 have h2:IN=CF:=by
  funext x y;unfold IN CF
  cases decide (y<ln x.Leaves)with
  |false=>rfl
  |true=>
   cases gi x.Leaves y with
   |none=>rfl
   |some z=>rfl
 funext f;unfold K1 DO;have:IP f=CG f:=by
  funext i;unfold IP CG;rw[h2];rfl
 rw[this];rfl
def LF (f:Flash):Prop:=f.Blocks.length<=1048576/\∀b∈f.Blocks,b.Leaves.length<=1048576
theorem On (x a b:Int):B3 x a b=some (decide (a<=x)&&decide (x<=b)):=by
 unfold B3
 grind
theorem lK (x:Leaf):∃v,IW x=some v:=by
 unfold IW;cases x.Is==0
 ·cases x.Is==1
  ·cases x.Is==2<;>exact⟨_,rfl⟩
  simp[On]
 exact⟨_,rfl⟩
theorem T5 (f:Flash) (h:LF f):∃v,DO f=some v/\(v=true->f.Blocks.length<=10/\∀b∈f.Blocks,b.Leaves.length=4):=by
 have a:=Bs (body:=λs:Int=>CG f s) (λ(_:Unit) i=>i) f.Blocks.length (λi _=>∀j b,j<i->f.Blocks[j]?=some b->b.Leaves.length=4) (λr=>r= .inr false\/r= .inl ()/\∀b∈f.Blocks,b.Leaves.length=4)
  (λs i hi hs=>by
   obtain⟨x,hx⟩:∃x,f.Blocks[i]?=some x:=⟨_,Ab hi⟩;have hM:=h.1;simp only[CG,Hc hi,A0,hx,Aa,On];by_cases h4:x.Leaves.length=4
   ·have e1:(ln x.Leaves !=4)=false:=by simp[ln,h4]
    simp only[e1,Ae,Aa]
    cases hw:(decide (0<=x.Wear)&&decide (x.Wear<=1000000000))with
    |false=>grind
    |true=>
     simp only[A9,Ae];obtain⟨r,h5,h6⟩:=Bs (body:=λs:Int=>CF x s) (λ(_:Unit) i=>i) x.Leaves.length (λ_ _=>True) (λr=>r= .inl ()\/r= .inr (.inr<|.inr false))
      (λs k hk _=>by
       obtain⟨y,hy⟩:∃y,x.Leaves[k]?=some y:=⟨_,Ab hk⟩;obtain⟨v,hv⟩:=lK y;simp only[CF,Hc hk,A0,hy,Aa,hv];have fin:∀j:Bool,(∃s':Unit,(bif j then some (.inr<|.inr<|.inr<|.inr false)else some (.inl<|ad (k:Int) 1):Option (Int⊕Unit⊕Int⊕Unit⊕Bool))=some (.inl (((k+1:Nat)):Int))/\True)\/∃b,(bif j then some (.inr<|.inr<|.inr<|.inr false)else some (.inl<|ad (k:Int) 1):Option (Int⊕Unit⊕Int⊕Unit⊕Bool))=some (.inr b)/\(b= .inl ()\/b= .inr (.inr<|.inr false)):=by
        intro j
        cases j with
        |true=>grind
        |false=>exact .inl ⟨(),by rw[Ae,ad1],trivial⟩
       cases v with
       |false=>exact fin true
       |true=>
        by_cases c:0<k
        ·rw[cT,C0,Yv (by omega) (by omega),Aa];cases(x.Leaves[((k:Int)-1).toNat]'(by omega)).Is==0
         ·exact fin false
         exact fin<|y.Is !=0
        simp_all)
      (λs _=>⟨_,by grind [CF],.inl rfl⟩) (s:=()) trivial
     rw[h5,Aa]
     rcases h6 with rfl|rfl
     ·refine .inl ⟨(),by rw[DD,ad1],?_⟩
      grind
     grind
   grind [ln])
  (λs hs=>⟨_,by simp[HD,CG],.inr ⟨rfl,λb hb=>by
   obtain⟨j,hj,e⟩:=AM hb
   exact hs j b hj<|by grind⟩⟩) (s:=()) (λj b hj=>absurd hj<|by omega)
 obtain⟨r,h1,h2⟩:=a;unfold DO;rw[h1,Aa]
 rcases h2 with rfl|⟨rfl,h2⟩
 ·simp
 simp_all [On,Cs];grind
def u32 (s:Int):Prop:=0<=s/\s<4294967296
theorem bE (s:Int) (hs:u32 s):∃v,Ah (λs:Int×Int=>F7 s.1 s.2) (s,0)=some v/\Ah (λs:Int×Int=>FH s.1 s.2) (s,0)=some v/\u32 v:=
 ML (body:=λs:Int×Int=>F7 s.1 s.2) (body':=λs:Int×Int=>FH s.1 s.2) (λ(s:Int) i=>(s,i)) 8 (λ_ s=>u32 s) u32
  (λs i hi hs=>by grind [t6,p9,ad1,nD,F7,FH,u32])
  (λs hs=>by grind [F7,FH]) (s:=s) hs
theorem bD (s:Int) (t:ByteArray) (hs:u32 s) (ht:(L t).length<=9223372036854775806):∃v,Nv s t=some v/\NA s t=some v/\u32 v:=by
 obtain⟨v,h1,h2,h3⟩:=ML (body:=λs:Int×Int=>GT t s.1 s.2) (body':=λs:Int×Int=>He t s.1 s.2) (λ(s:Int) i=>(s,i)) (L t).length (λ_ s=>u32 s) u32
  (λs i hi hs=>by
   obtain⟨v,h1,h2,h3⟩:=bE (xr s<|IntKind.u32.wrap ((L t)[i]).toNat)<|nD _ _
   grind [Qs,ad1,GT,He])
  (λs hs=>by grind [Ei,GT,He]) (s:=s) hs
 unfold Nv NA
 grind
theorem YG (t:ByteArray) (ht:(L t).length<=9223372036854775806):∃v,KU t=some v/\RG t=some v/\u32 v:=by
 obtain⟨v,h1,h2,h3⟩:=bD 4294967295 t ⟨by omega,by omega⟩ ht;unfold KU RG
 grind
def four (v:Int):ByteArray:=NN [IntKind.u8.wrap<|Int.fdiv v<|2^(min (24:Int).toNat IntKind.u32.bits),IntKind.u8.wrap<|Int.fdiv v<|2^(min (16:Int).toNat IntKind.u32.bits),IntKind.u8.wrap<|Int.fdiv v<|2^(min (8:Int).toNat IntKind.u32.bits),IntKind.u8.wrap v]
theorem i8 (v:Int):(L (four v)).length=4:=by rfl
theorem fP (t:ByteArray):PN t=GV t:=by
 unfold PN GV;by_cases h:(GJ t)>20000
 ·grind
 rw[Ei]at h;obtain⟨v,h1,h2,_⟩:=YG t (by omega);rw[h1,h2];rfl
theorem Vr (t:ByteArray):(20000<(L t).length->GV t=some (bs [],false))/\((L t).length<=20000->∃v,KU t=some v/\GV t=some (t++four v,true)):=by grind [Ei,YG,Kj,i8,GV,IX,four]
theorem YF (t:ByteArray) (ht:(L t).length<=9223372036854775806):∃u ok,KT t=some (u,ok)/\Lt t=some (u,ok)/\(ok=true->(L u).length<=20000/\∃v,KU u=some v/\t=u++four v)/\(ok=false->u=bs []):=by
 unfold KT Lt;have e4:sb (GJ t) 4=((L t).length:Int)-4:=by rw[Ei,C0]
 rw[e4];by_cases h4:(L t).length<4
 ·simp_all [Ei];grind
 rw[Aq (by omega:¬((L t).length:Int)-4<0),Aq (by rw[Ei];omega:¬GJ t<4)];have en:((L t).length:Int)-4=(((L t).length-4:Nat):Int):=by omega
 rw[en,Ei];have b:sub t 0 (((L t).length-4:Nat):Int)=some (t.extract 0<|(L t).length-4):=R9 t (i:=0) (by omega) (by omega);have a:sub t (((L t).length-4:Nat):Int) ((L t).length:Int)=some (t.extract ((L t).length-4) (L t).length):=R9 t (by omega) (by omega);rw[b,a];simp only[Aa];have hu:(L<|t.extract 0<|(L t).length-4).length=(L t).length-4:=by rw[YK];simp
 obtain⟨k1,k2⟩:=Vr<|t.extract 0<|(L t).length-4;rw[fP];by_cases hb:20000<(L t).length-4
 ·grind
 obtain⟨v,h1,h2⟩:=k2 (by omega);rw[Aq (by omega:¬(((L t).length-4:Nat):Int)>20000),h1,h2];have h3:IX v=some (four v):=rfl;simp only[Ae,Aa,h3,A9];have c:seq (t.extract ((L t).length-4) (L t).length) (four v)=seq (t.extract 0 ((L t).length-4)++four v) t:=by
  rw[X8,X8,Ow,YK,YK,Bool.eq_iff_iff,B5,B5];have e1:List.take ((L t).length-((L t).length-4)) (List.drop ((L t).length-4)<|L t)=(L t).drop ((L t).length-4):=AY (by simp);have e2:List.take ((L t).length-4-0) (List.drop 0<|L t)=(L t).take ((L t).length-4):=by simp
  rw[e1,e2];constructor
  ·grind [BB]
  grind
 grind [Qw]
theorem Kz (n:Nat) (h:n<=1099511627776):∃s,If (n:Int)=some s/\L s=J9 n:=by
 unfold If;obtain⟨m,o,h1,h2,h3,h4⟩:=Vk (body:=λs:Int×List Int=>Mz s.1 s.2) (λ_ _=>rfl) n [] (by simpa using h);rw[h1,Aa];have:IntKind.u8.wrap (m:Int)=m:=by rw[IntKind.wrap_u8];omega
 rw[this,CC (by grind),Aa]
 grind [WO]
def nH (t:ByteArray) (at_:Int) (r:Int×Int×Bool):Prop:=(r.2.2=false/\r.1=0/\r.2.1=0)\/(r.2.2=true/\∃(a b n:Nat),at_=a/\r.2.1=b/\r.1=n/\a<b/\b<=(L t).length/\n<=1000000000/\J9 n=((L t).drop a).take (b-a))
theorem Si (l:List UInt8) (a k:Nat) (h:a+k<l.length):(l.drop a).take (k+1)=(l.drop a).take k++ [l[a+k]]:=by grind [Ax]
theorem hJ (k:Nat) (h:k<5):(128:Nat)^k<=268435456:=by
 have:k<=4:=by omega
 calc 128^k<=128^4:=Nat.pow_le_pow_right (by omega) this
  _=268435456:=by decide
theorem bO:∀ds:List UInt8,Gs ds<128^ds.length
 |[]=>by simp[Gs]
 |d::ds=>by
  have:=bO ds
  grind [Gs]
theorem kK (x k:Nat) (hx:x<128) (hk:k<5):shl .i64 (x:Int) (ml 7 (k:Int))=some ((x*128^k:Nat):Int):=by
 have h7:ml 7 (k:Int)=((7*k:Nat):Int):=by grind [UV]
 unfold shl;rw[h7,Bm<|by omega];have e:(2:Int)^(min ((7*k:Nat):Int).toNat IntKind.i64.bits)=((128^k:Nat):Int):=by
  have hb:IntKind.i64.bits=64:=rfl;have h128:(128:Nat)^k=2^(7*k):=by rw[Nat.pow_mul]
  grind
 rw[e];have hp:=hJ k hk;have hm:x*128^k<=128*268435456:=Nat.mul_le_mul (by omega) hp
 grind [T8]
theorem kG (x:Nat):Int.tmod (x:Int) 128=((x %128:Nat):Int):=rfl
theorem Fu (t:ByteArray) (at_:Int) (ht:(L t).length<=4611686018427387904) (v:oI at_):∃r,IY t at_=some r/\GD t at_=some r/\nH t at_ r:=by
 have fails:∀(at_:Int),(at_<0\/((L t).length:Int)<=at_)->oI at_->GD t at_=some (0,0,false):=by grind [A5,Ei,C0,GD,Ep]
 by_cases w:0<=at_/\at_<(L t).length
 ·obtain⟨a,rfl⟩:=BE w.1;have y:∀(B1:Int×Int×Int->Option ((Int×Int×Int)⊕Unit⊕(Int×Int×Bool))) (B2:Int×Int->Option ((Int×Int)⊕Unit⊕(Int×Int×Bool))),(∀n sc i,B1 (n,sc,i)=En t (a:Int) n sc i)->(∀n k,B2 (n,k)=Ep t (a:Int) n k)->∀(m k:Nat),k+m=5->a+k<=(L t).length->(∀d∈((L t).drop a).take k,128<=d.toNat)->
    ∃r,(Ah B1 (((Gs (((L t).drop a).take k):Nat):Int),((128^k:Nat):Int),((a+k:Nat):Int))=some r/\Ah B2 (((Gs (((L t).drop a).take k):Nat):Int),(k:Int))=some r)/\(r= .inl ()\/∃q,r= .inr q/\nH t (a:Int) q):=by
   intro B1 B2 z h0 m
   induction m with
   |zero=>grind [A5,Cq,En,Ep]
   |succ m ih=>
    intro k hk h9 hd;rw[A5,A5 B2];simp only[z,h0,En,Ep];have j:k<5:=by omega
    rw[Cq (b:=5) (by omega) (by omega),Ag (by omega:((a+k:Nat):Int)<(a:Int)+5),Ag (by omega:(k:Int)<5),Ag (by omega:(a:Int)>=0),Ei,C0];by_cases l:a+k<(L t).length
    ·rw[Ag (by omega:((a+k:Nat):Int)<((L t).length:Int)),Ag (by omega:(a:Int)<((L t).length:Int)-k)];have eak:ad (a:Int) (k:Int)=((a+k:Nat):Int):=by rw[Cq];omega
     simp only[As,Aa,Qs t l,eak];have hx:=bP<|(L t)[a+k];have f:=Si (L t) a k l;have o:(((L t).drop a).take k).length=k:=by simp;omega
     have g:=QU (((L t).drop a).take k) [(L t)[a+k]];rw[<-f,o]at g;have h4:=bO<|((L t).drop a).take k;rw[o]at h4;have hp:=hJ k j;generalize a0:(L t)[a+k]=x at hx f g;simp only[Gs,Nat.mul_zero,bI]at g;have hw:IntKind.i64.wrap (x.toNat:Int)=x.toNat:=T8 (by omega) (by omega);have h7:x.toNat %128*128^k<=127*268435456:=Nat.mul_le_mul (by omega) hp;have emul:ml ((x.toNat %128:Nat):Int) ((128^k:Nat):Int)=((x.toNat %128*128^k:Nat):Int):=by grind [UV]
     have enew:ad (((Gs (((L t).drop a).take k):Nat)):Int) ((x.toNat %128*128^k:Nat):Int)=((Gs (((L t).drop a).take<|k+1):Nat):Int):=by grind [Cq]
     rw[hw,kG,kK _ k (by omega) j];simp only[Aa,emul,enew];by_cases h:x.toNat<128
     ·rw[Ag (by omega:(x.toNat:Int)<128),Aq (by omega:¬(x.toNat:Int)>=128)];have ek1:ad ((a+k:Nat):Int) 1=((a+k+1:Nat):Int):=ad1 (by omega);have c:=Vj (((L t).drop a).take k) x hd h;rw[<-f]at c;have h5:(((L t).drop a).take k≠ [])↔0<k:=by grind
      rw[h5]at c;have p:sub t (a:Int) ((a+k+1:Nat):Int)=some (t.extract a<|a+k+1):=R9 t (by omega) (by omega);rw[ek1,p];by_cases h8:Gs (((L t).drop a).take<|k+1)>1000000000
      ·rw[Ag (by omega:((Gs (((L t).drop a).take<|k+1):Nat):Int)>1000000000)];refine⟨.inr (0,0,false),⟨rfl,?_⟩,.inr ⟨_,rfl,.inl ⟨rfl,rfl,rfl⟩⟩⟩
       grind
      rw[Aq (by omega:¬((Gs (((L t).drop a).take<|k+1):Nat):Int)>1000000000)];obtain⟨s,h6,a1⟩:=Kz (Gs<|((L t).drop a).take<|k+1) (by omega);simp only[Ae,Aa,h6];have u:seq s (t.extract a<|a+k+1)=decide (¬(x.toNat=0/\0<k)):=by grind [X8,YK]
      rw[u];by_cases hz:x.toNat=0/\0<k
      ·rw[Aq λe=>e hz];refine⟨.inr (0,0,false),⟨rfl,?_⟩,.inr ⟨_,rfl,.inl ⟨rfl,rfl,rfl⟩⟩⟩
       grind
      rw[Ag hz];refine⟨.inr (((Gs (((L t).drop a).take<|k+1):Nat):Int),((a+k+1:Nat):Int),true),⟨rfl,?_⟩,.inr ⟨_,rfl,.inr ⟨rfl,a,a+k+1,_,rfl,rfl,rfl,by omega,by omega,by omega,?_⟩⟩⟩
      ·grind
      grind
     rw[Aq (by omega:¬(x.toNat:Int)<128),Ag (by omega:(x.toNat:Int)>=128)];have e1:ml ((128^k:Nat):Int) 128=((128^(k+1):Nat):Int):=by grind [UV]
     have e2:ad ((a+k:Nat):Int) 1=((a+(k+1):Nat):Int):=ad1 (by omega);have e3:ad (k:Int) 1=((k+1:Nat):Int):=ad1 (by omega);rw[e1,e2,e3];exact ih (k+1) (by omega) (by omega)<|by grind
    grind
  obtain⟨r,⟨h1,h2⟩,h3⟩:=y (λs=>En t (a:Int) s.1 s.2.1 s.2.2) (λs=>Ep t (a:Int) s.1 s.2) (λ_ _ _=>rfl) (λ_ _=>rfl) 5 0 rfl (by omega) (by simp);unfold IY GD;have hw:B3 (a:Int) 0 (GJ t)=some true:=by grind [Ei,B3]
  rw[hw];simp only[List.take_zero,Gs,Nat.pow_zero,bI]at h1 h2;rw[show((0:Nat):Int)=0 from rfl,show((1:Nat):Int)=1 from rfl]at h1;rw[show((0:Nat):Int)=0 from rfl]at h2;rw[h1,h2]
  rcases h3 with rfl|⟨q,rfl,h3⟩
  ·exact⟨_,rfl,rfl,.inl ⟨rfl,rfl,rfl⟩⟩
  grind
 have hf:=fails at_ (by omega) v;refine⟨(0,0,false),?_,hf,.inl ⟨rfl,rfl,rfl⟩⟩;unfold IY
 grind [Ei,A5,B3,En]
theorem QJ (p:Page):∃v,Kt p=some v/\PO p=some v/\(v=true->(p.Kind=1\/p.Kind=2)/\(1<=p.Seq/\p.Seq<=1000000000)/\(1<=p.Tx/\p.Tx<=1000000000)/\(1<=p.Count/\p.Count<=9)/\(0<=p.Part/\p.Part<p.Count)/\GJ p.Text<=90):=by
 unfold Kt PO;rw[dJ];simp only[On,Aa];by_cases h1:1<=p.Seq/\p.Seq<=1000000000
 ·by_cases h2:1<=p.Tx/\p.Tx<=1000000000
  ·by_cases h3:1<=p.Count/\p.Count<=9
   ·have e:sb p.Count 1=p.Count-1:=C0 (by omega) (by omega);rw[e];by_cases h4:0<=p.Part/\p.Part<=p.Count-1
    ·by_cases h5:GJ p.Text>90
     ·simp_all
     by_cases k2:p.Kind=2
     ·exact⟨true,by grind,by grind,λ_=>⟨.inr k2,h1,h2,h3,⟨h4.1,by omega⟩,by omega⟩⟩
     by_cases k1:p.Kind=1
     ·exact⟨p.Count==1,by grind,by grind,λ_=>⟨.inl k1,h1,h2,h3,⟨h4.1,by omega⟩,by omega⟩⟩
     have hk:(decide (1<=p.Kind)&&decide (p.Kind<=2))=false:=by grind
     exact⟨false,by simp[hk],by grind,by simp⟩
    refine⟨false,?_,?_,by simp⟩
    ·grind
    grind
   have e3:(decide (1<=p.Count)&&decide (p.Count<=9))=false:=by grind
   refine⟨false,?_,?_,by simp⟩
   ·grind
   grind
  have e2:(decide (1<=p.Tx)&&decide (p.Tx<=1000000000))=false:=by grind
  refine⟨false,?_,?_,by simp⟩
  ·grind
  simp[h1,e2]
 have e1:(decide (1<=p.Seq)&&decide (p.Seq<=1000000000))=false:=by grind
 refine⟨false,?_,?_,by simp⟩
 ·grind
 simp[e1]
def UR:Page:=Page.mk 0 0 0 0 0<|bs []
theorem Ff (u:ByteArray) (a:Int) (hu:(L u).length<=20000) (ha:oI a):Ch (Dk.mk u a true)=some (0,Dk.mk u a true):=by grind [Fu,Ch]
theorem Iq {r:Int×Int×Bool} (u:ByteArray) (a:Int) (hu:(L u).length<=20000) (h:IY u a=some r):Ch (Dk.mk u a false)=some (cond r.2.2 (r.1,Dk.mk u r.2.1 false) (0,Dk.mk u a true)):=by
 unfold Ch
 grind
theorem aS {a b:Nat} (l:List UInt8) (h:a<=b):l.drop a=(l.drop a).take (b-a)++l.drop b:=by
 have:=(BB (b-a)<|l.drop a).symm;rw[Hs,show a+(b-a)=b by omega]at this;exact this
theorem YJ (p:Page) (u:ByteArray) (k:UInt8) (n1 n2 n3 n4:Nat) (hp:Kt p=some true) (hk:p.Kind=(k.toNat:Int)) (h1:p.Seq=n1) (h2:p.Tx=n2) (h3:p.Part=n3) (h4:p.Count=n4) (b1:n1<=1000000000) (b2:n2<=1000000000) (b3:n3<=1000000000) (b4:n4<=1000000000) (hu:(L u).length<=20000) (e:L u=[k]++J9 n1++J9 n2++J9 n3++J9 n4++L p.Text):H8 p=GV u:=by
 obtain⟨s1,q1,r1⟩:=Kz n1 (by omega);obtain⟨s2,q2,r2⟩:=Kz n2 (by omega);obtain⟨s3,q3,r3⟩:=Kz n3 (by omega);obtain⟨s4,q4,r4⟩:=Kz n4 (by omega);have hl:=Ce List.length e;have hb:Nu p.Kind=some (NN [IntKind.u8.wrap p.Kind]):=rfl;have a:L (NN [IntKind.u8.wrap p.Kind])=[k]:=by grind [WO,IntKind.wrap_u8,bP,UInt8.ofNat_toNat]
 unfold H8;rw[hp];simp only[Aa,A9,Ae,hb,h1,h2,h3,h4,q1,q2,q3,q4];rw[Kj _ _ (by grind),Aa,Kj _ _ (by grind [Ow]),Aa,Kj _ _ (by grind [Ow]),Aa,Kj _ _ (by grind [Ow]),Aa,Kj _ _ (by grind [Ow]),Aa];have:NN [IntKind.u8.wrap p.Kind]++s1++s2++s3++s4++p.Text=u:=by grind [dQ,Ow]
 rw[this]
 cases GV u with
 |none=>rfl
 |some v=>rfl
theorem GI (t:ByteArray) (ht:(L t).length<=9223372036854775806):∃p ok,Gv t=some (p,ok)/\Lx t=some (p,ok)/\(ok=false->p=UR)/\(ok=true->Kt p=some true):=by
 obtain⟨u,uok,j,k,m,n⟩:=YF t ht;unfold Gv Lx;rw[j,k];simp only[Aa];have o1:oI 1:=⟨by omega,by omega⟩
 cases uok with
 |false=>
  have:=n rfl;subst this;have hz:(L<|bs []).length<=20000:=by rw[T3];simp
  exact⟨UR,false,rfl,rfl,λ_=>rfl,by simp⟩
 |true=>
  obtain⟨e,v,hv,q⟩:=m rfl;simp only[A9,Ae,Aa];by_cases he:(L u).length<1
  ·have g:seq u (bs [])=true:=by grind [X8,T3]
   simp_all [Ei,Ff,UR]
  have g:seq u (bs [])=false:=by grind [X8,T3]
  rw[Aq (by rw[Ei];omega:¬GJ u<1),g];simp only[Ae];have four_:∀(B:Int×Int×Int×Int×Int×Int->Option ((Int×Int×Int×Int×Int×Int)⊕(Int×Int×Int×Int×Int)⊕(Page×Bool))),(∀x y a b c d,B (x,y,a,b,c,d)=CJ (u,true) x y a b c d)->
    ∃(a:Int) (m1 m2 m3 m4:Int) (bad:Bool),(∃c1 c2 c3,Ch (Dk.mk u 1 false)=some (m1,c1)/\Ch c1=some (m2,c2)/\Ch c2=some (m3,c3)/\Ch c3=some (m4,Dk.mk u a bad))/\
     Ah B (1,0,0,0,0,0)=some (bif bad then .inr (UR,false)else .inl (a,m1,m2,m3,m4))/\(bad=false->∃(a1 a2 a3 a4 n1 n2 n3 n4:Nat),m1=n1/\m2=n2/\m3=n3/\m4=n4/\a=a4/\1<a1/\a1<a2/\a2<a3/\a3<a4/\a4<=(L u).length/\n1<=1000000000/\n2<=1000000000/\n3<=1000000000/\n4<=1000000000/\
      J9 n1=((L u).drop 1).take (a1-1)/\J9 n2=((L u).drop a1).take (a2-a1)/\J9 n3=((L u).drop a2).take (a3-a2)/\J9 n4=((L u).drop a3).take (a4-a3)):=by
   intro B hB;obtain⟨r1,p1,q1,w1⟩:=Fu u 1 (by omega) o1;have g1:=Iq u 1 e p1;rw[A5,hB];unfold CJ;rw[cT,q1,Aa]
   rcases w1 with⟨w1,w2,w3⟩|⟨w1,a0',a1,n1,z0,z1,z2,z3,z4,z5,z6⟩
   ·rw[w1]at g1⊢;exact⟨1,0,0,0,0,true,⟨_,_,_,g1,Ff u 1 e o1,Ff u 1 e o1,Ff u 1 e o1⟩,rfl,by simp⟩
   have ea0:a0'=1:=by omega
   subst ea0;rw[w1]at g1⊢;have x1:oI r1.2.1:=⟨by omega,by omega⟩;simp only[A9,Ae,As]at g1⊢;rw[show((0:Int)==0)=true from rfl,As,show ad 0 1=1 from ad1 (i:=0)<|by omega];simp only;obtain⟨r2,p2,q2,y1⟩:=Fu u r1.2.1 (by omega) x1;have g2:=Iq u r1.2.1 e p2;rw[A5,hB];unfold CJ;rw[cT,q2,Aa]
   rcases y1 with⟨y1,_,_⟩|⟨y1,b0,a2,n2,y2,y3,y4,y5,y6,y7,y8⟩
   ·rw[y1]at g2⊢;exact⟨r1.2.1,r1.1,0,0,0,true,⟨_,_,_,g1,g2,Ff u _ e x1,Ff u _ e x1⟩,rfl,by simp⟩
   have eb:b0=a1:=by omega
   subst eb;rw[y1]at g2⊢;have x2:oI r2.2.1:=⟨by omega,by omega⟩;simp only[A9,Ae,As]at g2⊢;rw[show((1:Int)==0)=false from rfl,Ae,show((1:Int)==1)=true from rfl,As,show ad 1 1=2 from ad1 (i:=1)<|by omega];simp only;obtain⟨r3,p3,q3,k1⟩:=Fu u r2.2.1 (by omega) x2;have g3:=Iq u r2.2.1 e p3;rw[A5,hB];unfold CJ;rw[cT,q3,Aa]
   rcases k1 with⟨k1,_,_⟩|⟨k1,c0,a3,n3,k2,k3,k4,k5,k6,k7,k8⟩
   ·rw[k1]at g3⊢;exact⟨r2.2.1,r1.1,r2.1,0,0,true,⟨_,_,_,g1,g2,g3,Ff u _ e x2⟩,rfl,by simp⟩
   have ec:c0=a2:=by omega
   subst ec;rw[k1]at g3⊢;have x3:oI r3.2.1:=⟨by omega,by omega⟩;simp only[A9,Ae,As]at g3⊢;rw[show((2:Int)==0)=false from rfl,Ae,show((2:Int)==1)=false from rfl,Ae,show((2:Int)==2)=true from rfl,As,show ad 2 1=3 from ad1 (i:=2)<|by omega];simp only;obtain⟨r4,p4,q4,l1⟩:=Fu u r3.2.1 (by omega) x3;have g4:=Iq u r3.2.1 e p4;rw[A5,hB];unfold CJ;rw[cT,q4,Aa]
   rcases l1 with⟨l1,_,_⟩|⟨l1,d0,a4,n4,l2,l3,l4,l5,l6,l7,l8⟩
   ·rw[l1]at g4⊢;exact⟨r3.2.1,r1.1,r2.1,r3.1,0,true,⟨_,_,_,g1,g2,g3,g4⟩,rfl,by simp⟩
   have ed:d0=a3:=by omega
   subst ed;rw[l1]at g4⊢;simp only[A9,Ae,As]at g4⊢;rw[show((3:Int)==0)=false from rfl,Ae,show((3:Int)==1)=false from rfl,Ae,show((3:Int)==2)=false from rfl,Ae,show((3:Int)==3)=true from rfl,As,show ad 3 1=4 from ad1 (i:=3)<|by omega];simp only;rw[A5,hB];unfold CJ;rw[cF];exact⟨r4.2.1,r1.1,r2.1,r3.1,r4.1,false,⟨_,_,_,g1,g2,g3,g4⟩,rfl,λ_=>⟨b0,c0,d0,a4,n1,n2,n3,n4,z2,y4,k4,l4,l3,z3,y5,k5,l5,l6,z5,y7,k7,l7,z6,y8,k8,l8⟩⟩
  obtain⟨a,m1,m2,m3,m4,bad,⟨c1,c2,c3,f1,f2,f3,f4⟩,f5,f6⟩:=four_ (λs:Int×Int×Int×Int×Int×Int=>CJ (u,true) s.1 s.2.1 s.2.2.1 s.2.2.2.1 s.2.2.2.2.1 s.2.2.2.2.2) λ_ _ _ _ _ _=>rfl;rw[f5];simp only[f1,f2,f3,f4,Aa]
  cases bad with
  |true=>grind [UR]
  |false=>
   obtain⟨a1,a2,a3,a4,n1,n2,n3,n4,rfl,rfl,rfl,rfl,rfl,i1,i2,i3,i4,i5,j1,j2,j3,j4,s1,s2,s3,s4⟩:=f6 rfl;simp only[Ae,Aa,DD];have o:sx u 0=some (((L u)[0]'(by omega)).toNat:Int):=Qs u (i:=0) (by omega);have h:sub u (a4:Int) (GJ u)=some (u.extract a4 (L u).length):=by grind [Ei,R9]
   rw[o,h];simp only[Aa];have hk:=bP ((L u)[0]'(by omega));have hw:IntKind.i64.wrap (((L u)[0]'(by omega)).toNat:Int)=((L u)[0]'(by omega)).toNat:=T8 (by omega) (by omega);rw[hw];obtain⟨po,po1,po2,_⟩:=QJ (Page.mk (((L u)[0]'(by omega)).toNat:Int) n1 n2 n3 n4<|u.extract a4 (L u).length);rw[po2]
   cases po with
   |false=>
    have:H8 (Page.mk (((L u)[0]'(by omega)).toNat:Int) n1 n2 n3 n4<|u.extract a4 (L u).length)=some (bs [],false):=by grind [H8]
    rw[this];simp[UR]
   |true=>
    have hT:L (u.extract a4 (L u).length)=(L u).drop a4:=by grind [YK,AY]
    have f:L u=[(L u)[0]'(by omega)]++J9 n1++J9 n2++J9 n3++J9 n4++L (u.extract a4 (L u).length):=by
     rw[hT,s1,s2,s3,s4];have h0:L u=[(L u)[0]'(by omega)]++(L u).drop 1:=by
      have:=Bp (l:=L u) (i:=0) (by omega);simpa using this
     grind [aS]
    rw[YJ _ u ((L u)[0]'(by omega)) n1 n2 n3 n4 po1 rfl rfl rfl rfl rfl j1 j2 j3 j4 e f];obtain⟨v',hv',hs'⟩:=(Vr u).2 e;rw[hv]at hv'
    injection hv' with hv'
    subst hv';rw[hs',Aa];have:seq (u++four v) t=true:=by grind [Qw]
    simp only[A9,Ae,Aa,this]
    grind
def JC (x:Leaf):Nat:=x.Text.size
def Dq (x:Block):Nat:=zl JC x.Leaves
def Ke (x:Flash):Nat:=zl Dq x.Blocks
theorem d9 (x:Leaf) (h:XT x):BW JC Ma x:=by
 intro left h0 h1;have hx:x.Text.size<=9223372036854775807:=h.2;have e:GJ x.Text=(x.Text.size:Int):=rfl;unfold Ma;rw[C0 (by rw[e];omega) (by rw[e];omega),e];unfold JC;by_cases hc:(x.Text.size:Int)<=left
 ·rw[cF];exact⟨_,rfl,by rw[Bw hc]⟩
 rw[cT];exact⟨_,rfl,by rw[Bm hc];omega⟩
theorem Zq (l:List Leaf) (h:ol XT l):BW (zl JC) Qk l:=
 Kc (Pt JC Ma l h.1 (λx hx=>d9 x<|h.2 x hx) (λ_ _=>rfl) λ_=>rfl)
theorem BW.wrap {z:β->Nat} {g:β->Int->Option Int} {f:α->Int->Option Int} {y:β} {z':α->Nat} (h:BW z g y) (hz:z' x=z y) (hf:∀left,f x left=(g y left).bind λv=>bif decide (v<0)then some (-1)else some v):BW z' f x:=by
 intro left h0 h1;rw[hz];obtain⟨v,h2,h3⟩:=h left h0 h1;rw[hf,h2,Aa];split at h3
 ·rename_i hc;rw[cF];exact⟨_,rfl,by rw[Bw hc];exact h3⟩
 rename_i hc;rw[Ag h3,As];exact⟨_,rfl,by rw[Bm hc];omega⟩
theorem Zt (x:Block) (h:S9 x):BW Dq No x:=BW.wrap (Zq x.Leaves h.2.2) rfl λ_=>rfl
theorem Xz (l:List Block) (h:ol S9 l):BW (zl Dq) O1 l:=
 Kc (Pt Dq No l h.1 (λx hx=>Zt x<|h.2 x hx) (λ_ _=>rfl) λ_=>rfl)
theorem Zs (x:Flash) (h:ZT x):BW Ke Qm x:=BW.wrap (Xz x.Blocks h) rfl λ_=>rfl
theorem Zi (l:List Leaf) (h:zl JC l<=1048576):Qg l=some l:=by
 have:=Jg (z:=JC) (l:=l);exact Kq Pc l (by omega) (by omega) (λ_ _=>rfl) (λ_ _=>rfl) rfl
theorem Zl (x:Block) (h:Dq x<=1048576):Kn x=some x:=by
 unfold Kn;rw[Zi _ h];rfl
theorem Xx (l:List Block) (h:zl Dq l<=1048576):Oz l=some l:=by
 have:=Jg (z:=Dq) (l:=l);exact Kq Kn l (by omega) (by omega) (λx hx=>Zl x (by have:=Qe (z:=Dq) hx;omega)) (λ_ _=>rfl) rfl
theorem Zk (x:Flash) (h:Ke x<=1048576):Nm x=some x:=by
 unfold Nm;rw[Xx _ h];rfl
theorem fH (a b:Leaf):DV (Mn a b) a b:=by
 cases a with
 |mk a1 a2=>
 cases b with
 |mk b1 b2=>
 have:IS (Mn (Leaf.mk a1 a2)<|Leaf.mk b1 b2) (a1=b1/\a2=b2/\True):=CR (by simp)<|CR gL Fy;simpa only[DV,IS,Leaf.mk.injEq,NT]using this
theorem aM (a b:List Leaf) (h:a.length<=1048576):DV (Qp a b) a b:=
 K3 Mn a b (by omega) (λx _ y _=>fH x y) (λ_=>rfl) rfl
theorem aP (a b:Block) (h:Dq a<=1048576):DV (Ko a b) a b:=by
 cases a with
 |mk a1 a2 a3=>
 cases b with
 |mk b1 b2 b3=>
 have hl:=Jg (z:=JC) (l:=a3);have:IS (Ko (Block.mk a1 a2 a3)<|Block.mk b1 b2 b3) (a1=b1/\a2=b2/\a3=b3/\True):=CR (by cases a1<;>cases b1<;>simp) (CR (by simp)<|G7 (aM a3 b3 (by unfold Dq at h;simp only at h;omega)) Fy);simpa only[DV,IS,Block.mk.injEq,NT]using this
theorem Y3 (a b:List Block) (h:zl Dq a<=1048576):DV (O2 a b) a b:=by
 have:=Jg (z:=Dq) (l:=a);exact K3 Ko a b (by omega) (λx hx y _=>aP x y (by have:=Qe (z:=Dq) hx;omega)) (λ_=>rfl) rfl
theorem aO (a b:Flash) (h:Ke a<=1048576):DV (Nq a b) a b:=by
 cases a with
 |mk a1=>
 cases b with
 |mk b1=>
 have:IS (Nq (Flash.mk a1)<|Flash.mk b1) (a1=b1/\True):=G7 (Y3 a1 b1 h) Fy;simpa only[DV,IS,Flash.mk.injEq,NT]using this
theorem mP (f:Flash) (h:Ke f<=1048576):LF f/\∀b∈f.Blocks,∀x∈b.Leaves,(L x.Text).length<=1048576:=by
 have h1:=Jg (z:=Dq) (l:=f.Blocks);unfold Ke at h;refine⟨⟨by omega,λb hb=>?_⟩,λb hb x hx=>?_⟩
 ·grind [Qe,Dq,zl]
 grind [Qe,T1,Dq,JC]
def nl (l:List Block):Nat:=(l.map λb=>b.Leaves.length).sum
def MP (f:Flash) (y:Ay):Prop:=∃b x,gi f.Blocks y.Block=some b/\gi b.Leaves y.Leaf=some x/\(x.Is==1)=true/\Gv x.Text=some (y.Page,true)
theorem Rv {k:Nat} {x:Leaf} (f:Flash) (hf:LF f) (hb:f.Blocks[i]?=some b) (hx:b.Leaves[k]?=some x):KY f i k=some (cond (x.Is==1) (x.Text,true) (bs [],false)):=by
 have h1:=(Ad.1 hb).1;have h2:=(Ad.1 hx).1;have h3:=hf.1;have h4:=hf.2 b<|A3 hb;unfold KY;rw[C0 (by rw[Cs];omega) (by rw[Cs];omega),On,Cs,Ag (by omega:(0:Int)<=(i:Int)),Ag (by omega:(i:Int)<=(f.Blocks.length:Int)-1)];simp only[Aa,Bool.and_self,A9,Ae,A0,hb];rw[C0 (by rw[Cs];omega) (by rw[Cs];omega),On,Cs,Ag (by omega:(0:Int)<=(k:Int)),Ag (by omega:(k:Int)<=(b.Leaves.length:Int)-1)]
 grind
theorem Te (f:Flash) (hf:LF f) (hT:∀b∈f.Blocks,∀x∈b.Leaves,(L x.Text).length<=1048576) (hn:nl f.Blocks<=1048576):
  ∃X,Ah (λs:List Ay×Int=>CE f s.1 s.2) ([],0)=some X/\Ah (λs:Int×List Ay=>FI f s.1 s.2) (0,[])=some X/\X.length<=nl f.Blocks/\∀y∈X,MP f y:=by
 refine Ya (body:=λs:List Ay×Int=>CE f s.1 s.2) (body':=λs:Int×List Ay=>FI f s.1 s.2) (λs i=>(s,i)) (λs i=>(i,s)) f.Blocks.length (λi a=>a.length<=((f.Blocks.take i).map λb=>b.Leaves.length).sum/\∀y∈a,MP f y) (λX=>X.length<=nl f.Blocks/\∀y∈X,MP f y) ?_ ?_ (s:=[]) ⟨by simp,by simp⟩
 ·intro a i hi ⟨c,d⟩;have hb:f.Blocks[i]?=some f.Blocks[i]:=Ab hi;have hm:f.Blocks[i]∈f.Blocks:=AX _;have h:=X3 (λb:Block=>b.Leaves.length) f.Blocks i hi;have j:=X2 (λb:Block=>b.Leaves.length) f.Blocks<|i+1;unfold nl at hn;have l:=hf.1;refine .inl ?_;simp only[CE,FI,Hc hi,A0,hb,Aa];obtain⟨u,q1,q2,q3⟩:=Ya (body:=λs:List Ay×Int=>D4 f (i:Int) s.1 s.2) (body':=λs:Int×List Ay=>Hi (i:Int) f.Blocks[i] s.1 s.2) (λs i=>(s,i)) (λs i=>(i,s)) f.Blocks[i].Leaves.length (λk u=>u.length<=a.length+k/\∀y∈u,MP f y) (λu=>u.length<=a.length+f.Blocks[i].Leaves.length/\∀y∈u,MP f y)
   (λu k hk hu=>by
    have hx:f.Blocks[i].Leaves[k]?=some f.Blocks[i].Leaves[k]:=Ab hk
    have g:∀y:Ay,ap 72 u [y]=some (u++ [y]):=λy=>CC<|by grind
    refine .inl ?_;obtain⟨p,ok,r1,r2,r3,r4⟩:=GI f.Blocks[i].Leaves[k].Text (by grind);simp only[D4,Hi,Hc hk,A0,hb,hx,Aa,Rv f hf hb hx,r2,g]
    cases e:f.Blocks[i].Leaves[k].Is==1 with
    |false=>grind [GI,T3,ad1]
    |true=>
     simp only[As,Aa,r1]
     cases ok with
     |false=>grind [ad1]
     |true=>
      refine⟨u++ [Ay.mk i k p],by grind [ad1],by grind [ad1],by grind,λy hy=>?_⟩
      rcases Au.1 hy with hy|hy
      ·exact hu.2 y hy
      rw[IT]at hy;subst hy
      exact⟨_,_,by simp only[A0];exact hb,by grind [A0],e,r1⟩)
   (λu hu=>⟨u,by simp_all [A0,HD,D4],by simp[HD,Hi],hu⟩) (s:=a) ⟨by omega,d⟩
  grind [ad1]
 intro a ⟨c,d⟩;refine⟨a,by simp[HD,CE],by simp[HD,FI],?_,d⟩;rw[QL]at c;exact c
theorem W0 {l:List γ} {i j:Int} {x y:γ} (h:gi l j=some y):∃z,gi (si l i x) j=some z:=by grind [gi,si]
theorem Zw (l:List Ay) (k:Int):GW l k=(AH (J7 AW) 0 k l).map (Sum.map (λs=>(s.2,s.1)) id):=by
 unfold GW AH fW Zv
 cases hk:decide (k>0)with
 |false=>rfl
 |true=>
  cases h1:gi l (sb k 1)with
  |none=>simp
  |some x=>
   cases h2:gi l k with
   |none=>simp
   |some y=>
    simp only[Aa];have e:(decide<|x.Page.Seq>y.Page.Seq)=J7 AW y x:=rfl;rw[e]
    cases J7 AW y x with
    |false=>rfl
    |true=>
     obtain⟨z,hz⟩:=W0 (i:=k) (x:=x) h1
     grind
theorem kH {l l':List γ} {i j:Int} (h:Zv l i j=some l'):l'.length=l.length:=by grind [Ac,Zv,si]
theorem mD {a j:Int} {l r:List Ay} (h:Ah (λs:Int×List Ay=>AH (J7 AW) a s.1 s.2) (j,l)=some r):r.length=l.length:=by
 refine eW (λs:Int×List Ay=>s.2.length=l.length) (λr=>r.length=l.length) ?_ ?_ (s:=(j,l)) rfl h
 ·rintro⟨j,m⟩ s' hm hb;obtain⟨c,_,hb⟩:=Ac.1 hb
  grind [Ac,kH]
 rintro⟨j,m⟩ b hm hb;obtain⟨c,_,hb⟩:=Ac.1 hb
 grind [Ac]
theorem bF (f:Flash) (hf:LF f) (hT:∀b∈f.Blocks,∀x∈b.Leaves,(L x.Text).length<=1048576) (hn:nl f.Blocks<=1048576):
  ∃r,Kr f=some r/\GC f=some r/\r.length<=nl f.Blocks/\(∀y∈r,MP f y)/\Oi AW r:=by
 obtain⟨X,h1,h2,h3,h4⟩:=Te f hf hT hn;obtain⟨r,h5,h6,h7⟩:=UC AW X (by omega);obtain⟨r',h8,h9,h10⟩:=FE AW [] X [] (by grind);have hr:r'=r:=O8 AW h9 h6 (λk=>by rw[h7 k,<-h10 k]);subst hr;refine⟨r',?_,?_,?_,?_,h6⟩
 ·unfold Kr;rw[h1,Aa];simp only[Ar,A6,RO,HK]at h8;unfold Be at h8;have hc:Ah (λs:List Ay×Int=>GX s.1 s.2) (X,1)=Ah (λs:Int×List Ay=>AD (J7 AW) ((0:Nat):Int) (X.length:Int) s.1 s.2) (1,X):=by
   refine Yc (body:=λs:Int×List Ay=>AD (J7 AW) ((0:Nat):Int) (X.length:Int) s.1 s.2) (body':=λs:List Ay×Int=>GX s.1 s.2) (λs=>(s.2,s.1)) (λs=>s.2.length=X.length) ?_ ?_ (1,X) rfl
   ·rintro⟨j,m⟩ hm;simp only[GX,AD,Cs,hm]
    cases decide (j<(X.length:Int))with
    |false=>rfl
    |true=>
     rw[ZX (body:=λs:Int×List Ay=>AH (J7 AW) ((0:Nat):Int) s.1 s.2) (body':=λs:List Ay×Int=>GW s.1 s.2) (λs=>(s.2,s.1)) (λs=>Zw s.2 s.1) (j,m)];cases Ah (λs:Int×List Ay=>AH (J7 AW) ((0:Nat):Int) s.1 s.2) (j,m)<;>rfl
   rintro⟨j,m⟩ s' hm hb;simp only[AD]at hb
   cases hc:decide (j<(X.length:Int))with
   |false=>grind
   |true=>
    rw[hc,As]at hb;obtain⟨m',h1,hb⟩:=Ac.1 hb
    injection hb with hb
    injection hb with hb
    subst hb;exact(mD h1).trans hm
  rw[hc];exact h8
 ·unfold GC
  grind
 ·grind [Bg.len]
 grind [Bg.mem]
theorem BW.two {z1:β->Nat} {z2:γ->Nat} {g1:β->Int->Option Int} {g2:γ->Int->Option Int} {f:α->Int->Option Int} {y1:β} {y2:γ} {z:α->Nat} (h1:BW z1 g1 y1) (h2:BW z2 g2 y2) (hz:z x=z1 y1+z2 y2) (hf:∀left,f x left=(g1 y1 left).bind λv=>bif decide (v<0)then some (-1)else((g2 y2 v).bind λw=>bif decide (w<0)then some (-1)else some w)):BW z f x:=by
 intro left h0 hm;obtain⟨v,k1,k2⟩:=h1 left h0 hm;rw[hf,k1,Aa,hz];split at k2
 ·rename_i hc;rw[cF];obtain⟨w,k3,k4⟩:=h2 v (by omega) (by omega);rw[k3,Aa];split at k4
  ·rename_i hd;rw[cF];exact⟨_,rfl,by rw[Bw<|by omega];omega⟩
  rename_i hd;rw[Ag k4,As];exact⟨_,rfl,by rw[Bm<|by omega];omega⟩
 rename_i hc;rw[Ag k2,As];exact⟨_,rfl,by rw[Bm<|by omega];omega⟩
theorem BW.flat {f:List α->Int->Option Int} (hl:l.length<=9223372036854775807) (hf:∀left,f l left=bif decide (sb left (ln l)<0)then some (-1)else some (sb left (ln l))):BW List.length f l:=by
 intro left h0 hm;rw[hf,C0 (by rw[Cs];omega) (by rw[Cs];omega),Cs];by_cases hc:(l.length:Int)<=left
 ·rw[cF];exact⟨_,rfl,by rw[Bw hc]⟩
 rw[cT];exact⟨_,rfl,by rw[Bm hc];omega⟩
def GO (x:Knot):Nat:=x.Kids.length
def Qf (x:Arena):Nat:=zl GO x.Knots
def KD (x:Store):Nat:=x.Vols.length+Qf x.Arena
def EH (x:Device):Nat:=Ke x.Flash+KD x.Store
theorem eA (x:Knot) (h:XU x):BW GO Ph x:=BW.wrap (z:=List.length) (g:=RY) (BW.flat h.2.1 λ_=>rfl) rfl λ_=>rfl
theorem Zr (l:List Knot) (h:ol XU l):BW (zl GO) Ql l:=
 Kc (Pt GO Ph l h.1 (λx hx=>eA x<|h.2 x hx) (λ_ _=>rfl) λ_=>rfl)
theorem Zu (x:Arena) (h:ZU x):BW Qf Qn x:=BW.wrap (Zr x.Knots h) rfl λ_=>rfl
theorem Zo (x:Store) (h:ZS x):BW KD Qi x:=BW.two (z1:=List.length) (g1:=RX) (BW.flat h.1.1 λ_=>rfl) (Zu x.Arena h.2.1) rfl λ_=>rfl
theorem Xy (x:Device) (h:Wc x):BW EH O0 x:=BW.two (Zs x.Flash h.1) (Zo x.Store h.2.1) rfl λ_=>rfl
theorem dY (l:List Vol) (h:l.length<=1048576):RU l=some l:=Kq R7 l (by omega) (by omega) (λ_ _=>rfl) (λ_ _=>rfl) rfl
theorem d7 (l:List Int) (h:l.length<=1048576):RV l=some l:=Kq (λx=>some x) l (by omega) (by omega) (λ_ _=>rfl) (λ_ _=>rfl) rfl
theorem dZ (x:Knot) (h:GO x<=1048576):LY x=some x:=by
 unfold LY;rw[d7 _ h];rfl
theorem Zj (l:List Knot) (h:zl GO l<=1048576):Qh l=some l:=by
 have:=Jg (z:=GO) (l:=l);exact Kq LY l (by omega) (by omega) (λx hx=>dZ x (by have:=Qe (z:=GO) hx;omega)) (λ_ _=>rfl) rfl
theorem Zm (x:Arena) (h:Qf x<=1048576):Nn x=some x:=by
 unfold Nn;rw[Zj _ h];rfl
theorem Zg (x:Store) (h:KD x<=1048576):Nl x=some x:=by
 unfold KD at h;unfold Nl;rw[dY _ (by omega),Aa,Zm _<|by omega];rfl
theorem Xw (x:Device) (h:EH x<=1048576):Gq x=some x:=by
 unfold EH at h;unfold Gq;rw[Zk _ (by omega),Aa,Zg _<|by omega];rfl
theorem jB (a b:Vol):DV (Pi a b) a b:=by
 cases a with
 |mk a1 a2=>
 cases b with
 |mk b1 b2=>
 have:IS (Pi (Vol.mk a1 a2)<|Vol.mk b1 b2) (a1=b1/\a2=b2/\True):=CR (by simp) (CR (by simp) Fy);simpa only[DV,IS,Vol.mk.injEq,NT]using this
theorem fF (a b:List Vol) (h:a.length<=1048576):DV (Sb a b) a b:=
 K3 Pi a b (by omega) (λx _ y _=>jB x y) (λ_=>rfl) rfl
theorem fJ (a b:List Int) (h:a.length<=1048576):DV (Sc a b) a b:=
 K3 (λx y=>some<|!(x !=y)) a b (by omega) (λx _ y _=>⟨_,rfl,by simp⟩) (λi=>by
  unfold Mp
  cases decide (i<ln a)with
  |false=>rfl
  |true=>
   simp only[As]
   cases gi a i with
   |none=>rfl
   |some x=>
    cases gi b i with
    |none=>rfl
    |some y=>simp only[Aa,Bool.not_not]) rfl
theorem fI (a b:Knot) (h:GO a<=1048576):DV (Mo a b) a b:=by
 cases a with
 |mk a1 a2=>
 cases b with
 |mk b1 b2=>
 have:IS (Mo (Knot.mk a1 a2)<|Knot.mk b1 b2) (a1=b1/\a2=b2/\True):=CR (by cases a1<;>cases b1<;>simp)<|G7 (fJ a2 b2 h) Fy;simpa only[DV,IS,Knot.mk.injEq,NT]using this
theorem aN (a b:List Knot) (h:zl GO a<=1048576):DV (Qq a b) a b:=by
 have:=Jg (z:=GO) (l:=a);exact K3 Mo a b (by omega) (λx hx y _=>fI x y (by have:=Qe (z:=GO) hx;omega)) (λ_=>rfl) rfl
theorem aQ (a b:Arena) (h:Qf a<=1048576):DV (Nr a b) a b:=by
 cases a with
 |mk a1=>
 cases b with
 |mk b1=>
 have:IS (Nr (Arena.mk a1)<|Arena.mk b1) (a1=b1/\True):=G7 (aN a1 b1 h) Fy;simpa only[DV,IS,Arena.mk.injEq,NT]using this
theorem aK (a b:Store) (h:KD a<=1048576):DV (Np a b) a b:=by
 cases a with
 |mk a1 a2 a3=>
 cases b with
 |mk b1 b2 b3=>
 unfold KD at h;simp only at h;have:IS (Np (Store.mk a1 a2 a3)<|Store.mk b1 b2 b3) (a1=b1/\a2=b2/\a3=b3/\True):=G7 (fF a1 b1<|by omega) (G7 (aQ a2 b2<|by omega)<|CR (by simp) Fy);simpa only[DV,IS,Store.mk.injEq,NT]using this
theorem Rl (a b:Device) (h:EH a<=1048576):DV (Gr a b) a b:=by
 cases a with
 |mk a1 a2 a3 a4 a5=>
 cases b with
 |mk b1 b2 b3 b4 b5=>
 unfold EH at h;simp only at h;have:IS (Gr (Device.mk a1 a2 a3 a4 a5)<|Device.mk b1 b2 b3 b4 b5) (a1=b1/\a2=b2/\a3=b3/\a4=b4/\a5=b5/\True):=G7 (aO a1 b1<|by omega) (G7 (aK a2 b2<|by omega)<|CR (by simp)<|CR (by simp)<|CR (by simp) Fy);simpa only[DV,IS,Device.mk.injEq,NT]using this
theorem qT (x a b:Int):B3 x a b=some (decide (a<=x/\x<=b)):=by
 rw[On];simp
theorem WU (a:Arena):GF a=G9 a:=by
 unfold GF G9
 grind [dJ,L4,F9,gi,L3,F8]
def o5 (c:Int) (y:Ay):Bool:=y.Page.Kind==1&&y.Page.Tx==c
theorem hO (hT:∀b∈f.Blocks,∀x∈b.Leaves,(L x.Text).length<=1048576) (h:MP f y):(L y.Page.Text).length<=90:=by
 obtain⟨b,x,h1,h2,_,h3⟩:=h;obtain⟨_,g1⟩:=L7 h1;obtain⟨_,g2⟩:=L7 h2;obtain⟨p,ok,k1,_,_,k2⟩:=GI x.Text (by grind);rw[h3]at k1
 injection k1 with k1
 injection k1 with k1 k3
 have hp:=k2 k3.symm;obtain⟨v,q1,_,q2⟩:=QJ p
 grind [Ei]
structure m6 (f:Flash) (r:List Ay):Prop where
 s:Kr f=some r
 i:GC f=some r
 len:r.length<=1048576
 page:∀y∈r,MP f y
 text:∀y∈r,(L y.Page.Text).length<=90
 Oi:Oi AW r
def asc (l:List Int):Prop:=l.Pairwise λx y=>x<y
theorem dM:∀{a b:List Int},asc a->asc b->(∀x,x∈a↔x∈b)->a=b
 |[],[],_,_,_=>rfl
 |[],y::b,_,_,h=>by grind [Ec]
 |x::a,[],_,_,h=>by grind [Ec]
 |x::a,y::b,ha,hb,h=>by
  obtain⟨a1,a2⟩:=Cn.1 ha;obtain⟨b1,b2⟩:=Cn.1 hb;have c:x=y:=by grind [Ec]
  subst c;congr 1
  refine dM a2 b2 λz=>⟨λhz=>?_,λhz=>?_⟩
  ·grind
  grind
def mF (l:List Int) (x:Int):List Int:=l.filter (λy=>decide<|y<x)++(if x>0 then [x]else [])++l.filter (λy=>decide<|y>x)
theorem Vi {body:List Int×Int->Option ((List Int×Int)⊕(List Int))} (l:List Int) (p:Int->Bool) (o:List Int) (hM:l.length+o.length<=1073741824) (hb:∀(u:List Int) (i:Nat) x,l[i]?=some x->u.length<=o.length+i->body (u,(i:Int))=(bif p x then((ap 8 u [x]).bind λc=>some (.inl (c,ad (i:Int) 1)))else some (.inl (u,ad (i:Int) 1)))) (he:∀u,body (u,(l.length:Int))=some (.inr u)):Ah body (o,0)=some (o++l.filter p):=by
 obtain⟨b,h1,rfl⟩:=Bs (body:=body) (λ(u:List Int) i=>(u,i)) l.length (λi u=>u=o++(l.take i).filter p) (λu=>u=o++l.filter p)
  (λu i hi hu=>by
   have hg:l[i]?=some l[i]:=Ab hi;have a:u.length<=o.length+i:=by grind
   refine .inl ?_;rw[hb u i _ hg a];have et:l.take (i+1)=l.take i++ [l[i]]:=by simp
   cases hp:p l[i]with
   |true=>grind [CC,ad1]
   |false=>
    rw[ad1]
    grind)
  (λu hu=>⟨u,he u,by grind⟩) (s:=o) (by simp)
 exact h1
theorem mC {l:List Int} {x y:Int} (hl:∀z∈l,0<z):y∈mF l x↔y∈l\/(y=x/\0<x):=by
 unfold mF
 grind
theorem mE {l:List Int} {x:Int} (h:asc l):asc (mF l x):=by
 unfold mF asc;rw[AP,AP];refine⟨⟨List.Pairwise.filter _ h,?_,?_⟩,List.Pairwise.filter _ h,?_⟩
 ·split<;>simp
 ·grind
 grind
theorem ZY (l:List Int) (x:Int) (h:asc l):(mF l x).length<=l.length+1:=by
 have hd:(l.filter λy=>decide<|y<x).length+(l.filter λy=>decide<|y>x).length<=l.length:=by
  have e:∀l:List Int,(l.filter λy=>decide<|y<x).length+(l.filter λy=>decide<|y>x).length<=l.length:=by
   intro l
   induction l with
   |nil=>simp
   |cons z l ih=>grind
  exact e l
 unfold mF
 grind
def uniq (l:List Int) (n:Nat):List Int:=((List.range n).filter λi=>i==0||l[i-1]?.getD 0 !=l[i]?.getD 0).map λi=>l[i]?.getD 0
theorem XY (h0:0<=k) (h1:k<=9223372036854775807):∃v,EQ k=some v:=by
 unfold EQ;by_cases hk:k<=0
 ·exact⟨_,by rw[Ag hk,As]⟩
 rw[Aq hk,Ae];obtain⟨u,hu,hl⟩:=Rn (body:=λs:Int×ByteArray=>FV s.1 s.2)
  (λk t h2 h3 h4=>by
   unfold FV;simp only[Ag h2,As];rw[Kj _ _ (by rw[WO];simp;omega),Aa];unfold qu
   rw[T8 (by rw[Int.tdiv_eq_ediv_of_nonneg<|by omega];omega) (by rw[Int.tdiv_eq_ediv_of_nonneg<|by omega];omega)])
  (λk t h2=>by
   unfold FV
   simp only[Aq (show¬k>0 by omega),Ae])
  19 k (bs []) (Int.lt_of_le_of_lt h1<|by decide) h1 (by rw[T3];simp)
 rw[hu,Aa,Kj _ _ (by rw[T3];simp;omega),Aa];exact⟨_,rfl⟩
noncomputable def mt (k:Int):ByteArray:=(EQ k).getD (bs [])
theorem MJ (h0:0<=k) (h1:k<=9223372036854775807):EQ k=some (mt k):=by
 obtain⟨v,h⟩:=XY h0 h1;rw[mt,h];rfl
noncomputable def PS (k:Int) (x:Leaf):Leaf:=Leaf.mk k (mt (k+1))
theorem Wf (l:List Leaf) (h0:0<=k) (hB:k+(((l.map λ_=>2).sum:Nat):Int)<=1152921504606846976):
  JF l k=some (k+(((l.map λ_=>2).sum:Nat):Int),CL (λ_=>2) PS l k):=by
 have hl:l.length<=1152921504606846976:=by rw[C7]at hB;omega
 refine Jb (λ_=>2) PS (λ_=>True) 1152921504606846976 l rfl (λa x post k h1 _ h2 h3=>?_) (λm k hm=>?_) (λ_ _=>trivial) h0 hB
 ·simp only[ES,N4,As,L6,KP,Aa];rw[Cq,MJ (by omega) (by omega),Aa,Cq,ad1];simp only[PS];congr 4;omega
 simp only[ES,N5 m hm,Ae]
def Er (x:Block):Nat:=2+(x.Leaves.map λ_=>2).sum
noncomputable def Na (k:Int) (x:Block):Block:=Block.mk ((Int.tmod k 3)==0) (k+1) (CL (λ_=>2) PS x.Leaves (k+2))
theorem TX (l:List Block) (h0:0<=k) (hB:k+(((l.map Er).sum:Nat):Int)<=1152921504606846976):
  IC l k=some (k+(((l.map Er).sum:Nat):Int),CL Er Na l k):=by
 have hl:l.length<=1152921504606846976:=by
  have:=Qt (c:=λ_=>2) (z:=Er) (l:=l) (λx=>by simp[Er]);rw[C7]at this;omega
 refine Jb Er Na (λ_=>True) 1152921504606846976 l rfl (λb x post k h1 _ h2 h3=>?_) (λm k hm=>?_) (λ_ _=>trivial) h0 hB
 ·have h3':k+((2+(x.Leaves.map λ_=>2).sum:Nat):Int)<=1152921504606846976:=h3;simp only[Et,N4,As,L6,KP,Aa];rw[Cq (a:=k) (by omega) (by omega),Cq,Wf _ (by omega) (by omega),Aa,ad1];have e:k+1+1=k+2:=by omega
  simp only[Na,e,Er];congr 4;omega
 simp only[Et,N5 m hm,Ae]
def Y1 (k:Int) (x:Vol):Vol:=Vol.mk k<|k+1
theorem XX (l:List Vol) (h0:0<=k) (hB:k+(((l.map λ_=>2).sum:Nat):Int)<=1152921504606846976):
  KF l k=some (k+(((l.map λ_=>2).sum:Nat):Int),CL (λ_=>2) Y1 l k):=by
 have hl:l.length<=1152921504606846976:=by rw[C7]at hB;omega
 refine Jb (λ_=>2) Y1 (λ_=>True) 1152921504606846976 l rfl (λa x post k h1 _ h2 h3=>?_) (λm k hm=>?_) (λ_ _=>trivial) h0 hB
 ·simp only[FU,N4,As,L6,KP,Aa];rw[Cq,Cq,ad1];simp only[Y1];congr 4;omega
 simp only[FU,N5 m hm,Ae]
def Y2 (k:Int) (x:Int):Int:=k
theorem XZ (l:List Int) (h0:0<=k) (hB:k+(((l.map λ_=>1).sum:Nat):Int)<=1152921504606846976):
  KH l k=some (k+(((l.map λ_=>1).sum:Nat):Int),CL (λ_=>1) Y2 l k):=by
 have hl:l.length<=1152921504606846976:=by rw[C7]at hB;omega
 refine Jb (λ_=>1) Y2 (λ_=>True) 1152921504606846976 l rfl (λa x post k h1 _ h2 h3=>?_) (λm k hm=>?_) (λ_ _=>trivial) h0 hB
 ·simp only[FW,N4,As,L6,KP,Aa];rw[Cq,ad1];rfl
 simp only[FW,N5 m hm,Ae]
theorem Yr (l:List Int) (h0:0<=k) (hB:k+(((l.map λ_=>1).sum:Nat):Int)<=1152921504606846976):
  KJ (CL (λ_=>1) Y2 l k) k=some (k+(((l.map λ_=>1).sum:Nat):Int)):=by
 have hl:l.length<=1152921504606846976:=by rw[C7]at hB;omega
 unfold KJ;rw[K2 (body:=λs:Int×Int=>FY (CL (λ_=>1) Y2 l k) s.1 s.2) (λ_=>1) Y2 (λ_=>True) 1152921504606846976 l (λi x k' hi hg _ h2 h3=>?_) (λk'=>?_) (λ_ _=>trivial) h0 hB]
 ·rfl
 ·have a:i<(CL (λ_=>1) Y2 l k).length:=by rw[Df];exact hi
  simp only[FY,Hc a,A0,hg,Aa,Y2,GM,Ae];rw[Cq,ad1];rfl
 simp only[FY,Hb,Df,DJ,R5,Ae]
def Ho (x:Knot):Nat:=1+(x.Kids.map λ_=>1).sum
def Rk (k:Int) (x:Knot):Knot:=Knot.mk ((Int.tmod k 3)==0)<|CL (λ_=>1) Y2 x.Kids<|k+1
theorem Wg (l:List Knot) (h0:0<=k) (hB:k+(((l.map Ho).sum:Nat):Int)<=1152921504606846976):
  JG l k=some (k+(((l.map Ho).sum:Nat):Int),CL Ho Rk l k):=by
 have hl:l.length<=1152921504606846976:=by
  have:=Qt (c:=λ_=>1) (z:=Ho) (l:=l) (λx=>by simp[Ho]);rw[C7]at this;omega
 refine Jb Ho Rk (λ_=>True) 1152921504606846976 l rfl (λb x post k h1 _ h2 h3=>?_) (λm k hm=>?_) (λ_ _=>trivial) h0 hB
 ·have h3':k+((1+(x.Kids.map λ_=>1).sum:Nat):Int)<=1152921504606846976:=h3;simp only[ET,N4,As,L6,KP,Aa];rw[Cq (a:=k) (by omega) (by omega),XZ _ (by omega) (by omega),Aa,ad1];simp only[Rk,Ho];congr 4;omega
 simp only[ET,N5 m hm,Ae]
theorem mH (x a b:Int):GL x a b=some (decide (a<=x/\x<=b)):=by
 unfold GL
 grind
theorem jM (b:Bool) (x y:α):(bif b then some x else some y)=some (bif b then x else y):=by cases b<;>rfl
theorem Hn:Fk=Fz:=rfl
theorem W7:MY=Ig:=rfl
def WE:List Leaf:=List.replicate 4<|Leaf.mk 0<|bs []
theorem eV:mk 24 (Leaf.mk 0 (bs [])) 4=some WE:=SE (n:=4) (by omega)<|by omega
theorem Tp:Kh=some WE:=by rfl
theorem Eq (f:Flash) (h:LF f):Fz f=some f:=by
 unfold Fz;have:=SG (body:=λs:Int×List Block=>GR f s.1 s.2) f.Blocks (λx=>x)
  (λi x a hx ho=>by
   have b:=(Ad.1 hx).1;have h1:=h.1;have h2:=h.2 x<|A3 hx;unfold GR;simp only[Hc b,A0,hx,Aa]
   rw[CC (by grind),Aa,CC (by grind),Aa,ad1,Ar])
  (λa=>by simp[HD,GR])
 simp_all
theorem WN (b:Block) (h:b.Leaves.length<=1048576):∃v,Ig b=some v/\0<=v/\(v<b.Leaves.length\/v=4):=by
 obtain⟨r,h1,h2⟩:=Bs (body:=λs:Int=>Fd b s) (λ(_:Unit) i=>i) b.Leaves.length (λ_ _=>True) (λr=>r= .inl ()\/∃k:Nat,k<b.Leaves.length/\r= .inr (k:Int))
  (λs i hi _=>by
   simp only[Fd,Hc hi,A0,Ab hi,Aa];cases b.Leaves[i].Is==0
   ·exact .inl ⟨(),by rw[Ae,ad1],trivial⟩
   grind)
  (λs _=>⟨_,by simp[HD,Fd],.inl rfl⟩) (s:=()) trivial
 unfold Ig;rw[h1,Aa]
 rcases h2 with rfl|⟨k,hk,rfl⟩
 ·simp
 simp_all
def RR (f:Flash):Prop:=f.Blocks.length<=1048576/\∀b∈f.Blocks,b.Leaves.length=4
theorem RR.cap (h:RR f):LF f:=⟨h.1,λb hb=>by rw[h.2 b hb];omega⟩
theorem WY {i:Int} (h:RR f) (hb:b.Leaves.length=4):RR (Flash.mk (si f.Blocks i b)):=by
 refine⟨by unfold si;rw[List.length_set];exact h.1,λc hc=>?_⟩
 rcases E0 hc with hc|rfl
 ·exact h.2 c hc
 exact hb
theorem bH (f:Flash) (b l:Int) (t:ByteArray) (h:LF f):∃g v,Ny f b l t=some (g,v)/\ND f b l t=some (g,v)/\(v=false/\g=f\/v=true/\RR g):=by
 unfold Ny ND;rw[Hn,Eq f h];unfold MQ Ss;rw[LA,W7,dJ];obtain⟨ok,h1,h2⟩:=T5 f h;simp only[h1,Aa,On]
 cases ok with
 |false=>simp
 |true=>
  obtain⟨h3,h4⟩:=h2 rfl;have eln:sb (ln f.Blocks) 1=(f.Blocks.length:Int)-1:=by rw[Cs,C0]
  rw[eln]
  cases hb:(decide (0<=b)&&decide (b<=(f.Blocks.length:Int)-1))with
  |false=>simp
  |true=>
   simp at hb;have a:b<(f.Blocks.length:Int):=by omega
   simp only[As,Yv hb.1 a,Aa];have hm:f.Blocks[b.toNat]'(by omega)∈f.Blocks:=AX _;have hL:=h4 _ hm;generalize f.Blocks[b.toNat]'(by omega)=x at hL
   cases x.Bad with
   |true=>simp
   |false=>
    obtain⟨k,h5,h6,h7⟩:=WN x (by omega);simp only[Ht,A9,As,Ae,h5,Aa];by_cases hl:0<=l/\l<=3
    ·have e1:(decide (0<=l)&&decide (l<=3))=true:=by simp[hl]
     have e2:decide (l<4)=true:=by simp;omega
     simp only[e1,e2,As,Ae,A9];by_cases hk:l=k
     ·have e3:(l==k)=true:=by simp[hk]
      have e4:(l !=k)=false:=by simp[hk]
      simp only[e3,e4,As,Ae,Aa]
      cases hs:(decide (1<=GJ t)&&decide (GJ t<=120))with
      |false=>simp
      |true=>
       rw[Yv (l:=x.Leaves) hl.1 (by omega),Aa];refine⟨_,_,rfl,rfl,.inr ⟨rfl,WY ⟨by omega,h4⟩<|by grind [si]⟩⟩
     simp_all;grind
    simp_all;grind
theorem mZ (f:Flash) (b:Int) (h:LF f):∃g v,VH f b=some (g,v)/\Wq f b=some (g,v)/\(v=false/\g=f\/v=true/\RR g):=by
 unfold VH Wq;rw[Hn,Eq f h,Tp,eV];unfold MQ;rw[LA,dJ];obtain⟨ok,h1,h2⟩:=T5 f h;simp only[h1,Aa,On]
 cases ok with
 |false=>simp
 |true=>
  obtain⟨h3,h4⟩:=h2 rfl;have eln:sb (ln f.Blocks) 1=(f.Blocks.length:Int)-1:=by rw[Cs,C0]
  rw[eln]
  cases hb:(decide (0<=b)&&decide (b<=(f.Blocks.length:Int)-1))with
  |false=>simp
  |true=>
   simp at hb;have c:b<(f.Blocks.length:Int):=by omega
   simp only[As,Yv hb.1 c,Aa,A9,Ae]
   cases a:(f.Blocks[b.toNat]'(by omega)).Bad with
   |true=>simp
   |false=>
    simp only[Ht,A9,As,Ae,Aa]
    cases(f.Blocks[b.toNat]'(by omega)).Wear==1000000000 with
    |true=>grind
    |false=>
     simp only[Ae];have d:∀x,gi (si f.Blocks b x) b=some x:=by grind [gi,si]
     simp only[d,Aa,a];refine⟨_,_,rfl,?_,.inr ⟨rfl,WY ⟨by omega,h4⟩<|by simp[WE]⟩⟩
     grind [List.set_set,si]
theorem fS (f:Flash) (s:Step) (h:LF f):∃g v,P9 f s=some (g,v)/\PQ f s=some (g,v)/\(v=false/\g=f\/v=true/\RR g):=by
 unfold P9 PQ
 cases s.Kind==1 with
 |true=>
  obtain⟨g,v,h1,h2,h3⟩:=bH f s.Block s.Leaf s.Text h
  grind
 |false=>
  cases s.Kind==2 with
  |true=>
   obtain⟨g,v,h1,h2,h3⟩:=mZ f s.Block h
   grind
  |false=>simp_all [Hn,Eq]
theorem bM (f:Flash) (l:List Step) (h:LF f) (hl:l.length<=1048576):∃g n,N0 f l=some (g,n)/\NF f l=some (g,n)/\LF g/\0<=n/\n<=l.length:=by
 unfold N0 NF;rw[Hn,Eq f h,Aa,Aa];obtain⟨r,h1,h2,h3⟩:=ML (body:=λs:Int×List Block=>GY l s.1 s.2) (body':=λs:Int×List Block=>Hk l s.1 s.2) (λ(s:List Block) i=>(i,s)) l.length (λ_ s=>LF<|Flash.mk s) (λr=>(∃b,r= .inl b/\LF (Flash.mk b))\/∃(g:Flash) (n:Nat),r= .inr (g,(n:Int))/\LF g/\n<=l.length)
  (λs i hi hs=>by
   obtain⟨g,v,h1,h2,h3⟩:=fS (Flash.mk s) l[i] hs;simp only[GY,Hk,Hc hi,A0,Ab hi,Aa,h1,h2];refine⟨trivial,?_⟩
   rcases h3 with⟨rfl,rfl⟩|⟨rfl,h3⟩
   ·grind
   refine .inl ⟨g.Blocks,?_,h3.cap⟩
   grind [ad1])
  (λs hs=>by simp_all [HD,GY,Hk]) (s:=f.Blocks) h
 rw[h1,h2]
 rcases h3 with⟨b,rfl,h3⟩|⟨g,n,rfl,h3,h4⟩
 ·simp_all [Cs];grind
 grind
def NX (x:Step):Nat:=x.Text.size
theorem d8 (x:Step) (h:XS x):BW NX LZ x:=by
 intro left h0 h1;have hx:x.Text.size<=9223372036854775807:=h.2.2.2;have e:GJ x.Text=(x.Text.size:Int):=rfl;unfold LZ;rw[C0 (by rw[e];omega) (by rw[e];omega),e];unfold NX;by_cases hc:(x.Text.size:Int)<=left
 ·rw[cF];exact⟨_,rfl,by rw[Bw hc]⟩
 rw[cT];exact⟨_,rfl,by rw[Bm hc];omega⟩
theorem Zp (l:List Step) (h:ol XS l):BW (zl NX) Qj l:=
 Kc (Pt NX LZ l h.1 (λx hx=>d8 x<|h.2 x hx) (λ_ _=>rfl) λ_=>rfl)
theorem Zh (l:List Step) (h:zl NX l<=1048576):IU l=some l:=by
 have:=Jg (z:=NX) (l:=l);exact Kq Pa l (by omega) (by omega) (λ_ _=>rfl) (λ_ _=>rfl) rfl
theorem fG (a b:Step):DV (Mm a b) a b:=by
 cases a with
 |mk a1 a2 a3 a4=>
 cases b with
 |mk b1 b2 b3 b4=>
 have:IS (Mm (Step.mk a1 a2 a3 a4)<|Step.mk b1 b2 b3 b4) (a1=b1/\a2=b2/\a3=b3/\a4=b4/\True):=
  CR (by simp) (CR (by simp)<|CR (by simp)<|CR gL Fy)
 simpa only[DV,IS,Step.mk.injEq,NT]using this
theorem aL (a b:List Step) (h:zl NX a<=1048576):DV (Qo a b) a b:=by
 have:=Jg (z:=NX) (l:=a);exact K3 Mm a b (by omega) (λx _ y _=>fG x y) (λ_=>rfl) rfl
theorem YH (r:FO):∃v,KX r=some v/\NC r=some v/\(v=true->(0<=r.Arg/\r.Arg<=1000000000)/\(0<=r.Chunk/\r.Chunk<=1000000000)):=by
 cases r with
 |mk kind vol arg chunk=>
 unfold KX NC;simp only[qT,mH,Aa,jM];refine⟨_,rfl,?_,?_⟩
 ·congr 1
  grind
 by_cases ha:0<=arg/\arg<=1000000000
 ·grind
 grind
noncomputable def nU (k:Int) (x:Step):Step:=Step.mk k (k+1) (k+2) (mt (k+3))
theorem We (l:List Step) (h0:0<=k) (hB:k+(((l.map λ_=>4).sum:Nat):Int)<=1152921504606846976):
  JE l k=some (k+(((l.map λ_=>4).sum:Nat):Int),CL (λ_=>4) nU l k):=by
 have hl:l.length<=1152921504606846976:=by rw[C7]at hB;omega
 refine Jb (λ_=>4) nU (λ_=>True) 1152921504606846976 l rfl (λa x post k h1 _ h2 h3=>?_) (λm k hm=>?_) (λ_ _=>trivial) h0 hB
 ·have e1:ad k 1=k+1:=Cq (by omega) (by omega);have e2:ad (k+1) 1=k+2:=(Cq).trans (by omega);have e3:ad (k+2) 1=k+3:=(Cq).trans (by omega);have e4:ad (k+3) 1=k+4:=(Cq).trans (by omega);simp only[ER,N4,As,L6,KP,Aa,e1,e2,e3,e4];rw[MJ (by omega)<|by omega];simp only[Aa,L6,KP];rw[ad1];rfl
 simp only[ER,N5 m hm,Ae]
theorem Ju {S:Type} {body:S->Option (S⊕List α)} (DR:List α->Int->S) (g:Nat->α->α) (l0:List α) (h1:∀(i:Nat) (l:List α) x,l.length=l0.length->l[i]?=some x->l0[i]?=some x->body (DR l (i:Nat))=some (.inl (DR (l.set i (g i x)) ((i+1:Nat):Int)))) (h2:∀l:List α,l.length=l0.length->body (DR l (l0.length:Nat))=some (.inr l)):Ah body (DR l0 0)=some (l0.mapIdx g):=by
 obtain⟨b,h3,h4⟩:=Bs (body:=body) DR l0.length (λi l=>l.length=l0.length/\∀j,l[j]?=if j<i then(l0[j]?).map (g j)else l0[j]?) (λb=>b=l0.mapIdx g)
  (λl i hi hs=>by
   obtain⟨hl,hs⟩:=hs;have a:l0[i]?=some l0[i]:=Ab hi
   grind)
  (λl hs=>⟨l,h2 l hs.1,by
   apply B7
   grind⟩) (s:=l0) ⟨rfl,λj=>by rfl⟩
 rw[h3,h4]
abbrev Ks:=List Knot
def dk:Knot:=Knot.mk true []
def Bl (K:Ks) (i:Int):Knot:=(gi K i).getD dk
def Km (k:Knot) (j:Nat):Int:=(k.Kids[j]?).getD 0
def LP (K:Ks) (i:Nat) (leaf:Bool) (n:Int):Bool:=bif leaf then decide (0<=n)else(n== -1||(decide (0<=n/\n<=(i:Int)-1)&&(Bl K n).Leaf))
def BL (K:Ks):Bool:=K.zipIdx.all λz=>z.1.Kids.length==4&&z.1.Kids.all (LP K z.2 z.1.Leaf)
def Cp (K:Ks) (r:Int):Bool:=r== -1||(decide (0<=r/\r<(K.length:Int))&&!(Bl K r).Leaf)
def PV (K:Ks) (root:Int) (s:Nat):Int:=if root<0 then 0 else if Km (Bl K root) (s/4)<0 then 0 else Km (Bl K<|Km (Bl K root)<|s/4)<|s %4
def Il (K:Ks) (root:Int):List Int:=(List.range 16).map<|PV K root
variable {K X:Ks}
theorem MM (h:i<K.length):Bl K (i:Int)=K[i]:=by grind [A0,Bl]
theorem EK {i:Int} (h0:0<=i) (h:i<(K.length:Int)):gi K i=some (Bl K i):=by grind [Yv,Bl]
theorem Lp (x a b:Int):B3 x a b=some (decide (a<=x/\x<=b)):=by
 rw[On];simp
theorem Es:BL K=true↔∀i:Nat,i<K.length->(Bl K (i:Int)).Kids.length=4/\∀n∈(Bl K (i:Int)).Kids,LP K i (Bl K (i:Int)).Leaf n=true:=by simp_all [MM,List.mem_zipIdx_iff_getElem?,Ad,BL];grind
theorem IJ (a:Arena) (ha:a.Knots.length<=1048576):G9 a=some (BL a.Knots):=by
 unfold G9;have h:=Yb (body:=λs:Int=>F9 a s) a.Knots (λi k=>k.Kids.length==4&&k.Kids.all (LP a.Knots i k.Leaf)) (.inr false) (.inl ()) (by omega)
  (λi k hk=>by
   have hi:=(Ad.1 hk).1;simp only[F9,Hc hi,A0,hk,Aa];by_cases h4:k.Kids.length=4
   ·have e1:(ln k.Kids !=4)=false:=by simp[ln,h4]
    have e2:(k.Kids.length==4)=true:=by simp[h4]
    simp only[e1,Ae,e2,Bool.true_and];have q:=Yb (body:=λs:Int=>F8 a (i:Int) k s) k.Kids (λ_ n=>LP a.Knots i k.Leaf n) (.inr<|.inr<|.inr false) (.inl ()) (by omega)
     (λj n hn=>by
      have hj:=(Ad.1 hn).1;simp only[F8];rw[cT,A0,hn];simp only[Aa,LP]
      cases hl:k.Leaf with
      |true=>grind [ad1]
      |false=>
       simp only[Ae,Ht,As];by_cases h1:n= -1
       ·grind [ad1]
       grind [C0,Lp,EK,ad1])
     (by grind [F8])
    rw[q];have hz:(k.Kids.zipIdx.all λz=>LP a.Knots i k.Leaf z.1)=k.Kids.all (LP a.Knots i k.Leaf):=by
     rw[show(λz:Int×Nat=>LP a.Knots i k.Leaf z.1)=(LP a.Knots i k.Leaf)∘Prod.fst from rfl,<-List.all_map];simp
    grind [ad1]
   grind [ln])
  (by simp[HD,F9])
 grind [BL]
theorem KR (a:Arena) (ha:a.Knots.length<=1048576) (r:Int):H6 a r=some (Cp a.Knots r):=by grind [Cs,C0,Lp,EK,H6,Cp]
theorem Bn (h:Cp K r=true):r= -1\/(0<=r/\r<(K.length:Int)/\(Bl K r).Leaf=false):=by grind [Cp]
theorem Dl (hK:BL K=true) (h0:0<=r) (h1:r<(K.length:Int)):(Bl K r).Kids.length=4/\∀j,j<4->(Bl K r).Kids[j]?=some (Km (Bl K r) j)/\LP K r.toNat (Bl K r).Leaf (Km (Bl K r) j)=true:=by
 have:=Es.1 hK r.toNat<|by omega
 grind [Km]
theorem D8 (hK:BL K=true) (h0:0<=r) (h1:r<(K.length:Int)) (hl:(Bl K r).Leaf=false) (hj:j<4):Km (Bl K r) j= -1\/(0<=Km (Bl K r) j/\Km (Bl K r) j<r/\(Bl K (Km (Bl K r) j)).Leaf=true):=by grind [Dl,LP]
theorem iP (hK:BL K=true) (h0:0<=r) (h1:r<(K.length:Int)) (hl:(Bl K r).Leaf=true) (hj:j<4):0<=Km (Bl K r) j:=by grind [Dl,LP]
theorem oR {s:Nat} (h:s<16):qu (s:Int) 4=((s/4:Nat):Int):=by grind [T8,qu]
theorem gA {s:Nat}:Int.tmod (s:Int) 4=((s %4:Nat):Int):=by rfl
theorem XA {s:Nat} (a:Arena) (hK:BL a.Knots=true) (hr:Cp a.Knots r=true) (hs:s<16):P5 a r (s:Int)=some (PV a.Knots r s):=by
 unfold P5 PV
 rcases Bn hr with rfl|⟨h0,h1,hl⟩
 ·rfl
 rw[Aq (by omega:¬r<0),Bm (by omega),Ae,EK h0 h1];rw[Aa,oR hs,A0,((Dl hK h0 h1).2 (s/4)<|by omega).1];simp only[Aa]
 rcases D8 hK h0 h1 hl (show s/4<4 by omega)with e|⟨e1,e2,e3⟩
 ·rw[e];rfl
 rw[Aq (by omega),Bm (by omega),Ae,EK e1<|by omega];rw[Aa,gA,A0,((Dl hK e1<|by omega).2 (s %4)<|by omega).1];rfl
theorem HH {by_:Nat} (h:l.length*by_<=140737488355328):ap by_ [] l=some l:=by grind [CC]
def jK (K:Ks):Prop:=K.length<=1048576/\∀k∈K,k.Kids.length<=1048576
theorem IQ (hK:BL K=true) (h:K.length<=1048576):jK K:=by
 refine⟨h,λk hk=>?_⟩
 grind [AM,Es,MM]
theorem P6 (a:Arena) (h:jK a.Knots):IV a=some a:=by
 unfold IV;have h1:=SG (body:=λs:Int×List Knot=>GQ a s.1 s.2) a.Knots (λk=>k)
  (λi k b hk ho=>by
   have hi:=(Ad.1 hk).1;have hm:=h.2 k<|A3 hk;have:=h.1;simp only[GQ,Hc hi,A0,hk,Aa]
   rw[HH (by omega),Aa,CC (by simp;omega),Aa,ad1])
  (λb=>by simp[HD,GQ])
 rw[h1];simp
theorem El (s:Store) (h:jK s.Arena.Knots) (hv:s.Vols.length<=1048576):C9 s=some s:=by
 unfold C9;rw[HH (by omega),P6 _ h];rfl
def LM (K:Ks) (r:Int) (s:Nat) (n:Int):List Int:=(if r<0 then [0,0,0,0]else if Km (Bl K r) (s/4)<0 then [0,0,0,0]else(Bl K<|Km (Bl K r)<|s/4).Kids).set (s %4) n
def Pr (K:Ks) (r:Int) (s:Nat):List Int:=(if r<0 then [-1,-1,-1,-1]else(Bl K r).Kids).set (s/4) (K.length:Int)
def GK (K:Ks) (r:Int) (s:Nat) (n:Int):Ks:=K++ [Knot.mk true<|LM K r s n,Knot.mk false<|Pr K r s]
theorem tF:mk 8 (0:Int) 4=some [0,0,0,0]:=by rfl
theorem Yx {k:Knot} (h:j<k.Kids.length):gi k.Kids (j:Int)=some (Km k j):=by grind [A0,Km]
theorem Sw {s:Nat} (a:Arena) (ha:a.Knots.length<=1048000) (hK:BL a.Knots=true) (hr:Cp a.Knots r=true) (hs:s<16) (hn:0<=n):
  RB a r (s:Int) n=some (Arena.mk (GK a.Knots r s n),(a.Knots.length:Int)+1):=by
 unfold RB;rw[P6 _ (IQ hK<|by omega),IJ a (by omega),KR a (by omega),Lp,hK,hr];rw[Ag (by omega:0<=(s:Int)/\(s:Int)<=15),Aq (by omega:¬n<0)];rw[tF];simp only[Aa];have fin:∀(lf tp:List Int),lf.length=4->tp.length=4->GK a.Knots r s n=a.Knots++ [Knot.mk true<|lf.set (s %4) n,Knot.mk false<|tp.set (s/4) (a.Knots.length:Int)]->
   ((gi lf<|Int.tmod (s:Int) 4).bind λx4=>(gi tp<|qu (s:Int) 4).bind λx5=>(ap 32 a.Knots [Knot.mk true<|si lf (Int.tmod (s:Int) 4) n,Knot.mk false<|si tp (qu (s:Int) 4)<|ln a.Knots]).bind λq4=>some (Arena.mk q4,sb (ln q4) 1))=some (Arena.mk<|GK a.Knots r s n,(a.Knots.length:Int)+1):=by
  intro lf tp h1 h2 h3;rw[oR hs,gA,A0,A0,Ab (by omega),Ab<|by omega];rw[CC (by simp;omega),DL,DL,Cs,<-h3]
  grind [Cs,C0]
 rcases Bn hr with rfl|⟨h0,h1,hl⟩
 ·rw[Aq (by omega:¬(-1:Int)>=0)];exact fin _ _ rfl rfl rfl
 rw[cT,EK h0 h1];have h4:=(Dl hK h0 h1).1;simp only[Aa];rw[HH<|by omega];simp only[Aa];rw[oR hs,Yx (by omega:s/4<(Bl a.Knots r).Kids.length)];simp only[Aa];rw[<-oR hs]
 rcases D8 hK h0 h1 hl (show s/4<4 by omega)with e|⟨e1,e2,e3⟩
 ·grind [GK,LM,Pr]
 grind [EK,Dl,HH,GK,LM,Pr]
def J8 (K:Ks) (r:Int) (i:Nat):Bool:=decide (0<=r)&&(decide (r=(i:Int))||(Bl K r).Kids.any λn=>decide<|n=(i:Int))
theorem Wh (n:Nat) (f:Nat->α) (g:Nat->α->α):((List.range n).map f).mapIdx g=(List.range n).map λi=>g i (f i):=by
 apply B7
 grind
theorem Kv (n:Nat) (f:Nat->α) (i:Nat) (x:α) (g:Nat->α) (h:∀j,j<n->g j=if j=i then x else f j):((List.range n).map f).set i x=(List.range n).map g:=by
 apply B7
 grind
theorem IZ {n:Nat} {f:Nat->α} (h:i<n):((List.range n).map f)[i]?=some (f i):=by grind
theorem Ps {l:List Int} {m:Nat} {x:Int} (h:l[m]?=some x) (p:Int->Bool):(l.take (m+1)).any p=((l.take m).any p||p x):=by grind [EF]
theorem X9 (a:Arena) (ha:a.Knots.length<=1048576) (hK:BL a.Knots=true) (hr:Cp a.Knots r=true):P4 a r=some ((List.range a.Knots.length).map (J8 a.Knots r)):=by
 unfold P4;rw[Cs,SE (by omega)<|by omega];simp only[Aa]
 rcases Bn hr with rfl|⟨h0,h1,hl⟩
 ·simp only[show decide ((-1:Int)<0)=true from rfl,As];congr 1;rw[show(J8 a.Knots<|-1)=λ_=>false from rfl,LU,GN]
 rw[cF];obtain⟨m,rfl⟩:∃m:Nat,r=(m:Int):=⟨r.toNat,by omega⟩;rw[A0,List.getElem?_replicate,Bw<|by omega];rw[DL];obtain⟨h4,hk⟩:=Dl hK h0 h1;obtain⟨b,q1,q2⟩:=Bs (body:=λs:List Bool×Int=>Ic a (m:Int) s.1 s.2) (λ(o:List Bool) i=>(o,i)) 4
  (λi o=>o=(List.range a.Knots.length).map λ(j:Nat)=>decide ((m:Int)=(j:Int))||((Bl a.Knots (m:Int)).Kids.take i).any λn=>decide<|n=(j:Int))
  (λb=>b=(List.range a.Knots.length).map (J8 a.Knots (m:Int)))
  (λo i hi ho=>by
   obtain⟨e,_⟩:=hk i hi;simp only[Ic];rw[cT,EK h0 h1];simp only[Aa];rw[A0,e];simp only[Aa]
   rcases D8 hK h0 h1 hl hi with e1|⟨e1,e2,e3⟩
   ·grind [ad1,Ps]
   obtain⟨c,hc⟩:∃c:Nat,Km (Bl a.Knots (m:Int)) i=(c:Int):=⟨(Km (Bl a.Knots (m:Int)) i).toNat,by omega⟩;rw[hc,cT];rw[ho,A0,IZ<|by omega];rw[DL,ad1]
   simp_all [Kv,Ps];grind)
  (λo ho=>⟨_,by simp only[Ic];rw[cF],by
   rw[ho];apply Fv;intro j hj;rw[AY<|by omega]
   rfl⟩) (s:=(List.replicate a.Knots.length false).set m true) (by grind [GN,LU,Kv])
 grind
def BH (K:Ks) (R:List Int) (i:Nat):Bool:=R.any λr=>J8 K r i
def WV (K:Ks) (R:List Int) (i:Nat):Nat:=((List.range i).filter<|BH K R).length
def LO (K:Ks) (R:List Int) (n:Int):Int:=if 0<=n then(WV K R n.toNat:Int)else n
def Sl (K:Ks) (R:List Int) (i:Nat):Knot:=Knot.mk (Bl K (i:Int)).Leaf<|bif(Bl K (i:Int)).Leaf then(Bl K (i:Int)).Kids else(Bl K (i:Int)).Kids.map<|LO K R
def Pu (K:Ks) (R:List Int):Ks:=((List.range K.length).filter<|BH K R).map<|Sl K R
theorem FD (l:List α) (f:α->α):l.mapIdx (λ_ x=>f x)=l.map f:=by
 apply B7
 grind
theorem Kp (hr:r∈R) (h0:0<=r):BH K R r.toNat=true:=by grind [BH,J8]
theorem Se (hK:BL K=true) (hR:∀r∈R,Cp K r=true) (hu:BH K R i=true) (hl:(Bl K (i:Int)).Leaf=false):(i:Int)∈R:=by
 unfold BH at hu;rw[DX]at hu;obtain⟨r,hr,h⟩:=hu;unfold J8 at h;simp only[Af,G5,B5,DX]at h;obtain⟨h0,h⟩:=h
 rcases h with h|⟨n,hn,h⟩
 ·grind
 rcases Bn (hR r hr)with e|⟨_,h1,a⟩
 ·omega
 obtain⟨h4,hk⟩:=Dl hK h0 h1;obtain⟨j,hj,b⟩:=AM hn;have e:=(hk j<|by omega).1
 grind [D8]
theorem Po (hr:r∈R) (h0:0<=r) (hn:n∈(Bl K r).Kids) (h1:0<=n):BH K R n.toNat=true:=by grind [BH,J8]
theorem nK (i:Nat):WV K R i<=i:=by
 have:=List.length_filter_le (BH K R)<|List.range i;rw[GN]at this;exact this
theorem TP (a:Arena) (ha:a.Knots.length<=1048576) (R:List Int) (hc:R.length<=1048576) (hR:∀r∈R,Cp a.Knots r=true):Ah (λs:Bool×Int=>Dx a R s.1 s.2) (true,0)=some true:=by
 obtain⟨b,h1,h2⟩:=Bs (body:=λs:Bool×Int=>Dx a R s.1 s.2) (λ(o:Bool) i=>(o,i)) R.length (λ_ o=>o=true) (λb=>b=true)
  (λo i hi ho=>by
   have hx:=Ab hi;simp only[Dx,Hb,Ag hi,As,Aa,ho,A0,hx];rw[KR a ha,hR _<|AX hi,Aa,ad1]
   grind)
  (λo ho=>⟨o,by grind [Hb,Dx],ho⟩) (s:=true) rfl
 grind
theorem VK (a:Arena) (ha:a.Knots.length<=1048576) (hK:BL a.Knots=true) (R:List Int) (hc:R.length<=1048576) (hR:∀r∈R,Cp a.Knots r=true):
  Ah (λs:List Bool×Int=>Dw a R s.1 s.2) (List.replicate a.Knots.length false,0)=some ((List.range a.Knots.length).map (BH a.Knots R)):=by
 obtain⟨b,h1,h2⟩:=Bs (body:=λs:List Bool×Int=>Dw a R s.1 s.2) (λ(o:List Bool) i=>(o,i)) R.length (λi o=>o=(List.range a.Knots.length).map λ(j:Nat)=>(R.take i).any λr=>J8 a.Knots r j) (λb=>b=(List.range a.Knots.length).map (BH a.Knots R))
  (λo i hi ho=>by
   have hx:=Ab hi;simp only[Dw,Hc hi,Aa,A0,hx];rw[X9 a ha hK<|hR _<|AX hi];simp only[Aa];have q:=Ju (body:=λs:List Bool×Int=>Ew ((List.range a.Knots.length).map<|J8 a.Knots R[i]) s.1 s.2) (λl i=>(l,i)) (λk x=>x||J8 a.Knots R[i] k) o
    (λk l x hl c d=>by grind [Hb,A0,DL,ad1,Ew])
    (λl hl=>by grind [Hb,Ew])
   rw[q,Aa,ad1,ho,Wh]
   grind [EF])
  (λo ho=>⟨o,by simp[HD,Dw],by rw[ho,AY<|by omega];rfl⟩) (s:=List.replicate a.Knots.length false) (by grind [LU,GN])
 grind
def OV (K:Ks) (R:List Int) (i:Nat):List Int:=(List.range K.length).map λ(j:Nat)=>if j<i/\BH K R j=true then(WV K R j:Int)else 0
theorem TQ (a:Arena) (ha:a.Knots.length<=1048576) (hK:BL a.Knots=true) (R:List Int) (hR:∀r∈R,Cp a.Knots r=true):
  Ah (λs:List Int×Int×List Knot=>Dv a ((List.range a.Knots.length).map (BH a.Knots R)) s.1 s.2.1 s.2.2) (List.replicate a.Knots.length 0,0,[])=some (OV a.Knots R a.Knots.length,Pu a.Knots R):=by
 obtain⟨b,h1,h2⟩:=Bs (body:=λs:List Int×Int×List Knot=>Dv a ((List.range a.Knots.length).map<|BH a.Knots R) s.1 s.2.1 s.2.2) (λ(o:List Int×List Knot) i=>(o.1,i,o.2)) a.Knots.length
  (λi o=>o=(OV a.Knots R i,((List.range i).filter<|BH a.Knots R).map<|Sl a.Knots R)) (λb=>b=(OV a.Knots R a.Knots.length,Pu a.Knots R))
  (λo i hi ho=>by
   subst ho;simp only[Dv,Hc hi];rw[A0,IZ hi];simp only[Aa]
   cases hu:BH a.Knots R i with
   |false=>grind [ad1,Gz,OV]
   |true=>
    simp only[A9,Ae];have h0:(0:Int)<=(i:Int):=by omega
    have d:(i:Int)<(a.Knots.length:Int):=by omega
    rw[EK h0 d];obtain⟨h4,hk⟩:=Dl hK h0 d;simp only[Aa];rw[HH<|by omega];simp only[Aa];have inner:Ah (λs:Int×List Int=>Du (OV a.Knots R i) ((Bl a.Knots (i:Int)).Leaf,(Bl a.Knots (i:Int)).Kids) s.1 s.2) (0,(Bl a.Knots (i:Int)).Kids)=some (Sl a.Knots R i).Kids:=by
     unfold Sl
     cases hl:(Bl a.Knots (i:Int)).Leaf with
     |true=>rw[A5];rfl
     |false=>
      have q:=Ju (body:=λs:Int×List Int=>Du (OV a.Knots R i) (false,(Bl a.Knots (i:Int)).Kids) s.1 s.2) (λl k=>(k,l)) (λ_ x=>LO a.Knots R x) (Bl a.Knots (i:Int)).Kids
       (λk l x g h j=>by
        have m:k<4:=by grind
        have ex:x=Km (Bl a.Knots (i:Int)) k:=by grind
        simp only[Du];rw[Ag (by omega:(k:Int)<4)];simp only[As,Aa,Ht];rw[A0,h];simp only[Aa]
        rcases D8 hK h0 d hl m with e|⟨e1,e2,e3⟩
        ·rw[cF,ad1];have:LO a.Knots R x=x:=by unfold LO;omega
         rw[this,show l.set k x=l from by
          apply B7
          grind]
        rw[cT];obtain⟨c,hc⟩:∃c:Nat,x=(c:Int):=⟨x.toNat,by omega⟩;have n:x∈(Bl a.Knots (i:Int)).Kids:=A3 j;have f:=Po (Se hK hR hu hl) h0 n (by omega);rw[hc]at f;rw[hc,A0];unfold OV;rw[IZ (by omega),Aa,Bw ⟨by omega,f⟩,DL,ad1]
        rfl)
       (λl g=>by grind [Du])
      grind [FD]
    rw[inner];simp only[Aa];have p:gi (OV a.Knots R i) (i:Int)=some 0:=by grind [A0,OV]
    rw[p];simp only[Aa];have u:=nK (K:=a.Knots) (R:=R) i;have t:(((List.range i).filter<|BH a.Knots R).map<|Sl a.Knots R).length=WV a.Knots R i:=by rw[BM];rfl
    rw[CC (by grind),Aa,ad1,Cs,t,DL];refine .inl ⟨(_,_),rfl,?_⟩;congr 1
    ·grind [Kv,OV]
    rw[Gz,Co,Jf hu,List.filter_nil,LV]
    rfl)
  (λo ho=>⟨o,by simp[HD,Dv],ho⟩) (s:=(List.replicate a.Knots.length 0,[])) (by grind [LU,GN,OV])
 grind
theorem ZE (a:Arena) (ha:a.Knots.length<=1048576) (R:List Int) (hc:R.length<=1048576) (hR:∀r∈R,Cp a.Knots r=true):
  Ah (λs:List Int×Int=>Dt (OV a.Knots R a.Knots.length,Pu a.Knots R) s.1 s.2) (R,0)=some (R.map (LO a.Knots R)):=by
 have q:=Ju (body:=λs:List Int×Int=>Dt (OV a.Knots R a.Knots.length,Pu a.Knots R) s.1 s.2) (λl k=>(l,k)) (λ_ x=>LO a.Knots R x) R
  (λk l x h b d=>by
   have i:=(Ad.1 b).1;simp only[Dt,Hc i,A0,b,Aa]
   rcases Bn (hR x<|A3 d)with e|⟨e1,e2,e3⟩
   ·rw[cF,ad1];have:LO a.Knots R x=x:=by unfold LO;omega
    rw[this,show l.set k x=l from by
     apply B7
     grind]
   rw[cT];obtain⟨c,f⟩:∃c:Nat,x=(c:Int):=⟨x.toNat,by omega⟩;have g:=Kp (K:=a.Knots) (A3 d) e1;rw[f]at g;rw[f,A0];unfold OV;rw[IZ (by omega),Aa,Bw ⟨by omega,g⟩,DL,ad1]
   rfl)
  (λl h=>by grind [Cs,Dt])
 grind [FD]
theorem Sv (a:Arena) (ha:a.Knots.length<=1048576) (hK:BL a.Knots=true) (R:List Int) (hc:R.length<=1048576) (hR:∀r∈R,Cp a.Knots r=true):
  GS a R=some (Arena.mk (Pu a.Knots R),R.map (LO a.Knots R)):=by
 unfold GS;rw[HH (by omega),IJ a ha,hK];simp only[Aa];rw[TP a ha R hc hR];rw[Cs,SE (by omega)<|by omega];simp only[Aa];rw[VK a ha hK R hc hR];rw[SE (by omega)<|by omega];simp_all [TQ,ZE]
theorem SZ (p:Nat->Bool) (hp:p i=true):∀{n:Nat},i<n->((List.range n).filter p)[((List.range i).filter p).length]?=some i
 |0,h=>by omega
 |n+1,h=>by
  rw[Gz,Co];by_cases e:i=n
  ·grind
  have h2:=SZ p hp<|show i<n by omega
  grind
theorem jA {n:Nat} (p:Nat->Bool) (hp:p i=true) (h:i<n):((List.range i).filter p).length<((List.range n).filter p).length:=(Ad.1<|SZ p hp h).1
theorem Y0 (p:Nat->Bool):∀{n j:Nat},j<((List.range n).filter p).length->∃i,i<n/\p i=true/\((List.range i).filter p).length=j
 |0,j,h=>by simp at h
 |n+1,j,h=>by
  rw[Gz,Co,AG]at h;by_cases e:j<((List.range n).filter p).length
  ·obtain⟨i,h1,h2,h3⟩:=Y0 p e
   grind
  grind
theorem bY:(Pu K R).length=WV K R K.length:=by unfold Pu WV;rw[BM]
theorem Ns (hu:BH K R i=true) (hi:i<K.length):Bl (Pu K R) (WV K R i:Nat)=Sl K R i/\WV K R i<(Pu K R).length:=by grind [A0,SZ,WV,Pu,Bl]
theorem gD (hj:j<(Pu K R).length):∃i,i<K.length/\BH K R i=true/\WV K R i=j:=by
 rw[bY]at hj;exact Y0 (BH K R) hj
theorem qE (hu:BH K R i=true) (h:i<j):WV K R i<WV K R j:=jA _ hu h
theorem Sk (i:Nat):(Sl K R i).Leaf=(Bl K (i:Int)).Leaf:=rfl
theorem bW (hK:BL K=true) (hi:i<K.length):(Sl K R i).Kids.length=4:=by grind [Es,Sl]
theorem bX (hl:(Bl K (i:Int)).Leaf=false) (hj:j<(Bl K (i:Int)).Kids.length):Km (Sl K R i) j=LO K R (Km (Bl K (i:Int)) j):=by
 unfold Km Sl
 grind
theorem Oh (hl:(Bl K (i:Int)).Leaf=true):(Sl K R i).Kids=(Bl K (i:Int)).Kids:=by grind [Sl]
theorem RC (h:n<0):LO K R n=n:=by unfold LO;omega
theorem N2 (n:Nat):LO K R (n:Int)=(WV K R n:Int):=by rfl
theorem oF (hK:BL K=true) (hR:∀r∈R,Cp K r=true):BL (Pu K R)=true:=by
 rw[Es];intro j hj;obtain⟨i,hi,hu,rfl⟩:=gD hj;rw[(Ns hu hi).1];refine⟨bW hK hi,λn hn=>?_⟩;have h0:(0:Int)<=(i:Int):=by omega
 have h1:(i:Int)<(K.length:Int):=by omega
 obtain⟨h4,hk⟩:=Dl hK h0 h1;rw[Sk]
 cases hl:(Bl K (i:Int)).Leaf with
 |true=>grind [Oh,Es,LP]
 |false=>
  obtain⟨m,hm,b⟩:=AM hn;rw[bW hK hi]at hm;have e:n=LO K R (Km (Bl K (i:Int)) m):=by
   rw[<-bX hl (by omega),<-b]
   grind [Km]
  rcases D8 hK h0 h1 hl hm with k1|⟨k1,k2,k3⟩
  ·rw[k1,RC<|by omega]at e;subst e;rfl
  obtain⟨c,hc⟩:∃c:Nat,Km (Bl K (i:Int)) m=(c:Int):=⟨_,(CP k1).symm⟩;rw[hc]at e k2 k3;rw[N2]at e;have a:=Po (Se hK hR hu hl) h0 (A3 (hk m hm).1) (by omega);rw[hc]at a;have d:c<K.length:=by omega
  have f:WV K R c<WV K R i:=qE (by simpa using a)<|by omega
  grind [Ns,Sk,LP]
theorem gV (hR:∀r∈R,Cp K r=true) (hr:r∈R):Cp (Pu K R) (LO K R r)=true:=by
 rcases Bn (hR r hr)with e|⟨h0,h1,hl⟩
 ·rw[e,RC<|by omega];rfl
 obtain⟨c,rfl⟩:∃c:Nat,r=(c:Int):=⟨_,(CP h0).symm⟩
 grind [Kp,Cx,Ns,N2,Sk,Cp]
theorem cI (hK:BL K=true) (hR:∀r∈R,Cp K r=true) (hr:r∈R):Il (Pu K R) (LO K R r)=Il K r:=by
 unfold Il;apply Fv;intro s hs;rw[List.mem_range]at hs;unfold PV
 rcases Bn (hR r hr)with e|⟨h0,h1,hl⟩
 ·grind [RC]
 obtain⟨c,rfl⟩:∃c:Nat,r=(c:Int):=⟨_,(CP h0).symm⟩;have a:=Kp (K:=K) hr h0;rw[Cx]at a;obtain⟨g1,g2⟩:=Ns a (by omega);obtain⟨h4,hk⟩:=Dl hK h0 h1;rw[N2,g1,bX hl<|by omega];simp only[Bm (show¬((WV K R c:Nat):Int)<0 by omega),Bm<|show¬((c:Nat):Int)<0 by omega]
 rcases D8 hK h0 h1 hl (show s/4<4 by omega)with k1|⟨k1,k2,k3⟩
 ·grind [RC]
 obtain⟨d,hd⟩:∃d:Nat,Km (Bl K (c:Int)) (s/4)=(d:Int):=⟨_,(CP k1).symm⟩;have b:=Po hr h0 (A3 (hk (s/4)<|by omega).1) k1
 grind [N2,Ns,Oh,Km]
theorem kI (hK:BL K=true) (hR:∀r∈R,Cp K r=true) (hj:j<(Pu K R).length):BH (Pu K R) (R.map (LO K R)) j=true:=by
 obtain⟨i,hi,hu,rfl⟩:=gD hj;have hu':=hu;unfold BH at hu';rw[DX]at hu';obtain⟨r,hr,h⟩:=hu';unfold J8 at h;simp only[Af,G5,B5,DX]at h;obtain⟨h0,h⟩:=h;unfold BH;rw[DX];refine⟨LO K R r,AE.2 ⟨r,hr,rfl⟩,?_⟩;obtain⟨c,rfl⟩:∃c:Nat,r=(c:Int):=⟨_,(CP h0).symm⟩;rw[N2];unfold J8;simp only[Af,G5,B5,DX];refine⟨by omega,?_⟩
 rcases h with h|⟨n,hn,h⟩
 ·grind
 right
 rcases Bn (hR _ hr)with e|⟨_,h1,hl⟩
 ·omega
 grind [Kp,Cx,Ns,N2,Sl]
theorem MN {i:Int} (h0:0<=i) (h:i<(K.length:Int)):Bl (K++X) i=Bl K i:=by
 obtain⟨c,rfl⟩:∃c:Nat,i=(c:Int):=⟨_,(CP h0).symm⟩
 grind [A0,Bl]
theorem gR (h:Cp K r=true):Cp (K++X) r=true:=by grind [MN,Cp]
theorem cC (hK:BL K=true) (h:Cp K r=true):Il (K++X) r=Il K r:=by grind [Fv,Bn,MN,D8,Il,PV]
theorem Vd {s:Nat} (hK:BL K=true) (hr:Cp K r=true) (hs:s<16) (n:Int):(LM K r s n).length=4:=by grind [Bn,D8,Dl,LM]
theorem Xv (hK:BL K=true) (hr:Cp K r=true) (s:Nat):(Pr K r s).length=4:=by grind [Bn,Dl,Pr]
theorem Q7 {s:Nat}:Bl (GK K r s n) (K.length:Int)=Knot.mk true (LM K r s n):=by grind [A0,Bl,GK]
theorem Q6 {s:Nat}:Bl (GK K r s n) ((K.length:Int)+1)=Knot.mk false (Pr K r s):=by
 unfold Bl GK;rw[show(K.length:Int)+1=((K.length+1:Nat):Int)from rfl,A0,Bj (by omega),show K.length+1-K.length=1 by omega];rfl
theorem oT {s:Nat} (hK:BL K=true) (hr:Cp K r=true) (hs:s<16) (hn:0<=n):BL (GK K r s n)=true:=by
 rw[Es];intro j hj;have a:(GK K r s n).length=K.length+2:=by unfold GK;simp
 rw[a]at hj;by_cases h:j<K.length
 ·grind [MN,Es,GK,LP]
 by_cases e:j=K.length
 ·subst e;rw[Q7];refine⟨Vd hK hr hs n,λm hm=>?_⟩;simp only[LP,As,B5]
  rcases E0 hm with hm|hm
  ·rcases Bn hr with e|⟨h0,h1,hl⟩
   ·grind
   rw[Bm<|by omega]at hm
   rcases D8 hK h0 h1 hl (show s/4<4 by omega)with k1|⟨k1,k2,k3⟩
   ·grind
   rw[Bm<|by omega]at hm;have hq:=Es.1 hK (Km (Bl K r)<|s/4).toNat<|by omega
   grind [LP]
  omega
 have:j=K.length+1:=by omega
 subst this;rw[show((K.length+1:Nat):Int)=(K.length:Int)+1 from rfl,Q6];refine⟨Xv hK hr s,λm hm=>?_⟩;simp only[LP,Ae,G5,mR,Af,B5]
 rcases E0 hm with hm|hm
 ·rcases Bn hr with e|⟨h0,h1,hl⟩
  ·grind
  rw[Bm<|by omega]at hm;obtain⟨q,hq,rfl⟩:=AM hm;obtain⟨h4,hk⟩:=Dl hK h0 h1;have e5:=(hk q<|by omega).1
  grind [D8,MN,GK]
 grind [Q7]
theorem eM {s:Nat}:Cp (GK K r s n) ((K.length:Int)+1)=true:=by grind [Q6,Cp,GK]
theorem cO {s:Nat} (hK:BL K=true) (hr:Cp K r=true) (hs:s<16):Il (GK K r s n) ((K.length:Int)+1)=(Il K r).set s n:=by
 unfold Il;symm;apply Kv;intro t ht;unfold PV;rw[Q6];simp only[Bm<|show¬((K.length:Int)+1)<0 by omega];have a:=Xv hK hr s;have b:=Vd hK hr hs n;by_cases hq:t/4=s/4
 ·have e1:Km (Knot.mk false<|Pr K r s) (t/4)=(K.length:Int):=by grind [Km,Pr]
  rw[e1,Bm (by omega),Q7];have e2:Km (Knot.mk true<|LM K r s n) (t %4)=if t %4=s %4 then n else(if r<0 then 0 else if Km (Bl K r) (s/4)<0 then 0 else Km (Bl K<|Km (Bl K r)<|s/4)<|t %4):=by grind [Km,LM]
  grind
 rw[Bm<|show¬t=s by omega];have e1:Km (Knot.mk false<|Pr K r s) (t/4)=if r<0 then-1 else Km (Bl K r) (t/4):=by grind [Km,Pr]
 rw[e1]
 grind [Bn,D8,MN,GK]
def I1 (n:Nat) (p:Nat->Bool):Nat:=((List.range n).filter p).length
theorem NI (n:Nat) (p:Nat->Bool):I1 (n+1) p=I1 n p+(if p n=true then 1 else 0):=by grind [Gz,I1]
theorem RL (p q:Nat->Bool):∀n,I1 n (λj=>p j||q j)<=I1 n p+I1 n q
 |0=>by simp[I1]
 |n+1=>by
  have:=RL p q n
  grind [NI]
theorem Tf (x:Int):∀n,I1 n (λj=>decide (x=(j:Int)))<=1/\(x>=(n:Int)->I1 n (λj=>decide (x=(j:Int)))=0)
 |0=>by simp[I1]
 |n+1=>by
  obtain⟨h1,h2⟩:=Tf x n
  grind [NI]
theorem jG (l:List Int) (n:Nat):I1 n (λj=>l.any λx=>decide (x=(j:Int)))<=l.length:=by
 induction l with
 |nil=>simp[I1]
 |cons x l ih=>
  simp only[List.any_cons,Bk];have:=RL (λj=>decide<|x=(j:Int)) (λj=>l.any λx=>decide<|x=(j:Int)) n;have:=(Tf x n).1;omega
theorem mO {n:Nat} {q:Nat->Bool} (h:∀j,j<n->p j=true->q j=true):I1 n p<=I1 n q:=by
 induction n with
 |zero=>simp[I1]
 |succ n ih=>grind [NI]
theorem Y8 {n:Nat} (h:∀j,j<n->p j=true):I1 n p=n:=by
 induction n with
 |zero=>rfl
 |succ n ih=>grind [NI]
theorem mJ (hK:BL K=true) (hr:Cp K r=true) (n:Nat):I1 n (J8 K r)<=5:=by
 have h1:=RL (λj=>decide<|r=(j:Int)) (λj=>(Bl K r).Kids.any λn=>decide<|n=(j:Int)) n;have h2:=(Tf r n).1;have h3:=jG (Bl K r).Kids n
 have h4:I1 n (J8 K r)<=I1 n (λj=>decide (r=(j:Int))||(Bl K r).Kids.any λn=>decide<|n=(j:Int)):=mO λj _ h=>by grind [J8]
 rcases Bn hr with e|⟨h0,hl,_⟩
 ·have:I1 n (J8 K r)=I1 n (λ_=>false):=by rw[e];rfl
  simp_all;grind
 grind [Dl]
theorem Sf (hK:BL K=true) (n:Nat):∀(R:List Int),(∀r∈R,Cp K r=true)->I1 n (BH K R)<=5*R.length
 |[],_=>by simp[I1,BH]
 |r::R,h=>by
  have h1:=Sf hK n R (λx hx=>h x<|by simp[hx]);have h2:=mJ hK (h r<|by simp) n;have h3:=RL (J8 K r) (BH K R) n;have h4:I1 n (BH K (r::R))=I1 n (λj=>J8 K r j||BH K R j):=rfl
  grind
theorem eB (hK:BL K=true) (hR:∀r∈R,Cp K r=true):(Pu K R).length<=5*R.length:=by
 rw[bY];exact Sf hK _ R hR
def AR (s:Store):List Int:=s.Vols.map Vol.Root
structure StoreR (s:Store):Prop where
 len:s.Vols.length<=3
 ar:BL s.Arena.Knots=true
 nx:1<=s.Next/\s.Next<=1000000000
 ids:∀v∈s.Vols,1<=v.Id/\v.Id<=9
 asc:(s.Vols.map Vol.Id).Pairwise (·<·)
 root:∀r∈AR s,Cp s.Arena.Knots r=true
 lt:∀r∈AR s,∀x∈Il s.Arena.Knots r,x<s.Next
 few:s.Arena.Knots.length<=1000
structure Cu (s:Store):Prop extends StoreR s where
 used:∀i,i<s.Arena.Knots.length->BH s.Arena.Knots (AR s) i=true
theorem Cu.small (h:Cu s):s.Arena.Knots.length<=15:=by
 have h1:=Sf h.ar s.Arena.Knots.length (AR s) h.root;rw[Y8 h.used]at h1;have:(AR s).length=s.Vols.length:=by unfold AR;rw[BM]
 have:=h.len;omega
def DB (s:Store):List (Int×List Int):=s.Vols.map λv=>(v.Id,Il s.Arena.Knots v.Root)
def H0 (s:Store):Store:=Store.mk (s.Vols.map λv=>Vol.mk v.Id<|LO s.Arena.Knots (AR s) v.Root) (Arena.mk<|Pu s.Arena.Knots<|AR s) s.Next
theorem Lc (s:Store):AR (H0 s)=(AR s).map (LO s.Arena.Knots (AR s)):=by simp[AR,H0]
theorem bV (h:StoreR s):Cu (H0 s):=by
 have b:(AR s).length=s.Vols.length:=by unfold AR;rw[BM]
 refine⟨⟨by unfold H0;simpa using h.len,oF h.ar h.root,h.nx,?_,?_,?_,?_,?_⟩,?_⟩
 ·intro v hv;unfold H0 at hv;simp only[AE]at hv;obtain⟨w,hw,rfl⟩:=hv;exact h.ids w hw
 ·have:((H0 s).Vols.map Vol.Id)=s.Vols.map Vol.Id:=by unfold H0;simp
  rw[this];exact h.asc
 ·intro r hr;rw[Lc]at hr;obtain⟨q,hq,rfl⟩:=AE.1 hr;exact gV h.root hq
 ·intro r hr;rw[Lc]at hr;obtain⟨q,hq,rfl⟩:=AE.1 hr;have:=cI h.ar h.root hq;intro x hx;have a:x∈Il s.Arena.Knots q:=by rw[<-this];exact hx
  exact h.lt q hq x a
 ·have:=eB h.ar h.root;have:=h.len;show(Pu s.Arena.Knots<|AR s).length<=1000;omega
 intro i hi;rw[Lc];exact kI h.ar h.root hi
theorem Uy (h:StoreR s):DB (H0 s)=DB s:=by
 unfold DB;show(s.Vols.map λv=>Vol.mk v.Id<|LO s.Arena.Knots (AR s) v.Root).map _=_;rw[HM];apply Fv;intro v hv;have:=cI h.ar h.root<|show v.Root∈AR s from AE.2 ⟨v,hv,rfl⟩;show(v.Id,Il (Pu s.Arena.Knots<|AR s)<|LO s.Arena.Knots (AR s) v.Root)=_;rw[this]
theorem Oj (s:Store) (hv:s.Vols.length<=1048576):Jn s=some (AR s):=by
 unfold Jn;obtain⟨b,h1,h2⟩:=Bs (body:=λq:List Int×Int=>Gc s q.1 q.2) (λ(o:List Int) i=>(o,i)) s.Vols.length (λi o=>o=(s.Vols.take i).map Vol.Root) (λb=>b=AR s)
  (λo i hi ho=>by
   have hx:=Ab hi;simp only[Gc,Hc hi,A0,hx,Aa]
   grind [CC,ad1,EF])
  (λo ho=>⟨o,by simp[HD,Gc],by rw[ho,AY<|A8 _];rfl⟩) (s:=[]) rfl
 grind
theorem HQ (h:StoreR s):Ek s=some (H0 s):=by
 have hl:=h.len;have hf:=h.few;have c:(AR s).length=s.Vols.length:=by unfold AR;rw[BM]
 unfold Ek;rw[Oj s<|by omega];simp only[Aa];rw[Sv _ (by omega) h.ar _ (by omega) h.root];rw[HH<|by omega];simp only[Aa];have q:=Ju (body:=λq:Int×List Vol=>Gb ((AR s).map<|LO s.Arena.Knots<|AR s,Pu s.Arena.Knots<|AR s) q.1 q.2) (λl i=>(i,l)) (λ_ v=>Vol.mk v.Id<|LO s.Arena.Knots (AR s) v.Root) s.Vols
  (λi l x a b d=>by
   have hi:=(Ad.1 b).1;simp only[Gb,Hc hi]
   grind [A0,DL,ad1,AR])
  (λl a=>by grind [Cs,Gb])
 rw[FD]at q;rw[q];rfl
theorem Sj (h:Cu s):H0 s=s:=by
 have d:∀i,i<=s.Arena.Knots.length->WV s.Arena.Knots (AR s) i=i:=λi hi=>Y8 λj hj=>h.used j<|by omega
 have b:∀n:Int,n<(s.Arena.Knots.length:Int)->LO s.Arena.Knots (AR s) n=n:=λn hn=>by
  unfold LO
  grind
 have a:∀r∈AR s,LO s.Arena.Knots (AR s) r=r:=λr hr=>by
  rcases Bn (h.root r hr)with e|⟨h0,h1,_⟩
  ·grind
  exact b r h1
 have c:Pu s.Arena.Knots (AR s)=s.Arena.Knots:=by
  unfold Pu;rw[List.filter_eq_self.2 λi hi=>h.used i<|by simpa using hi];apply B7;intro i;rw[OW];by_cases hi:i<s.Arena.Knots.length
  ·rw[List.getElem?_range hi,Ab hi];simp only[LS];congr 1;have h0:(0:Int)<=(i:Int):=by omega
   have h1:(i:Int)<(s.Arena.Knots.length:Int):=by omega
   unfold Sl
   cases hl:(Bl s.Arena.Knots (i:Int)).Leaf with
   |true=>
    simp only[As];rw[<-hl,MM hi]
   |false=>
    simp only[Ae];have:(Bl s.Arena.Knots (i:Int)).Kids.map (LO s.Arena.Knots<|AR s)=(Bl s.Arena.Knots (i:Int)).Kids:=by
     conv=>rhs;rw[<-List.map_id (Bl s.Arena.Knots (i:Int)).Kids]
     apply Fv;intro n hn;obtain⟨q,hq,rfl⟩:=AM hn;obtain⟨h4,hk⟩:=Dl h.ar h0 h1;have e5:=(hk q<|by omega).1;rw[Ab hq]at e5
     injection e5 with e5
     rw[e5]
     rcases D8 h.ar h0 h1 hl (show q<4 by omega)with k1|⟨k1,k2,k3⟩
     ·grind
     grind
    rw[this,<-hl,MM hi]
  grind
 unfold H0;rw[c];have:(s.Vols.map λv=>Vol.mk v.Id<|LO s.Arena.Knots (AR s) v.Root)=s.Vols:=by
  conv=>rhs;rw[<-List.map_id s.Vols]
  apply Fv;intro v hv;rw[a _<|AE.2 ⟨v,hv,rfl⟩];rfl
 rw[this]
theorem jH {s:Nat} (hs:s<16):PV K r s∈Il K r:=AE.2 ⟨s,by simpa using hs,rfl⟩
theorem MF {l:List Int} {x y:Int} (h:l.Pairwise (·<·)) (a:i<j) (hx:l[i]?=some x) (hy:l[j]?=some y):x<y:=by grind [List.pairwise_iff_getElem]
theorem QZ (h:Cu s):Nw s=some true:=by
 have hl:=h.len;have hf:=h.few;have d:(AR s).length=s.Vols.length:=by unfold AR;rw[BM]
 unfold Nw;rw[Cs,cF,IJ _ (by omega),h.ar,Lp,Ag h.nx];obtain⟨b,h1,h2⟩:=Bs (body:=λq:Int=>GU s q) (λ(_:Unit) i=>i) s.Vols.length (λ_ _=>True) (λb=>b= .inl ())
  (λ_ i hi _=>by
   have hx:=Ab hi;have hm:s.Vols[i]∈s.Vols:=AX hi;have hr:s.Vols[i].Root∈AR s:=AE.2 ⟨_,hm,rfl⟩;simp only[GU,Hc hi,A0,hx,Aa];rw[Lp,Ag<|h.ids _ hm,KR _ (by omega),h.root _ hr];simp only[Aa,A9,Ae];have a:(cond (decide<|(i:Int)>0) ((gi s.Vols<|sb (i:Int) 1).bind λx2=>cond (decide<|x2.Id>=s.Vols[i].Id) (some true)<|some false) (some false):Option Bool)=some false:=by
    by_cases h0:i=0
    ·rw[cF]
    rw[cT,C0,show(i:Int)-1=((i-1:Nat):Int) by omega,A0,Ab<|by omega];simp only[Aa];have:=MF h.asc (show i-1<i by omega) (x:=s.Vols[i-1].Id) (y:=s.Vols[i].Id) (by grind) (by grind);rw[cF]
   rw[a];obtain⟨c,q1,q2⟩:=Bs (body:=λq:Int=>II s s.Vols[i] q) (λ(_:Unit) i=>i) 16 (λ_ _=>True) (λb=>b= .inl ())
    (λ_ k hk _=>by
     simp only[II];rw[cT,XA _ h.ar (h.root _ hr) hk];simp only[Aa];have:=h.lt _ hr _<|jH hk;rw[cF,ad1]
     simp)
    (λ_ _=>⟨_,by rfl,rfl⟩) (s:=()) trivial
   rw[q1,q2];rw[ad1]
   simp)
  (λ_ _=>⟨_,by simp[HD,GU],rfl⟩) (s:=()) trivial
 rw[h1,h2];simp only[Aa,DD];rw[Oj s (by omega),Aa,Sv _ (by omega) h.ar _ (by omega) h.root];have:Pu s.Arena.Knots (AR s)=s.Arena.Knots:=by
  have:=Sj h
  grind [H0]
 rw[this];simp
abbrev Vs:=List<|Int×List Int
def R3 (l:Vs) (id:Int):Option (List Int):=(l.find? λp=>p.1==id).map Prod.snd
def qS (l:Vs) (id:Int) (a:List Int):Vs:=(l.filter λp=>decide<|p.1<id)++ [(id,a)]++l.filter λp=>decide<|p.1>id
def sU (l:Vs) (id:Int):Vs:=l.filter λp=>p.1 !=id
def oM (l:Vs) (id:Int) (s:Nat) (n:Int):Vs:=l.map λp=>if p.1=id then(p.1,p.2.set s n)else p
def PC (r:FO):Bool:=decide (0<=r.Arg/\r.Arg<=1000000000)&&(bif r.Kind==1 then r.Vol==0&&r.Chunk==0 else decide (2<=r.Kind/\r.Kind<=5)&&decide (1<=r.Vol/\r.Vol<=9)&&(r.Kind==4||r.Chunk==0)&&
 (bif r.Kind==2 then decide (r.Arg<=9)else bif r.Kind==3 then r.Arg==0 else bif r.Kind==4 then decide (r.Arg<16)&&decide (1<=r.Chunk/\r.Chunk<=1000000000)else decide (r.Arg<16)))
def WX:List Int:=List.replicate 16 0
def I0 (l:Vs) (nx:Int) (r:FO):Option (Vs×Int):=if PC r=false then none else if r.Kind=1 then some ([],if r.Arg=0 then 1 else r.Arg) else if r.Kind=2 then
  if(0<r.Arg/\R3 l r.Arg=none)\/R3 l r.Vol≠none\/l.length=3 then none else some (qS l r.Vol (if 0<r.Arg then(R3 l r.Arg).getD WX else WX),nx) else if R3 l r.Vol=none\/r.Chunk=1000000000 then none else if r.Kind=3 then some (sU l r.Vol,nx) else some (oM l r.Vol r.Arg.toNat r.Chunk,max nx<|r.Chunk+1)
theorem Nx (r:FO):KX r=some (PC r):=by
 unfold KX PC;simp only[Lp,Aa]
 grind
theorem H5 (s:Store) (hv:s.Vols.length<=1048576) (id:Int):(Em s id=some (-1)/\∀v∈s.Vols,v.Id≠id)\/∃k:Nat,∃v,Em s id=some (k:Int)/\s.Vols[k]?=some v/\v.Id=id/\∀j w,j<k->s.Vols[j]?=some w->w.Id≠id:=by
 unfold Em;obtain⟨b,h1,h2⟩:=Bs (body:=λq:Int=>Jo s id q) (λ(_:Unit) i=>i) s.Vols.length (λi _=>∀j w,j<i->s.Vols[j]?=some w->w.Id≠id)
  (λb=>(b= .inl ()/\∀v∈s.Vols,v.Id≠id)\/∃k:Nat,∃v,b= .inr (k:Int)/\s.Vols[k]?=some v/\v.Id=id/\∀j w,j<k->s.Vols[j]?=some w->w.Id≠id)
  (λ_ i hi hs=>by
   have hx:=Ab hi;simp only[Jo,Hc hi,A0,hx,Aa]
   cases e:(s.Vols[i].Id==id)with
   |true=>grind
   |false=>
    rw[ad1];refine .inl ⟨(),rfl,λj w hj hw=>?_⟩
    grind)
  (λ_ hs=>⟨_,by simp[HD,Jo],.inl ⟨rfl,λv hv=>by
   obtain⟨j,hj,rfl⟩:=AM hv
   simp_all⟩⟩) (s:=()) (λj w hj=>by omega)
 grind
theorem QB {id:Int}:(∀v∈s.Vols,v.Id≠id)↔R3 (DB s) id=none:=by
 unfold R3 DB;simp
theorem mS {w:Vol} (h:(s.Vols.map Vol.Id).Pairwise (·<·)) (hv:v∈s.Vols) (hw:w∈s.Vols) (e:v.Id=w.Id):v=w:=by
 obtain⟨i,hi,rfl⟩:=AM hv;obtain⟨j,hj,rfl⟩:=AM hw;have gi:(s.Vols.map Vol.Id)[i]?=some s.Vols[i].Id:=by grind
 have gj:(s.Vols.map Vol.Id)[j]?=some s.Vols[j].Id:=by grind
 rcases Nat.lt_trichotomy i j with h1|h1|h1
 ·have:=MF h h1 gi gj;omega
 ·subst h1;rfl
 have:=MF h h1 gj gi;omega
theorem QA (h:(s.Vols.map Vol.Id).Pairwise (·<·)) (hv:v∈s.Vols):R3 (DB s) v.Id=some (Il s.Arena.Knots v.Root):=by
 unfold R3;have hm:(v.Id,Il s.Arena.Knots v.Root)∈DB s:=AE.2 ⟨v,hv,rfl⟩
 cases hf:(DB s).find? λp=>p.1==v.Id with
 |none=>grind
 |some p=>
  have h1:=List.find?_some hf;have h2:=List.mem_of_find?_eq_some hf;obtain⟨w,hw,rfl⟩:=AE.1 h2
  grind [mS]
theorem Tu (s:Store):(DB s).length=s.Vols.length:=by unfold DB;rw[BM]
theorem XL (K:Ks):Il K (-1)=WX:=by rfl
theorem bB (s:Store) (p:Int->Bool) (t:Store) (hk:t.Arena=s.Arena) (hv:t.Vols=s.Vols.filter λv=>p v.Id):DB t=(DB s).filter λq=>p q.1:=by
 unfold DB;rw[hk,hv,List.filter_map];rfl
theorem N8 {body:List Vol×Int->Option ((List Vol×Int)⊕List Vol)} (l:List Vol) (p:Vol->Bool) (o:List Vol) (hM:l.length+o.length<=1048576) (h1:∀(i:Nat) v (a:List Vol),l[i]?=some v->a.length<=1048576->body (a,(i:Int))=some (.inl (bif p v then a++ [v]else a,((i+1:Nat):Int)))) (h2:∀a,body (a,(l.length:Int))=some (.inr a)):
  Ah body (o,0)=some (o++l.filter p):=by
 obtain⟨b,h3,h4⟩:=Bs (body:=body) (λ(q:List Vol) i=>(q,i)) l.length (λi q=>q=o++(l.take i).filter p) (λb=>b=o++l.filter p)
  (λq i hi hq=>by grind [EF])
  (λq hq=>⟨q,h2 q,by grind⟩) (s:=o) (by simp)
 rw[h3,h4]
theorem iW {R':List Int} (h:∀r∈R,r∈R') (hu:BH K R i=true):BH K R' i=true:=by grind [BH]
theorem So {l:List Vol} (h:(l.map Vol.Id).Pairwise (·<·)) (v:Vol):(((l.filter λw=>decide (w.Id<v.Id))++ [v]++l.filter λw=>decide (w.Id>v.Id)).map Vol.Id).Pairwise (·<·):=by simp_all [AP];grind
theorem UE (l:List Vol) (id:Int):(l.filter λw=>decide (w.Id<id)).length+(l.filter λw=>decide (w.Id>id)).length<=l.length:=by
 induction l with
 |nil=>simp
 |cons v l ih=>grind
def HS (s:Store) (r:FO) (o:Option (Store×Bool)):Prop:=match I0 (DB s) s.Next r with
 |none=>o=some (s,false)
 |some (l,nx)=>∃t,o=some (t,true)/\Cu t/\DB t=l/\t.Next=nx
theorem fK {r:FO} (h:Cu s) (hr:PC r=true) (hk:r.Kind=2):HS s r (D3 s r):=by
 have hl:=h.len;have d:=IQ h.ar (by have:=h.few;omega);have b:=El s d (by omega);have hb:PC r=true:=hr;unfold PC at hr;rw[hk]at hr;simp at hr;unfold HS I0;rw[hb,hk];simp only[Bool.true_eq_false,mG,By,show¬((2:Int)=1) by omega];unfold D3;have root:(R3 (DB s) r.Arg=none/\0<r.Arg/\(cond (decide<|r.Arg>0) ((Em s r.Arg).bind λv1=>cond (decide<|v1<0) ((C9 s).bind λv2=>some<|.inr (v2,false))<|(gi s.Vols v1).bind λx1=>some<|.inl x1.Root) (some<|.inl<|-1):Option (Int⊕(Store×Bool)))=some (.inr (s,false)))\/
   (¬(0<r.Arg/\R3 (DB s) r.Arg=none)/\∃q,Cp s.Arena.Knots q=true/\(q= -1\/q∈AR s)/\Il s.Arena.Knots q=(if 0<r.Arg then(R3 (DB s) r.Arg).getD WX else WX)/\(cond (decide<|r.Arg>0) ((Em s r.Arg).bind λv1=>cond (decide<|v1<0) ((C9 s).bind λv2=>some<|.inr (v2,false))<|(gi s.Vols v1).bind λx1=>some<|.inl x1.Root) (some<|.inl<|-1):Option (Int⊕(Store×Bool)))=some (.inl q)):=by
  by_cases h0:0<r.Arg
  ·rw[Ag (by omega:r.Arg>0)]
   rcases H5 s (by omega) r.Arg with⟨h1,h2⟩|⟨k,v,h1,h2,h3,_⟩
   ·grind [QB]
   right;rw[h1];have hm:=A3 h2;have hg:=QA h.asc hm;refine⟨λhh=>(by grind),v.Root,h.root _<|AE.2 ⟨v,hm,rfl⟩,.inr<|AE.2 ⟨v,hm,rfl⟩,?_,?_⟩
   ·grind
   grind [A0]
  right;rw[Aq (by omega:¬r.Arg>0),Bm h0];exact⟨λhh=>h0 hh.1,-1,rfl,.inl rfl,XL _,rfl⟩
 rcases root with⟨g1,g2,g3⟩|⟨g1,q,g2,g3,g4,g5⟩
 ·grind
 rw[g5];simp only[Aa,DD]
 rcases H5 s (by omega) r.Vol with⟨h1,h2⟩|⟨k,v,h1,h2,h3,_⟩
 ·rw[h1];rw[Aa,cF,Cs];have j:R3 (DB s) r.Vol=none:=QB.1 h2;by_cases h3:s.Vols.length=3
  ·grind [Tu]
  have e3:((s.Vols.length:Int)==3)=false:=by simp;omega
  rw[e3,Bm<|by grind [Tu]];rw[b];have k1:=N8 (body:=λq:List Vol×Int=>Ee s r q.1 q.2) s.Vols (λv=>decide<|v.Id<r.Vol) [] (by simp;omega)
   (λi v c hv ho=>by
    have hi:=(Ad.1 hv).1;simp only[Ee,Hc hi,A0,hv,Aa]
    grind [ad1,CC])
   (λc=>by simp[HD,Ee])
  rw[Ar]at k1;rw[k1];simp only[Aa];have l:=UE s.Vols r.Vol;rw[CC (by simp;omega)];simp only[Aa];have k2:=N8 (body:=λq:List Vol×Int=>Ed s r q.1 q.2) s.Vols (λv=>decide<|v.Id>r.Vol) ((s.Vols.filter λv=>decide<|v.Id<r.Vol)++ [Vol.mk r.Vol q]) (by simp;omega)
   (λi v c hv ho=>by
    have hi:=(Ad.1 hv).1;simp only[Ed,Hc hi,A0,hv,Aa]
    grind [ad1,CC])
   (λc=>by simp[HD,Ed])
  rw[k2];have f:((s.Vols.filter λv=>decide<|v.Id<r.Vol)++ [Vol.mk r.Vol q]++s.Vols.filter λv=>decide<|v.Id>r.Vol).length<=3:=by grind
  have g:∀x∈AR s,x∈(AR<|Store.mk ((s.Vols.filter λv=>decide<|v.Id<r.Vol)++ [Vol.mk r.Vol q]++s.Vols.filter λv=>decide<|v.Id>r.Vol) s.Arena s.Next):=by
   intro x hx;obtain⟨v,hv,rfl⟩:=AE.1 hx;refine AE.2 ⟨v,?_,rfl⟩
   grind
  have a:∀x∈(AR<|Store.mk ((s.Vols.filter λv=>decide<|v.Id<r.Vol)++ [Vol.mk r.Vol q]++s.Vols.filter λv=>decide<|v.Id>r.Vol) s.Arena s.Next),x= -1\/x∈AR s:=by
   intro x hx;obtain⟨v,hv,rfl⟩:=AE.1 hx;simp only[Au,LT,IT]at hv
   rcases hv with(hv|rfl)|hv
   ·exact .inr<|AE.2 ⟨v,hv.1,rfl⟩
   ·exact g3
   exact .inr<|AE.2 ⟨v,hv.1,rfl⟩
  refine⟨_,rfl,⟨⟨f,h.ar,h.nx,?_,So h.asc<|Vol.mk r.Vol q,?_,?_,h.few⟩,?_⟩,?_,rfl⟩
  ·intro v hv;simp only[Au,LT,IT]at hv
   rcases hv with(hv|rfl)|hv
   ·exact h.ids v hv.1
   ·grind
   exact h.ids v hv.1
  ·intro x hx
   rcases a x hx with e|e
   ·rw[e];rfl
   exact h.root x e
  ·intro x hx
   rcases a x hx with e|e
   ·intro y hy;rw[e]at hy;rw[XL]at hy;have:=List.eq_of_mem_replicate hy;have:=h.nx
    grind
   exact h.lt x e
  ·intro i hi;exact iW g<|h.used i hi
  rw[<-g4];unfold qS DB;simp only[LV,BQ,List.map_nil,List.filter_map];rfl
 rw[h1];have hg:=QA h.asc<|A3 h2
 grind
theorem Ou {f:α->Int} {k:Nat} {v:α} (h:(l.map f).Pairwise (·<·)) (hv:l[k]?=some v):l.take k++l.drop (k+1)=l.filter λw=>f w !=f v:=by
 rw[List.pairwise_map]at h;have hk:=(Ad.1 hv).1;have e:l=l.take k++v::l.drop (k+1):=by grind [Bp,BB]
 rw[e,AP]at h;obtain⟨h1,h2,h3⟩:=h;rw[Cn]at h2
 conv=>rhs;rw[e]
 rw[Co,List.filter_cons_of_neg<|by simp]
 grind [List.filter_eq_self]
theorem jD (h:Cu s) (id:Int):StoreR (Store.mk (s.Vols.filter λw=>w.Id !=id) s.Arena s.Next):=by
 have hl:=h.len;refine⟨?_,h.ar,h.nx,λv hv=>h.ids v (LT.1 hv).1,?_,?_,?_,h.few⟩
 ·grind
 ·have:=h.asc
  grind
 ·intro x hx;obtain⟨w,hw,rfl⟩:=AE.1 hx;exact h.root _<|AE.2 ⟨w,(LT.1 hw).1,rfl⟩
 intro x hx;obtain⟨w,hw,rfl⟩:=AE.1 hx;exact h.lt _<|AE.2 ⟨w,(LT.1 hw).1,rfl⟩
theorem nJ {k t:Nat} (h:Cu s) (h2:s.Vols[k]?=some v) (ht:t<16) (hn:0<=n) (e:n+1<=1000000000):StoreR (Store.mk (s.Vols.set k (Vol.mk v.Id ((s.Arena.Knots.length:Int)+1))) (Arena.mk (GK s.Arena.Knots v.Root t n)) (max s.Next (n+1))):=by
 have hl:=h.len;have hm:=A3 h2;have a:=h.root _<|AE.2 ⟨v,hm,rfl⟩;have f:=h.small
 have b:∀w∈s.Vols.set k (Vol.mk v.Id<|(s.Arena.Knots.length:Int)+1),w∈s.Vols\/w=Vol.mk v.Id ((s.Arena.Knots.length:Int)+1):=λw hw=>E0 hw
 refine⟨by simpa using hl,oT h.ar a ht hn,?_,?_,?_,?_,?_,?_⟩
 ·have:=h.nx
  grind
 ·intro w hw
  rcases b w hw with hw|rfl
  ·exact h.ids w hw
  exact h.ids v hm
 ·have:(s.Vols.set k<|Vol.mk v.Id<|(s.Arena.Knots.length:Int)+1).map Vol.Id=s.Vols.map Vol.Id:=by
   rw[List.map_set];apply B7
   grind
  rw[this];exact h.asc
 ·intro x hx;obtain⟨w,hw,rfl⟩:=AE.1 hx
  rcases b w hw with hw|rfl
  ·exact gR<|h.root _<|AE.2 ⟨w,hw,rfl⟩
  exact eM
 ·intro x hx y hy;obtain⟨w,hw,rfl⟩:=AE.1 hx;show y<max s.Next (n+1)
  rcases b w hw with hw|rfl
  ·have d:=h.root _<|AE.2 ⟨w,hw,rfl⟩;have c:y∈Il s.Arena.Knots w.Root:=by rw[<-cC (X:=[Knot.mk true<|LM s.Arena.Knots v.Root t n,Knot.mk false<|Pr s.Arena.Knots v.Root t]) h.ar d];exact hy
   have:=h.lt _ (AE.2 ⟨w,hw,rfl⟩) y c;omega
  have c:y∈(Il s.Arena.Knots v.Root).set t n:=by rw[<-cO (s:=t) (n:=n) h.ar a (by omega)];exact hy
  rcases E0 c with c|rfl
  ·have:=h.lt _ (AE.2 ⟨v,hm,rfl⟩) y c;omega
  omega
 grind [GK]
theorem Tb (h:Cu s) (r:FO):HS s r (Nz s r):=by
 have hl:=h.len;have d:=IQ h.ar (by have:=h.few;omega);have c:=El s d (by omega);unfold Nz;rw[QZ h,Nx];simp only[Aa,A9,Ae]
 cases hb:PC r with
 |false=>grind [HS,I0]
 |true=>
  have hr:=hb;unfold PC at hr
  cases k1:(r.Kind==1)with
  |true=>
   have e1:r.Kind=1:=by simpa using k1
   rw[e1]at hr;simp at hr;unfold HS I0;rw[hb,e1];have:(cond (r.Arg==0) (some 1) (some r.Arg):Option Int)=some (if r.Arg=0 then 1 else r.Arg):=by grind
   rw[this];refine⟨_,rfl,⟨⟨by simp,rfl,?_,by simp,by simp,by simp[AR],by simp[AR],by simp⟩,by simp⟩,rfl,rfl⟩
   grind
  |false=>
   have n1:r.Kind≠1:=by simpa using k1
   rw[k1]at hr
   cases k2:(r.Kind==2)with
   |true=>
    have:=fK h hb (by simpa using k2);have e:((D3 s r).bind λv4=>some (v4.1,v4.2))=D3 s r:=by cases D3 s r<;>rfl
    grind
   |false=>
    have n2:r.Kind≠2:=by simpa using k2
    unfold HS I0;rw[hb];simp only[Bool.true_eq_false,mG,Bm n1,Bm n2]
    rcases H5 s (by omega) r.Vol with⟨h1,h2⟩|⟨k,v,h1,h2,h3,_⟩
    ·grind [QB]
    rw[h1];simp only[Aa];rw[cF];simp only[Aa];have hm:=A3 h2;have f:=(Ad.1 h2).1;have hg:=QA h.asc hm
    cases hc:(r.Chunk==1000000000)with
    |true=>grind
    |false=>
     have n:r.Chunk≠1000000000:=by simpa using hc
     rw[Bm (by grind),c];simp only[Aa]
     cases k3:(r.Kind==3)with
     |true=>
      have e3:r.Kind=3:=by simpa using k3
      rw[Bw e3];rw[Cs,ad1];have d1:dr s.Vols 0 (k:Int)=some (s.Vols.take k):=by grind [dr]
      have d2:dr s.Vols ((k+1:Nat):Int) (s.Vols.length:Int)=some (s.Vols.drop<|k+1):=by grind [AY,dr]
      rw[d1,d2];simp only[Aa];rw[HH (by simp;omega)];simp only[Aa];rw[CC (by simp;omega),Ou h.asc h2,h3];simp only[Aa];have hR:=jD h r.Vol;rw[HQ hR];refine⟨_,rfl,bV hR,?_,rfl⟩;rw[Uy hR];exact bB s (λid=>id !=r.Vol) _ rfl rfl
     |false=>
      have n3:r.Kind≠3:=by simpa using k3
      rw[Bm n3];have ha:0<=r.Arg/\r.Arg<16/\0<=r.Chunk/\r.Chunk<=1000000000:=by grind
      obtain⟨t,ht⟩:∃t:Nat,r.Arg=(t:Int):=⟨_,(CP ha.1).symm⟩;rw[A0,h2];simp only[Aa];have a:=h.root _<|AE.2 ⟨v,hm,rfl⟩;rw[ht,Sw _ (by have:=h.few;omega) h.ar a (by omega) ha.2.2.1];simp only[Aa];rw[DL];have hR:=nJ h h2 (show t<16 by omega) ha.2.2.1 (show r.Chunk+1<=1000000000 by omega);have m:DB (Store.mk (s.Vols.set k<|Vol.mk v.Id<|(s.Arena.Knots.length:Int)+1) (Arena.mk<|GK s.Arena.Knots v.Root t r.Chunk)<|max s.Next<|r.Chunk+1)=oM (DB s) r.Vol t r.Chunk:=by
       unfold DB oM;simp only[HM];apply B7;intro j;rw[OW,OW,List.getElem?_set];by_cases e:k=j
       ·subst e;rw[Bw rfl,Bw f,h2];simp only[LS,Function.comp];rw[Bw h3,cO h.ar a<|by omega]
       rw[Bm e]
       cases hj:s.Vols[j]? with
       |none=>rfl
       |some w=>
        have g:=A3 hj;have i:w.Id≠r.Vol:=by
         intro e2;have gi:(s.Vols.map Vol.Id)[k]?=some v.Id:=by grind
         have gj:(s.Vols.map Vol.Id)[j]?=some w.Id:=by grind
         rcases Nat.lt_trichotomy k j with q|q|q
         ·have:=MF h.asc q gi gj;omega
         ·exact e q
         grind
        simp only[LS,Function.comp];rw[Bm i];have:=cC (X:=[Knot.mk true<|LM s.Arena.Knots v.Root t r.Chunk,Knot.mk false<|Pr s.Arena.Knots v.Root t]) h.ar<|h.root _<|AE.2 ⟨w,g,rfl⟩
        grind [GK]
      have l:∀b:Bool,b=decide (r.Chunk>=s.Next)->(cond b ((Ek<|Store.mk (s.Vols.set k<|Vol.mk v.Id<|(s.Arena.Knots.length:Int)+1) (Arena.mk<|GK s.Arena.Knots v.Root t r.Chunk)<|ad r.Chunk 1).bind λv11=>some (v11,true))<|(Ek<|Store.mk (s.Vols.set k<|Vol.mk v.Id<|(s.Arena.Knots.length:Int)+1) (Arena.mk<|GK s.Arena.Knots v.Root t r.Chunk) s.Next).bind λv12=>some (v12,true))=(Ek<|Store.mk (s.Vols.set k<|Vol.mk v.Id<|(s.Arena.Knots.length:Int)+1) (Arena.mk<|GK s.Arena.Knots v.Root t r.Chunk)<|max s.Next<|r.Chunk+1).bind λv=>some (v,true):=by grind [Cq]
      rw[l _ rfl,HQ hR];refine⟨_,rfl,bV hR,?_,rfl⟩
      grind [Uy]
noncomputable def cK (t:ByteArray):Option Page:=match Gv t with
 |some (p,true)=>some p
 |_=>none
noncomputable def pg (i k:Int) (x:Leaf):List Ay:=if x.Is=1 then(match cK x.Text with
 |some p=>[Ay.mk i k p]
 |none=>[])else []
noncomputable def cQ (i:Int):Int->List Leaf->List Ay
 |_,[]=>[]
 |k,x::l=>pg i k x++cQ i (k+1) l
noncomputable def ZM:Int->List Block->List Ay
 |_,[]=>[]
 |i,b::l=>cQ i 0 b.Leaves++ZM (i+1) l
theorem cP (i:Int):∀(k:Int) (l m:List Leaf),cQ i k (l++m)=cQ i k l++cQ i (k+l.length) m
 |k,[],m=>by simp[cQ]
 |k,x::l,m=>by
  rw[CB,cQ,cP i (k+1) l m,cQ,Cw,Bk];congr 3;omega
theorem cR:∀(i:Int) (l m:List Block),ZM i (l++m)=ZM i l++ZM (i+l.length) m
 |i,[],m=>by simp[ZM]
 |i,x::l,m=>by
  rw[CB,ZM,cR (i+1) l m,ZM,Cw,Bk];congr 3;omega
theorem SI {k:Nat} (h:l[k]?=some x):l=l.take k++x::l.drop (k+1)/\(l.take k).length=k:=by grind [Bp,BB]
def nM (x:Leaf):Prop:=(x.Is=0/\L x.Text=[])\/(x.Is=1/\1<=(L x.Text).length/\(L x.Text).length<=120)\/(x.Is=2/\(L x.Text).length<=120)
def f9 (l:List Leaf):Prop:=∀(k:Nat) x y,l[k]?=some x->l[k+1]?=some y->x.Is=0->y.Is=0
structure QP (b:Block):Prop where
 four:b.Leaves.length=4
 wear:0<=b.Wear/\b.Wear<=1000000000
 leaf:∀x∈b.Leaves,nM x
 turn:f9 b.Leaves
structure FT (f:Flash):Prop where
 n:3<=f.Blocks.length/\f.Blocks.length<=10
 blk:∀b∈f.Blocks,QP b
theorem iK (x:Leaf):∃v,IW x=some v/\(v=true↔nM x):=by
 unfold IW nM;by_cases h0:x.Is=0
 ·rw[show(x.Is==0)=true by simpa using h0];refine⟨_,rfl,?_⟩;rw[Qw,B5];constructor
  ·intro h;exact .inl ⟨h0,by rw[h];rfl⟩
  rintro(h|h|h)
  ·exact dQ (by rw[h.2];rfl)
  ·omega
  omega
 rw[show(x.Is==0)=false by simpa using h0];by_cases h1:x.Is=1
 ·simp_all [Lp,Ei];grind
 rw[show(x.Is==1)=false by simpa using h1];by_cases h2:x.Is=2
 ·simp_all [Ei];grind
 rw[show(x.Is==2)=false by simpa using h2]
 grind
theorem Rw (f:Flash) (h:LF f):∃v,DO f=some v/\(v=true↔FT f):=by
 unfold DO;obtain⟨r,h1,h2⟩:=Bs (body:=λs:Int=>CG f s) (λ(_:Unit) i=>i) f.Blocks.length (λi _=>∀j b,j<i->f.Blocks[j]?=some b->QP b) (λr=>(r= .inr false/\¬∀b∈f.Blocks,QP b)\/r= .inl ()/\∀b∈f.Blocks,QP b)
  (λ_ i hi hs=>by
   have hx:=Ab hi;have hm:f.Blocks[i]∈f.Blocks:=AX hi;have l:=h.1;simp only[CG,Hc hi,A0,hx,Aa];by_cases h4:f.Blocks[i].Leaves.length=4
   ·rw[show(ln f.Blocks[i].Leaves !=4)=false by simp[ln,h4]];rw[Lp];simp only[Aa];by_cases hw:0<=f.Blocks[i].Wear/\f.Blocks[i].Wear<=1000000000
    ·rw[Ag hw];obtain⟨q,q1,q2⟩:=Bs (body:=λs:Int=>CF f.Blocks[i] s) (λ(_:Unit) i=>i) f.Blocks[i].Leaves.length
      (λk _=>(∀j x,j<k->f.Blocks[i].Leaves[j]?=some x->nM x)/\∀(j:Nat) x y,j+1<k->f.Blocks[i].Leaves[j]?=some x->f.Blocks[i].Leaves[j+1]?=some y->x.Is=0->y.Is=0)
      (λr=>(r= .inr (.inr<|.inr false)/\¬((∀x∈f.Blocks[i].Leaves,nM x)/\f9 f.Blocks[i].Leaves))\/r= .inl ()/\(∀x∈f.Blocks[i].Leaves,nM x)/\f9 f.Blocks[i].Leaves)
      (λ_ k hk d=>by
       have g:=Ab hk;simp only[CF,Hc hk,A0,g,Aa];obtain⟨v,v1,v2⟩:=iK f.Blocks[i].Leaves[k];rw[v1];simp only[Aa]
       cases hv:v with
       |false=>
        grind
       |true=>
        simp only[A9,Ae];by_cases m:k=0
        ·rw[Aq<|by omega];rw[ad1];simp_all
        rw[Ag<|by omega];rw[C0,show(k:Int)-1=((k-1:Nat):Int) by omega,A0,Ab<|by omega];simp only[Aa];have good:(f.Blocks[i].Leaves[k-1].Is=0->f.Blocks[i].Leaves[k].Is=0)->(∀j x,j<k+1->f.Blocks[i].Leaves[j]?=some x->nM x)/\∀(j:Nat) x y,j+1<k+1->f.Blocks[i].Leaves[j]?=some x->f.Blocks[i].Leaves[j+1]?=some y->x.Is=0->y.Is=0:=by
         intro hg;refine⟨λj x hj a=>?_,λj x y hj a c h0=>?_⟩
         ·grind
         by_cases e:j+1=k
         ·grind
         grind
        cases e0:(f.Blocks[i].Leaves[k-1].Is==0)with
        |false=>
         rw[ad1];exact .inl ⟨(),rfl,good λhh=>by grind⟩
        |true=>
         simp only[As,Aa]
         cases e1:(f.Blocks[i].Leaves[k].Is !=0)with
         |false=>
          rw[ad1];exact .inl ⟨(),rfl,good λ_=>by simpa using e1⟩
         |true=>
          refine .inr ⟨_,rfl,.inl ⟨rfl,λhh=>?_⟩⟩;have:=hh.2 (k-1) _ _ (Ab<|by omega) (by rw[show k-1+1=k by omega];exact g)<|by simpa using e0
          simp[this]at e1)
      (λ_ d=>⟨_,by simp[HD,CF],.inr ⟨rfl,λx a=>by
       obtain⟨j,hj,rfl⟩:=AM a
       simp_all;grind,λj x y a c=>d.2 j x y (Ad.1 c).1 a c⟩⟩) (s:=()) ⟨λj x hj=>by omega,λj x y hj=>by omega⟩
     rw[q1]
     rcases q2 with⟨rfl,q2⟩|⟨rfl,q2,q3⟩
     ·exact .inr ⟨_,rfl,.inl ⟨rfl,λhh=>q2 ⟨(hh _ hm).leaf,(hh _ hm).turn⟩⟩⟩
     rw[ad1];refine .inl ⟨(),rfl,λj b hj hb=>?_⟩;by_cases e:j=i
     ·subst e;rw[hx]at hb
      injection hb with hb
      rw[<-hb];exact⟨h4,hw,q2,q3⟩
     grind
    rw[Aq hw];exact .inr ⟨_,rfl,.inl ⟨rfl,λhh=>hw (hh _ hm).wear⟩⟩
   rw[show(ln f.Blocks[i].Leaves !=4)=true by simp[ln];omega]
   exact .inr ⟨_,rfl,.inl ⟨rfl,λhh=>h4 (hh _ hm).four⟩⟩)
  (λ_ hs=>⟨_,by simp[HD,CG],.inr ⟨rfl,λb hb=>by
   obtain⟨j,hj,rfl⟩:=AM hb
   simp_all⟩⟩) (s:=()) (λj b hj=>by omega)
 rw[h1]
 rcases h2 with⟨rfl,h2⟩|⟨rfl,h2⟩
 ·exact⟨_,rfl,by simp only[NW,false_iff];exact λhh=>h2 hh.blk⟩
 rw[Lp,Cs];refine⟨_,rfl,?_⟩;rw[B5];constructor
 ·intro hh;exact⟨by omega,h2⟩
 intro hh;have:=hh.n;omega
theorem FT.cap (h:FT f):LF f:=⟨by have:=h.n;omega,λb hb=>by rw[(h.blk b hb).four];omega⟩
theorem FT.text (h:FT f):∀b∈f.Blocks,∀x∈b.Leaves,(L x.Text).length<=120:=λb hb x hx=>by
 rcases(h.blk b hb).leaf x hx with h|h|h
 ·rw[h.2];simp
 ·exact h.2.2
 exact h.2
theorem Vt (h:FT f):DO f=some true:=by
 obtain⟨v,h1,h2⟩:=Rw f h.cap;rw[h1,h2.2 h]
theorem FT.few (h:FT f):nl f.Blocks<=40:=by
 have:∀l:List Block,(∀b∈l,QP b)->nl l=4*l.length:=by
  intro l
  induction l with
  |nil=>intro _;rfl
  |cons b l ih=>
   intro hh;have h1:=ih (λx hx=>hh x<|by simp[hx]);have h2:=(hh b<|by simp).four
   grind [nl]
 rw[this _ h.blk];have:=h.n;omega
def Z7 (y:Ay):Int:=y.Page.Seq
def SR (l r:List Ay):Prop:=Oi Z7 r/\Bg Z7 l r
theorem SR.mem {l r:List Ay} (h:SR l r):y∈r↔y∈l:=h.2.mem
theorem SR.add {A B r:List Ay} (h:SR (A++B) r) (hy:∀x∈r,Z7 x<Z7 y):SR (A++ [y]++B) (r++ [y]):=by
 refine⟨?_,λk=>?_⟩
 ·unfold Oi;rw[AP];refine⟨h.1,List.pairwise_singleton _ _,λx hx z hz=>?_⟩
  grind
 have h2:=h.2 k;by_cases e:Z7 y=k
 ·have e1:∀x∈A++B,¬(Z7 x==k)=true:=λx hx=>by
   have:=hy x<|h.mem.2 hx;simp;omega
  have b0:B.filter (λx=>Z7 x==k)=[]:=Gl.2 λx hx=>e1 x<|by simp[hx]
  grind
 grind
theorem gX {t:ByteArray} {p:Page} (h:Gv t=some (p,true)):cK t=some p:=by unfold cK;rw[h]
theorem fN (h:FT f):Ah (λs:List Ay×Int=>CE f s.1 s.2) ([],0)=some (ZM 0 f.Blocks):=by
 have hn:=h.n;obtain⟨X,h1,h2⟩:=Bs (body:=λs:List Ay×Int=>CE f s.1 s.2) (λs i=>(s,i)) f.Blocks.length (λi o=>o=ZM 0 (f.Blocks.take i)/\o.length<=4*i) (λb=>b=ZM 0 f.Blocks)
  (λa i hi hs=>by
   obtain⟨ho,l⟩:=hs;have hb:f.Blocks[i]?=some f.Blocks[i]:=Ab hi;have hm:f.Blocks[i]∈f.Blocks:=AX _;have h4:=(h.blk _ hm).four;refine .inl ?_;simp only[CE,Hc hi];obtain⟨u,q1,q2,q3⟩:=Bs (body:=λs:List Ay×Int=>D4 f (i:Int) s.1 s.2) (λs i=>(s,i)) f.Blocks[i].Leaves.length (λk u=>u=a++cQ i 0 (f.Blocks[i].Leaves.take k)/\u.length<=a.length+k) (λu=>u=a++cQ i 0 f.Blocks[i].Leaves/\u.length<=a.length+4)
    (λu k hk hu=>by
     obtain⟨d,m⟩:=hu;have hx:f.Blocks[i].Leaves[k]?=some f.Blocks[i].Leaves[k]:=Ab hk;have e:f.Blocks[i].Leaves[k]∈f.Blocks[i].Leaves:=AX _
     have g:∀y:Ay,ap 72 u [y]=some (u++ [y]):=λy=>CC<|by grind
     have c:∀z,cQ i 0 (f.Blocks[i].Leaves.take<|k+1)=cQ i 0 (f.Blocks[i].Leaves.take k)++z↔pg i k f.Blocks[i].Leaves[k]=z:=by
      intro z;rw[EF,hx,cP];simp_all [cQ];grind
     refine .inl ?_;obtain⟨p,ok,r1,r2,r3,r4⟩:=GI f.Blocks[i].Leaves[k].Text (by have:=h.text _ hm _ e;omega);simp only[D4,Hc hk,A0,hb,Aa,Rv f h.cap hb hx,g]
     cases j:f.Blocks[i].Leaves[k].Is==1 with
     |false=>
      obtain⟨p',ok',t1,_⟩:=GI (bs []) (by rw[T3];simp);simp only[Ae,Aa,t1];refine⟨u,by rw[ad1],?_,by omega⟩;rw[d,(c []).2 (by unfold pg;grind),A6]
     |true=>
      simp only[As,Aa,r1]
      cases ok with
      |false=>
       refine⟨u,by grind [ad1],?_,by omega⟩;rw[d,(c []).2 (by unfold pg cK;grind),A6]
      |true=>
       refine⟨u++ [Ay.mk i k p],by grind [ad1],?_,by grind⟩
       rw[d,(c [Ay.mk i k p]).2 (by simp_all [gX,pg]),Cw])
    (λu hu=>⟨u,by simp only[D4,A0,hb,Aa,HD],by grind,by omega⟩) (s:=a) ⟨by simp[cQ],by omega⟩
   grind [ad1,EF,cR,ZM])
  (λa hs=>⟨a,by simp[HD,CE],by grind⟩) (s:=[]) ⟨by simp[ZM],by simp⟩
 grind
theorem jS (h:FT f):∃r,m6 f r/\SR (ZM 0 f.Blocks) r:=by
 have hT:∀b∈f.Blocks,∀x∈b.Leaves,(L x.Text).length<=1048576:=λb hb x hx=>by have:=h.text b hb x hx;omega
 have hn:=h.few;obtain⟨r,h1,h2,h3,h4,h5⟩:=bF f h.cap hT (by omega);refine⟨r,⟨h1,h2,by omega,h4,λy hy=>hO hT<|h4 y hy,h5⟩,h5,?_⟩;obtain⟨X,c1,_,c3,_⟩:=Te f h.cap hT (by omega);have hX:X=ZM 0 f.Blocks:=by grind [fN]
 obtain⟨r',s1,s2,s3⟩:=UC AW X (by omega);have:GC f=some r':=by
  unfold GC
  grind
 rw[h2]at this
 injection this with this
 rw[this,<-hX];exact s3
def tE (l:List Leaf):Nat:=(l.takeWhile λx=>x.Is !=0).length
def sO (f:Flash) (b l:Int) (t:ByteArray):Prop:=∃x,gi f.Blocks b=some x/\x.Bad=false/\l=(tE x.Leaves:Int)/\tE x.Leaves<4/\1<=(L t).length/\(L t).length<=120
def sF (f:Flash) (b l:Int) (y:Leaf):Flash:=Flash.mk (match gi f.Blocks b with
 |some x=>si f.Blocks b<|Block.mk x.Bad x.Wear<|si x.Leaves l y
 |none=>f.Blocks)
def sW (f:Flash) (b:Int):Prop:=∃x,gi f.Blocks b=some x/\x.Bad=false/\x.Wear≠1000000000
def p7 (f:Flash) (b:Int):Flash:=Flash.mk (match gi f.Blocks b with
 |some x=>si f.Blocks b<|Block.mk false (x.Wear+1) WE
 |none=>f.Blocks)
def oG (f:Flash) (s:Step):Prop:=(s.Kind=1/\sO f s.Block s.Leaf s.Text)\/(s.Kind=2/\sW f s.Block)
def qA (f:Flash) (s:Step):Flash:=if s.Kind=1 then sF f s.Block s.Leaf (Leaf.mk 1 s.Text)else p7 f s.Block
theorem YE (u:ByteArray) (hu:(L u).length<=20000) (a:Nat) (ha:a<=(L u).length):∃n c,Ch (Dk.mk u (a:Int) false)=some (n,c)/\c.text_=u/\(c.bad_=true\/c.bad_=false/\∃b:Nat,c.at_=b/\a<b/\b<=(L u).length)/\(c.bad_=true->c.at_=a):=by
 obtain⟨r,h1,_,h2⟩:=Fu u (a:Int) (by omega) ⟨by omega,by omega⟩;rw[Iq u _ hu h1]
 rcases h2 with⟨e1,e2,e3⟩|⟨e1,a',b,n,k1,k2,k3,k4,k5,_⟩
 ·grind
 grind
theorem cJ (t:ByteArray) (ht:(L t).length<=20000):∀(n a:Nat) (b:List FO),(L t).length-a<=n->a<=(L t).length->b.length<=a->∃r,Ah (λs:List FO×ByteArray×Int×Bool=>E5 t s.1 s.2.1 s.2.2.1 s.2.2.2) (b,t,(a:Int),false)=some r/\(r= .inr ([],false)\/∃l:List FO,r= .inl l/\l.length<=(L t).length)
 |n,a,b,hn,ha,ho=>by
  rw[A5];simp only[E5];rw[Ei];by_cases c:a<(L t).length
  ·rw[Ag (by omega:(a:Int)<((L t).length:Int))];rw[Qs t c,ad1];obtain⟨n1,c1,v1,t1,h1,z1⟩:=YE t ht (a+1) (by omega);rw[v1];simp only[Aa]
   rcases h1 with e1|⟨e1,b1,k1,k2,k3⟩
   ·
    have hz:=z1 e1;obtain⟨c1t,c1a,c1b⟩:=c1;subst t1 e1 hz;rw[Ff _ _ ht ⟨by omega,by omega⟩]
    grind
   obtain⟨c1t,c1a,c1b⟩:=c1;simp only at t1 e1 k1;subst t1 e1 k1;obtain⟨n2,c2,v2,t2,h2,z2⟩:=YE c1t ht b1 k3;rw[v2];simp only[Aa]
   rcases h2 with e2|⟨e2,b2,m1,m2,m3⟩
   ·grind
   rw[e2];rw[Nx];simp only[Aa]
   cases PC _ with
   |false=>grind
   |true=>
    rw[CC (by simp;omega),t2,m1]
    match n,hn with
    |n+1,hn=>exact cJ c1t ht n b2 _ (by omega) m3 (by simp;omega)
    |0,hn=>omega
  grind
noncomputable def gW (t:ByteArray):Option (List FO):=match Gu t with
 |some (l,true)=>some l
 |_=>none
theorem Tz (t:ByteArray) (ht:(L t).length<=20000):∃l ok,Gu t=some (l,ok)/\gW t=(if ok=true then some l else none)/\l.length<=20000:=by
 obtain⟨r,h1,h2⟩:=cJ t ht (L t).length 0 [] (by omega) (by omega) (by simp);unfold gW Gu
 grind
def fV (t a b:Int) (y:Ay):Bool:=y.Page.Kind==2&&(y.Page.Tx==t&&(y.Page.Part==a&&(!decide (a>0)||y.Page.Count==b)))
def Yz (r:List Ay) (t a b:Int):Option Ay:=r.find?<|fV t a b
theorem dI (l:List α) (p:α->Bool) (h:∀j x,j<i->l[j]?=some x->p x=false) (hx:l[i]?=some x) (hp:p x=true):l.find? p=some x:=by
 obtain⟨h1,h2⟩:=SI hx;have:(l.take i).find? p=none:=by grind [AM]
 grind
theorem dH (l:List α) (p:α->Bool) (h:∀(j:Nat) x,l[j]?=some x->p x=false):l.find? p=none:=by
 rw[List.find?_eq_none];intro y hy;obtain⟨j,hj,rfl⟩:=AM hy;rw[h j _<|Ab hj];simp
structure FQ (r:List Ay):Prop where
 len:r.length<=1048576
 text:∀y∈r,(L y.Page.Text).length<=90
 seq:∀y∈r,1<=y.Page.Seq/\y.Page.Seq<=1000000000
 tx:∀y∈r,1<=y.Page.Tx/\y.Page.Tx<=1000000000
 cnt:∀y∈r,1<=y.Page.Count/\y.Page.Count<=9
 part:∀y∈r,0<=y.Page.Part/\y.Page.Part<y.Page.Count
def OE (a seq:Int) (y:Ay):Int:=if a=0\/y.Page.Seq<seq then y.Page.Seq else seq
theorem iM (r:List Ay) (hr:FQ r) (t a c:Int) (hp:0<=a) (text:ByteArray) (ht:(L text).length<=10000) (seq:Int):
  ∃text2,Ah (λs:Int×ByteArray×Bool×Int×Int=>Gt r t a s.1 s.2.1 s.2.2.1 s.2.2.2.1 s.2.2.2.2) (c,text,false,0,seq)=some (match Yz r t a c with
   |none=>(c,text,false,seq)
   |some y=>(y.Page.Count,text2,true,OE a seq y))/\(∀y,Yz r t a c=some y->L text2=L text++L y.Page.Text):=by
 have f:=hr.len;obtain⟨b,h1,h2⟩:=Bs (body:=λs:Int×ByteArray×Bool×Int×Int=>Gt r t a s.1 s.2.1 s.2.2.1 s.2.2.2.1 s.2.2.2.2) (λ(s:Int×ByteArray×Bool×Int) i=>(s.1,s.2.1,s.2.2.1,i,s.2.2.2)) r.length
  (λi s=>(s=(c,text,false,seq)/\∀(j:Nat) x,j<i->r[j]?=some x->fV t a c x=false)\/∃y u,Yz r t a c=some y/\L u=L text++L y.Page.Text/\s=(y.Page.Count,u,true,OE a seq y))
  (λb=>(b=(c,text,false,seq)/\Yz r t a c=none)\/∃y u,Yz r t a c=some y/\L u=L text++L y.Page.Text/\b=(y.Page.Count,u,true,OE a seq y))
  (λs i hi hs=>by
   have hx:=Ab hi;have hm:r[i]∈r:=AX hi;simp only[Gt,Hb,Ag hi,As,Aa]
   rcases hs with⟨rfl,hs⟩|⟨y,u,f1,f2,rfl⟩
   ·simp only[Ht,As,A0,hx,Aa];have d:(cond (r[i].Page.Kind !=2) (some true) (cond (r[i].Page.Tx !=t) (some true)<|cond (r[i].Page.Part !=a) (some true)<|cond (decide<|a>0) (some<|r[i].Page.Count !=c)<|some false):Option Bool)=some (!fV t a c r[i]):=by grind [fV]
    rw[d,Aa,ad1]
    cases hM:fV t a c r[i]with
    |false=>
     grind
    |true=>
     have g:=hr.text _ hm;rw[Kj _ _<|by omega];have hf:Yz r t a c=some r[i]:=dI r _ (λj x hj e=>hs j x hj e) hx hM
     grind [Ow,OE]
   grind)
  (λs hs=>by
   refine⟨s,by grind [Hb,Gt],?_⟩
   rcases hs with⟨rfl,hs⟩|hs
   ·exact .inl ⟨rfl,dH r _ λj x hx=>hs j x (Ad.1 hx).1 hx⟩
   exact .inr hs) (s:=(c,text,false,seq)) (.inl ⟨rfl,λj x hj=>by omega⟩)
 have h1':Ah (λs:Int×ByteArray×Bool×Int×Int=>Gt r t a s.1 s.2.1 s.2.2.1 s.2.2.2.1 s.2.2.2.2) (c,text,false,0,seq)=some b:=h1;rw[h1']
 rcases h2 with⟨rfl,h2⟩|⟨y,u,f1,f2,rfl⟩
 ·rw[h2];simp
 simp_all
def parts (r:List Ay) (t:Int):Nat->Int->Int->List UInt8->Int->Option (List UInt8×Int)
 |0,_,_,_,_=>none
 |n+1,a,c,b,seq=>if a=0\/a<c then(match Yz r t a c with
  |none=>none
  |some y=>parts r t n (a+1) y.Page.Count (b++L y.Page.Text) (OE a seq y))else some (b,seq)
theorem c7 {t a b:Int} (h:fV t a b y=true) (hp:0<a):y.Page.Count=b:=by grind [fV]
theorem SY {r:List Ay} {t a b:Int} (h:Yz r t a b=some y):y∈r/\fV t a b y=true:=⟨List.mem_of_find?_eq_some h,List.find?_some h⟩
theorem Yg (r:List Ay) (hr:FQ r) (t:Int):∀(n:Nat) (a cnt:Int) (text:ByteArray) (seq:Int),a+n=11->0<=a->(a=0\/(a<=cnt/\cnt<=9))->(L text).length<=90*a.toNat->
  ∃b,Ah (λs:Int×ByteArray×Int×Int=>KS r t s.1 s.2.1 s.2.2.1 s.2.2.2) (cnt,text,a,seq)=some b/\(match parts r t n a cnt (L text) seq with
   |none=>∃q,b= .inr (Tx.mk t q [],false)
   |some (x,q)=>∃u,b= .inl (u,q)/\L u=x/\(L u).length<=1000)
 |0,a,cnt,text,seq,hn,h0,hc,ht=>by omega
 |n+1,a,cnt,text,seq,hn,h0,hc,ht=>by
  rw[A5];simp only[KS,parts];have c:(cond (a==0) (some true) (some (decide (a<cnt))):Option Bool)=some (decide (a=0\/a<cnt)):=by grind
  rw[c];simp only[Aa];by_cases e:a=0\/a<cnt
  ·rw[Ag e,Bw e];obtain⟨text2,h1,h2⟩:=iM r hr t a cnt h0 text (by omega) seq;rw[h1]
   cases hf:Yz r t a cnt with
   |none=>simp
   |some y=>
    simp only[Aa,A9,Ae];have hy:=SY hf;have hL:=h2 y hf;have d:=hr.text y hy.1;have f:=hr.cnt y hy.1;rw[Cq,<-hL];refine Yg r hr t n (a+1) y.Page.Count text2 _ (by omega) (by omega) (.inr ?_) ?_
    ·grind [c7]
    grind
  simp_all [Bm];grind
noncomputable def TL (r:List Ay) (t:Int):Option Tx:=match parts r t 11 0 0 [] 0 with
 |none=>none
 |some (x,q)=>(gW (bs x)).map λl=>Tx.mk t q l
theorem rC (u:ByteArray):bs (L u)=u:=dQ<|by rw[T3]
theorem UG (r:List Ay) (hr:FQ r) (t:Int):∃x ok,RA r t=some (x,ok)/\TL r t=(if ok=true then some x else none)/\x.Recs.length<=20000:=by
 obtain⟨b,h1,h2⟩:=Yg r hr t 11 0 0 (bs []) 0 (by omega) (by omega) (.inl rfl) (by rw[T3];simp);rw[T3]at h2;unfold RA TL;rw[h1];simp only[Aa]
 cases hp:parts r t 11 0 0 [] 0 with
 |none=>grind
 |some w=>
  obtain⟨x,q⟩:=w;rw[hp]at h2;obtain⟨u,rfl,rfl,h4⟩:=h2;simp only[DD];obtain⟨l,ok,r1,r2,r3⟩:=Tz u (by omega);simp_all [rC];grind
end Go.TI
