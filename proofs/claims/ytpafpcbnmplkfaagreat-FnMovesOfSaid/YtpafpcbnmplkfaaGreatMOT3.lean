/- What walks of Go code need. No condition. -/
import Derived.Test.YtpafpcbnmplkfaaGreatMOT2
import Derived.KernelRfl
import Derived.Laws.StructEq
import Derived.Laws.Strings
import Derived.Laws.BitsLemmas
set_option linter.unusedVariables false
set_option linter.unusedSimpArgs false
namespace Go.TI
open Go Go.RowKit
def le1 (t t':TV):Prop:=t=t'\/∃e sz cells cells',t= .sl true e sz cells/\BK cells=cells'/\t'= .sl false e sz cells'
def les:List TV->List TV->Prop
 |[],ts'=>ts'=[]
 |t::ts,ts'=>∃x xs,ts'=x::xs/\le1 t x/\les ts xs
mutual
def Zm:SV->SV->Prop
 | .one t,s'=>∃t',s'= .one t'/\le1 t t'
 | .agg cs,s'=>∃cs',s'= .agg cs'/\les cs cs'
 | .tup ss,s'=>∃ss',s'= .tup ss'/\R7 ss ss'
def R7:List SV->List SV->Prop
 |[],ss'=>ss'=[]
 |s::ss,ss'=>∃x xs,ss'=x::xs/\Zm s x/\R7 ss xs
end
theorem AEJ {t:TV}:le1 t t:= .inl rfl
theorem AEI:∀{ts:List TV},les ts ts
 |[]=>rfl
 |t::ts=>⟨t,ts,rfl,AEJ,AEI⟩
theorem les.c {t x:TV} {ts xs:List TV} (h:le1 t x) (k:les ts xs):les (t::ts) (x::xs):=⟨x,xs,rfl,h,k⟩
theorem le1.s {e sz:Nat} {cells cells':List TV} (h:BK cells=cells'):le1 (.sl true e sz cells) (.sl false e sz cells'):= .inr ⟨e,sz,cells,cells',rfl,h,rfl⟩
mutual
theorem AFA:∀{s:SV},Zm s s
 | .one t=>⟨t,rfl,AEJ⟩
 | .agg cs=>⟨cs,rfl,AEI⟩
 | .tup ss=>⟨ss,rfl,AAq⟩
theorem AAq:∀{ss:List SV},R7 ss ss
 |[]=>rfl
 |s::ss=>⟨s,ss,rfl,AFA,AAq⟩
end
theorem AG1 {cs cs':List TV} (h:les cs cs'):Zm (.agg cs) (.agg cs'):=⟨cs',rfl,h⟩
theorem Zm.o {t t':TV} (h:le1 t t'):Zm (.one t) (.one t'):=⟨t',rfl,h⟩
theorem AG0 {ss ss':List SV} (h:R7 ss ss'):Zm (.tup ss) (.tup ss'):=⟨ss',rfl,h⟩
theorem R7.c {s x:SV} {ss xs:List SV} (h:Zm s x) (k:R7 ss xs):R7 (s::ss) (x::xs):=⟨x,xs,rfl,h,k⟩
def I2 (F U F' U':List Nat):Prop:=F'.Sublist F/\∀b∈U',b∈U\/(b∈F/\b∉F')
theorem QT {F1 F2 U1 U2 F1' F2' U1' U2':List Nat} (hd:(F1++F2).Nodup) (h:I2 F1 U1 F1' U1') (k:I2 F2 U2 F2' U2'):I2 (F1++F2) (U1++U2) (F1'++F2') (U1'++U2'):=by
 obtain⟨_,_,hd⟩:=Bs.1 hd;refine⟨h.1.append k.1,λb hb=>?_⟩
 rcases Ak.1 hb with hb|hb
 ·rcases h.2 b hb with q|⟨q1,q2⟩
  ·exact .inl (by simp [q])
  refine .inr ⟨by simp [q1],λhc=>?_⟩
  rcases Ak.1 hc with hc|hc
  ·exact q2 hc
  exact hd b q1 b (k.1.subset hc) rfl
 rcases k.2 b hb with q|⟨q1,q2⟩
 ·exact .inl (by simp [q])
 refine .inr ⟨by simp [q1],λhc=>?_⟩
 rcases Ak.1 hc with hc|hc
 ·exact hd b (h.1.subset hc) b q1 rfl
 exact q2 hc
theorem I2.refl {F U:List Nat}:I2 F U F U:=⟨List.Sublist.refl _,λb hb=> .inl hb⟩
theorem AE9 {w:World} {t t':TV} {v:Value} {F U:List Nat} (h:CB w t v F U) (k:le1 t t'):∃F' U',CB w t' v F' U'/\I2 F U F' U':=by
 rcases k with rfl|⟨e,sz,cells,cells',rfl,rfl,rfl⟩
 ·exact⟨F,U,h,I2.refl⟩
 obtain⟨U',h1,h2⟩:=QJ h;exact⟨[],U',h1,List.nil_sublist _,λb hb=>(h2 b hb).elim (λq=> .inr ⟨q,by simp⟩) .inl⟩
section
variable {N:Nat} {E:St} {P:Program} {ops:Array Oper} {oo:Oper} {rest:List Oper} {Q:Exit->St->Prop} {α β:Type} {rr:β}
end
end Go.TI
namespace Go.TI
open Go Go.RowKit
def oA (ops:Array Oper) (i:Nat):Oper:=match ops[i]? with
 |some o=>o
 | none => { dst := none, op := .load 0 (.tmp 0), type := 0, pos := "", after := #[], guard := none }
theorem Io {ops:Array Oper} {i:Nat} (h:Nat.blt i ops.size=true):ops[i]?=some (oA ops i):=by
 have:i<ops.size:=by simpa [Bz]using h
 unfold oA;rw [Array.getElem?_eq_getElem this]
theorem KU {ops:Array Oper} {i:Nat} (h:Nat.blt i ops.size=true):ops.toList.drop i=oA ops i::ops.toList.drop (i+1):=by
 have hi:i<ops.toList.length:=by simpa [Bz]using h
 have h1:=Io h;rw [<-Array.getElem?_toList,Ab hi]at h1
 injection h1 with h1
 rw [Bh hi,h1]
def VR (P:Program) (ops:Array Oper) (E:St) (i:Nat):Bool:=Nat.blt i ops.size&&(match B7 P ops E (oA ops i)with|some b=>b|none=>false)
theorem IS {P:Program} {ops:Array Oper} {E:St} {i:Nat} (h:VR P ops E i=true):Nat.blt i ops.size=true/\B7 P ops E (oA ops i)=some true:=by
 simp only [VR,An]at h;refine⟨h.1,?_⟩;have h2:=h.2;split at h2
 ·rename_i b hb;rw [hb,h2]
 cases h2
def Hx (N:Nat) (o:Oper):Bool:=match o.dst with
 |some d=>Nat.blt d N
 |none=>false
theorem Gg {N:Nat} {o:Oper} (h:Hx N o=true):∃d,o.dst=some d/\Nat.blt d N=true/\d<N:=by
 unfold Hx at h;split at h
 ·rename_i d hd;exact⟨d,hd,h,by simpa [Bz]using h⟩
 cases h
def ABG (P:Program) (N:Nat) (ops:Array Oper) (mv:Bool) (E:St) (i:Nat):Option St:=bif Nat.blt i ops.size then
  match B7 P ops E (oA ops i)with
  |some true=>C7 P N mv E (oA ops i)
  |some false=>bif Hx N (oA ops i)then some (E.put (oA ops i).dst (.tup []))else none
  |none=>none
 else none
def qG (P:Program) (N:Nat) (ops:Array Oper):Nat->Nat->Nat->St->Option St
 |0,_,_,E=>some E
 |k+1,m,i,E=>match ABG P N ops (Nat.beq (m %2) 1) E i with
  |some E'=>qG P N ops k (m/2) (i+1) E'
  |none=>none
def AE6 (P:Program) (N:Nat) (ops:Array Oper) (k m i:Nat) (E:St):St:=(qG P N ops k m i E).getD E
theorem getD_some {α:Type _} {x:Option α} {a:α} (h:x.isSome=true):x=some (x.getD a):=by
 cases x with
 |none=>cases h
 |some y=>rfl
def RW (P:Program) (N:Nat) (ops:Array Oper) (i:Nat) (E:St) (Q:Exit->St->Prop):Prop:=AC P N ops (ops.toList.drop i) E Q
def SW (P:Program) (N:Nat) (ops:Array Oper) (m i:Nat) (E:St) (K:St->Prop):Prop:=HW P N ops ((ops.toList.take m).drop i) E K
section
variable {P:Program} {N:Nat} {E:St} {ops:Array Oper} {i m:Nat} {Q:Exit->St->Prop} {K:St->Prop} {α β:Type} {r:β}
theorem bd {x:Option α} {k:α->Option β} {G:Prop} (h:x.bind k=some r) (hk:∀a,x=some a->k a=some r->G):G:=by
 obtain⟨a,ha,h⟩:=Ar.1 h;exact hk a ha h
theorem RW.nil (h:Q .normal E) (hi:Nat.ble ops.size i=true:=by kernel_rfl):RW P N ops i E Q:=by
 have:ops.size<=i:=by simpa [Rs]using hi
 unfold RW;rw [CP (by simpa using this)];exact AC.nil h
theorem CM {mv:Bool} {E':St} (hs:C7 P N mv E (oA ops i)=some E') (h:RW P N ops (i+1) E' Q) (hk:VR P ops E i=true:=by kernel_rfl):RW P N ops i E Q:=by
 obtain⟨h1,h2⟩:=IS hk;unfold RW;rw [KU h1];exact AC.op mv h2 hs h
theorem RW.st {E':St} {mv:Bool} (hs:ABG P N ops mv E i=some E') (h:RW P N ops (i+1) E' Q):RW P N ops i E Q:=by
 unfold ABG at hs
 cases hi:Nat.blt i ops.size with
 |false=>rw [hi]at hs;cases hs
 |true=>
  rw [hi]at hs;simp only [Ae]at hs;unfold RW;rw [KU hi];split at hs
  ·rename_i hg;exact AC.op mv hg hs h
  ·rename_i hg
   cases hd:Hx N (oA ops i)with
   |false=>rw [hd]at hs;cases hs
   |true=>
    rw [hd]at hs;simp only [Ae]at hs
    injection hs with hs
    subst hs;obtain⟨d,h1,_,h2⟩:=Gg hd;rw [h1]at h;exact tM h1 h2 hg h
  cases hs
theorem RW.run:∀{k m i:Nat} {E E':St},qG P N ops k m i E=some E'->RW P N ops (i+k) E' Q->RW P N ops i E Q
 |0,m,i,E,E',h,hw=>by
  simp only [qG]at h
  injection h with h
  subst h;exact hw
 |k+1,m,i,E,E',h,hw=>by
  simp only [qG]at h;split at h
  ·rename_i E1 h1;exact RW.st h1 (RW.run h (by rw [F7,Na 1 k];exact hw))
  cases h
theorem Ai (k m:Nat) (h:RW P N ops (i+k) (AE6 P N ops k m i E) Q) (hk:(qG P N ops k m i E).isSome=true:=by kernel_rfl):RW P N ops i E Q:=RW.run (getD_some hk) h
def qok (P:Program) (N:Nat) (ops:Array Oper) (i:Nat) (E:St):Bool:=VR P ops E i&&pk (oA ops i)&&Hx N (oA ops i)
theorem vU (h:qok P N ops i E=true):VR P ops E i=true/\pk (oA ops i)=true/\∃d,(oA ops i).dst=some d/\Nat.blt d N=true/\d<N:=by
 simp only [qok,An]at h;exact⟨h.1.1,h.1.2,Gg h.2⟩
theorem RW.q {s:SV} (hp:Bl P E (oA ops i)=some s) (h:RW P N ops (i+1) (E.put (oA ops i).dst s) Q) (hk:qok P N ops i E=true:=by kernel_rfl):RW P N ops i E Q:=by
 obtain⟨h1,h2,d,h3,h4,_⟩:=vU hk;rw [h3]at h;exact CM (fQ hp h3 h4 h2) h h1
theorem AM {tx ty:Option β} {b:Bool} (t:Nat) (h:(bif b then tx else ty)=some r) (ht:tx=some r->RW P N ops i (E.rs t true) Q) (hf:ty=some r->RW P N ops i (E.rs t false) Q) (hc:E.slots t=B b:=by kernel_rfl):RW P N ops i E Q:=Zu h t ht hf hc
theorem Pr (h:Nat.blt i ops.size=true) (hm:Nat.blt i m=true):(ops.toList.take m).drop i=oA ops i::(ops.toList.take m).drop (i+1):=by
 have hi:i<ops.size:=by simpa [Bz]using h
 have a:i<m:=by simpa [Bz]using hm
 have hl:i<(ops.toList.take m).length:=by simp;omega
 have h1:=Io h;rw [Bh hl];congr 1;rw [EK];rw [<-Array.getElem?_toList,Ab (by simpa using hi)]at h1;injection h1
theorem SW.nil (h:K E) (hi:(Nat.ble ops.size i||Nat.ble m i)=true:=by kernel_rfl):SW P N ops m i E K:=by
 unfold SW
 rw [CP (by
  rw [CN]at hi
  rcases hi with hi|hi
  ·have:ops.size<=i:=by simpa [Rs]using hi
   simp;omega
  have:m<=i:=by simpa [Rs]using hi
  simp;omega)]
 exact HW.nil h
def uF (P:Program) (N:Nat) (ops:Array Oper) (m:Nat) (E:St) (i:Nat):Option St:=bif Nat.blt i ops.size&&Nat.blt i m&&Hx N (oA ops i)then
  match B7 P ops E (oA ops i)with
  |some true=>match IM P E (oA ops i)with
   |some s=>some (E.put (oA ops i).dst s)
   |none=>none
  |some false=>some (E.put (oA ops i).dst (.tup []))
  |none=>none
 else none
def c8 (P:Program) (N:Nat) (ops:Array Oper) (m:Nat):Nat->Nat->St->Option St
 |0,_,E=>some E
 |k+1,i,E=>match uF P N ops m E i with
  |some E'=>c8 P N ops m k (i+1) E'
  |none=>none
theorem SW.st {E':St} (hs:uF P N ops m E i=some E') (h:SW P N ops m (i+1) E' K):SW P N ops m i E K:=by
 unfold uF at hs
 cases hb:(Nat.blt i ops.size&&Nat.blt i m&&Hx N (oA ops i))with
 |false=>rw [hb]at hs;cases hs
 |true=>
  rw [hb]at hs;simp only [Ae]at hs;simp only [An]at hb;obtain⟨d,h1,_,h2⟩:=Gg hb.2;unfold SW;rw [Pr hb.1.1 hb.1.2];split at hs
  ·rename_i hg;split at hs
   ·rename_i s a
    injection hs with hs
    subst hs;rw [h1]at h;exact HW.op s hg h1 h2 a h
   cases hs
  ·rename_i hg
   injection hs with hs
   subst hs;rw [h1]at h;exact ADd h1 h2 hg h
  cases hs
theorem SW.run:∀{k i:Nat} {E E':St},c8 P N ops m k i E=some E'->SW P N ops m (i+k) E' K->SW P N ops m i E K
 |0,i,E,E',h,hw=>by
  simp only [c8]at h
  injection h with h
  subst h;exact hw
 |k+1,i,E,E',h,hw=>by
  simp only [c8]at h;split at h
  ·rename_i E1 h1;exact SW.st h1 (SW.run h (by rw [F7,Na 1 k];exact hw))
  cases h
theorem DI (k:Nat) (h:SW P N ops m (i+k) ((c8 P N ops m k i E).getD E) K) (hk:(c8 P N ops m k i E).isSome=true:=by kernel_rfl):SW P N ops m i E K:=SW.run (getD_some hk) h
theorem SW.q {s:SV} (hp:Bl P E (oA ops i)=some s) (h:SW P N ops m (i+1) (E.put (oA ops i).dst s) K) (hk:(qok P N ops i E&&Nat.blt i m)=true:=by kernel_rfl):SW P N ops m i E K:=by
 rw [An]at hk;obtain⟨h1,h2,d,h3,h4,h5⟩:=vU hk.1;obtain⟨h6,h7⟩:=IS h1;rw [h3]at h;unfold SW;rw [Pr h6 hk.2];exact HW.op s h7 h3 h5 (zD hp h2) h
theorem fB {tx ty:Option β} {b:Bool} (t:Nat) (h:(bif b then tx else ty)=some r) (ht:tx=some r->SW P N ops m i (E.rs t true) K) (hf:ty=some r->SW P N ops m i (E.rs t false) K) (hc:E.slots t=B b:=by kernel_rfl):SW P N ops m i E K:=AFz h t ht hf hc
def lsd (n:Nat):List Nat->Array Bool
 |[]=>Array.replicate n false
 |i::l=>(lsd n l).setIfInBounds i true
def KW (P:Program) (N:Nat) (ops:Array Oper) (ts:List Nat) (dn:List Nat) (E:St) (Q:Exit->St->Prop):Prop:=Vm P N ops ts (ops.size-dn.length) (lsd ops.size dn) E Q
def KB (P:Program) (N:Nat) (ops:Array Oper) (ts:List Nat) (dn:List Nat) (i:Nat) (E:St) (Q:Exit->St->Prop):Prop:=fG P N ops ts i E (λE'=>KW P N ops ts (i::dn) E' Q) Q
variable {ts dn:List Nat}
theorem Bg (h:Q .normal E) (hr:(Region.ready .any ops (lsd ops.size dn)).isEmpty=true:=by kernel_rfl):KW P N ops ts dn E Q:=ADi h (by simpa using hr)
def rdy (ops:Array Oper) (dn l:List Nat):Bool:=(Region.ready .any ops (lsd ops.size dn)==l)&&Nat.blt dn.length ops.size
theorem Ta (h:Nat.blt dn.length ops.size=true):ops.size-dn.length=(ops.size-(i::dn).length)+1:=by
 have:dn.length<ops.size:=by simpa [Bz]using h
 simp only [Ay];omega
theorem KW.all (l:List Nat) (h:∀i∈l,KB P N ops ts dn i E Q) (a:l≠ []) (hr:rdy ops dn l=true):KW P N ops ts dn E Q:=by
 simp only [rdy,An,Ci]at hr;unfold KW;rw [Ta (i:=0) hr.2];exact Vm.all l (λi hi=>h i hi) hr.1 a
theorem Br (i:Nat) (h:KB P N ops ts dn i E Q) (hr:rdy ops dn [i]=true:=by kernel_rfl):KW P N ops ts dn E Q:=KW.all [i] (λj hj=>by simp only [A3]at hj;subst hj;exact h) (by simp) hr
theorem Dq (i j:Nat) (h:KB P N ops ts dn i E Q) (h2:KB P N ops ts dn j E Q) (hr:rdy ops dn [i,j]=true:=by kernel_rfl):KW P N ops ts dn E Q:=KW.all [i,j] (λm hm=>by
 simp only [By,List.not_mem_nil,or_false]at hm
 rcases hm with rfl|rfl<;>assumption) (by simp) hr
theorem Vn (i j k:Nat) (h:KB P N ops ts dn i E Q) (h2:KB P N ops ts dn j E Q) (h3:KB P N ops ts dn k E Q) (hr:rdy ops dn [i,j,k]=true:=by kernel_rfl):KW P N ops ts dn E Q:=KW.all [i,j,k] (λm hm=>by
 simp only [By,List.not_mem_nil,or_false]at hm
 rcases hm with rfl|rfl|rfl<;>assumption) (by simp) hr
theorem AEX (i j k l:Nat) (h:KB P N ops ts dn i E Q) (h2:KB P N ops ts dn j E Q) (h3:KB P N ops ts dn k E Q) (h4:KB P N ops ts dn l E Q) (hr:rdy ops dn [i,j,k,l]=true:=by kernel_rfl):KW P N ops ts dn E Q:=KW.all [i,j,k,l] (λm hm=>by
 simp only [By,List.not_mem_nil,or_false]at hm
 rcases hm with rfl|rfl|rfl|rfl<;>assumption) (by simp) hr
theorem Lz {mv:Bool} {E':St} (hs:C7 P N mv E (oA ops i)=some E') (h:KW P N ops ts (i::dn) E' Q) (hk:(VR P ops E i&&(kp (oA ops i)||ts.contains i))=true:=by kernel_rfl):KB P N ops ts dn i E Q:=by
 rw [An]at hk;obtain⟨h1,h2⟩:=IS hk.1;exact fG.op i mv h hs (Io h1) h2 hk.2
theorem KB.q {s:SV} (hp:Bl P E (oA ops i)=some s) (h:KW P N ops ts (i::dn) (E.put (oA ops i).dst s) Q) (hk:(qok P N ops i E&&(kp (oA ops i)||ts.contains i))=true:=by kernel_rfl):KB P N ops ts dn i E Q:=by
 rw [An]at hk;obtain⟨h1,h2,d,h3,h4,h5⟩:=vU hk.1;rw [h3]at h;exact Lz (fQ hp h3 h4 h2) h (by rw [h1,hk.2];rfl)
def tX (ops:Array Oper) (ts dn:List Nat) (i:Nat):Bool:=Nat.blt dn.length ops.size&&Rd ops ts ops.size i (lsd ops.size dn)
theorem AFK {s:SV} (i:Nat) (hp:IM P E (oA ops i)=some s) (h:KW P N ops ts (i::dn) (E.put (oA ops i).dst s) Q) (hk:(VR P ops E i&&Hx N (oA ops i)&&tX ops ts dn i)=true):KW P N ops ts dn E Q:=by
 simp only [An,tX]at hk;obtain⟨⟨h1,h2⟩,h3,h4⟩:=hk;obtain⟨h5,h6⟩:=IS h1;obtain⟨d,h7,h8,_⟩:=Gg h2;unfold KW at h⊢;rw [Ta (i:=i) h3];rw [h7]at h;exact Vm.take ops.size i d s h hp (Io h5) h4 h6 h7 h8
theorem KW.q {s:SV} (i:Nat) (hp:Bl P E (oA ops i)=some s) (h:KW P N ops ts (i::dn) (E.put (oA ops i).dst s) Q) (hk:(qok P N ops i E&&tX ops ts dn i)=true:=by kernel_rfl):KW P N ops ts dn E Q:=by
 rw [An]at hk;have h0:=hk.1;simp only [qok,An]at h0;exact AFK i (zD hp h0.1.2) h (by rw [h0.1.1,h0.2,hk.2];rfl)
theorem AGp (i:Nat) (h:KW P N ops ts (i::dn) (E.put (oA ops i).dst (.tup [])) Q) (hg:B7 P ops E (oA ops i)=some false) (hk:(Nat.blt i ops.size&&Hx N (oA ops i)&&tX ops ts dn i)=true):KW P N ops ts dn E Q:=by
 simp only [An,tX]at hk;obtain⟨⟨h1,h2⟩,h3,h4⟩:=hk;obtain⟨d,h7,h8,_⟩:=Gg h2;unfold KW at h⊢;rw [Ta (i:=i) h3];rw [h7]at h;exact nI ops.size i d h (Io h1) h4 hg h7 h8
def ACy (P:Program) (N:Nat) (ops:Array Oper) (ts:List Nat) (mv:Bool) (dn:List Nat) (E:St) (i:Nat):Option St:=match B7 P ops E (oA ops i)with
 |some false=>bif Nat.blt i ops.size&&Hx N (oA ops i)&&tX ops ts dn i then some (E.put (oA ops i).dst (.tup []))else none
 |some true=>bif Nat.blt i ops.size&&Hx N (oA ops i)&&tX ops ts dn i&&!mv then
   (match IM P E (oA ops i)with
   |some s=>some (E.put (oA ops i).dst s)
   |none=>bif rdy ops dn [i]&&(kp (oA ops i)||ts.contains i)then C7 P N mv E (oA ops i)else none)
  else bif Nat.blt i ops.size&&rdy ops dn [i]&&(kp (oA ops i)||ts.contains i)then C7 P N mv E (oA ops i)else none
 |none=>none
def AAZ (P:Program) (N:Nat) (ops:Array Oper) (ts:List Nat):List Nat->Nat->List Nat->St->Option St
 |[],_,_,E=>some E
 |i::l,m,dn,E=>match ACy P N ops ts (Nat.beq (m %2) 1) dn E i with
  |some E'=>AAZ P N ops ts l (m/2) (i::dn) E'
  |none=>none
def kA:List Nat->List Nat->List Nat
 |[],dn=>dn
 |i::l,dn=>kA l (i::dn)
theorem KW.st {i:Nat} {mv:Bool} {E':St} (hs:ACy P N ops ts mv dn E i=some E') (h:KW P N ops ts (i::dn) E' Q):KW P N ops ts dn E Q:=by
 unfold ACy at hs;split at hs
 ·rename_i hg
  cases hb:(Nat.blt i ops.size&&Hx N (oA ops i)&&tX ops ts dn i)with
  |false=>rw [hb]at hs;cases hs
  |true=>
   rw [hb]at hs;simp only [Ae]at hs
   injection hs with hs
   subst hs;exact AGp i h hg hb
 ·rename_i hg;have one:(Nat.blt i ops.size&&rdy ops dn [i]&&(kp (oA ops i)||ts.contains i))=true->C7 P N mv E (oA ops i)=some E'->KW P N ops ts dn E Q:=by
   intro hb hs;simp only [An]at hb;refine Br i (Lz hs h ?_) hb.1.2;simp only [VR,hb.1.1,hg,hb.2,Jr]
  cases hb:(Nat.blt i ops.size&&Hx N (oA ops i)&&tX ops ts dn i&&!mv)with
  |false=>
   rw [hb]at hs;simp only [Ac]at hs
   cases a:(Nat.blt i ops.size&&rdy ops dn [i]&&(kp (oA ops i)||ts.contains i))with
   |false=>rw [a]at hs;cases hs
   |true=>rw [a]at hs;exact one a hs
  |true=>
   rw [hb]at hs;simp only [Ae]at hs;simp only [An]at hb;split at hs
   ·rename_i s b
    injection hs with hs
    subst hs;refine AFK i b h ?_;simp only [VR,hb.1.1.1,hb.1.1.2,hb.1.2,hg,Jr]
   cases a:(rdy ops dn [i]&&(kp (oA ops i)||ts.contains i))with
   |false=>rw [a]at hs;cases hs
   |true=>rw [a]at hs;exact one (by rw [hb.1.1.1,C8];exact a) hs
 cases hs
theorem KW.run:∀{l:List Nat} {m:Nat} {dn:List Nat} {E E':St},AAZ P N ops ts l m dn E=some E'->KW P N ops ts (kA l dn) E' Q->KW P N ops ts dn E Q
 |[],m,dn,E,E',h,hw=>by
  simp only [AAZ]at h
  injection h with h
  subst h;exact hw
 |i::l,m,dn,E,E',h,hw=>by
  simp only [AAZ]at h;split at h
  ·rename_i E1 h1;exact KW.st h1 (KW.run h hw)
  cases h
theorem Bn (l:List Nat) (m:Nat) (h:KW P N ops ts (kA l dn) ((AAZ P N ops ts l m dn E).getD E) Q) (hk:(AAZ P N ops ts l m dn E).isSome=true:=by kernel_rfl):KW P N ops ts dn E Q:=KW.run (getD_some hk) h
theorem Vo {tx ty:Option β} {b:Bool} (t:Nat) (h:(bif b then tx else ty)=some r) (ht:tx=some r->KW P N ops ts dn (E.rs t true) Q) (hf:ty=some r->KW P N ops ts dn (E.rs t false) Q) (hc:E.slots t=B b:=by kernel_rfl):KW P N ops ts dn E Q:=AFJ h t ht hf hc
theorem Au {id:Nat} (h:RW P N ops 0 E Q):Wp P N (.region id ops false) E Q:=by
 have:=Wp.region (id:=id) (l:=ops.toList) (P:=P) (N:=N) (E:=E) (Q:=Q) (by simpa [RW]using h);simpa using this
theorem Lw {id:Nat} (hm:P.follows .mixedOrders=true) (h:SW P N ops ops.size 0 E (λE'=>Q .normal E')) (hB:Region.lexB .any ops=true:=by kernel_rfl):Wp P N (.region id ops true) E Q:=by
 have:=So (id:=id) (l:=ops.toList) (P:=P) (N:=N) (E:=E) (Q:=Q) hm (by simpa using hB) (by
  have h2:=h;unfold SW at h2;rw [Bb (by simp)]at h2
  simpa using h2)
 simpa using this
theorem Vh {id:Nat} (n:Nat) (hm:P.follows .mixedOrders=true) (h:SW P N ops n 0 E (λE'=>RW P N ops n E' Q)) (hB:Region.lexTailB .any ops n=true:=by kernel_rfl):Wp P N (.region id ops true) E Q:=by
 have:=xZ (id:=id) (l:=ops.toList) (P:=P) (N:=N) (E:=E) (Q:=Q) n hm (by simpa using hB) (by simpa [SW,RW]using h);simpa using this
theorem DM {id:Nat} (ts:List Nat) (hm:P.follows .mixedOrders=true) (hQ:∀c E,Q (.panic c) E->False) (h:KW P N ops ts [] E Q):Wp P N (.region id ops true) E Q:=
 yA ops.size ts hm hQ (by simpa [KW,lsd]using h) rfl
end
end Go.TI
namespace Go.TI
open Go Go.RowKit
def dN (E:St) (x:Operand) (sz:Nat):Option (List TV):=match E.ref x with
 |some (r,q,j)=>match E.place r q j with
  |some (.sl _ _ s cells)=>bif Nat.beq s sz then some cells else none
  |_=>none
 |none=>none
theorem OS {E:St} {x:Operand} {sz:Nat} {cells:List TV} (h:dN E x sz=some cells):∃r q j own e,E.ref x=some (r,q,j)/\E.place r q j=some (.sl own e sz cells):=by
 unfold dN at h;split at h
 ·rename_i r q j hr;split at h
  ·rename_i own e s cells' hp
   cases hs:Nat.beq s sz with
   |false=>rw [hs]at h;cases h
   |true=>
    rw [hs]at h;simp only [Ae]at h
    injection h with h
    have:=B5 hs;subst h this;exact⟨r,q,j,own,e,hr,hp⟩
  cases h
 cases h
def YW (P:Program) (t:TypeId):TypeId:=match P.underlying t with
 |some (.slice e)=>e
 |_=>0
def Vt (P:Program) (t:TypeId) (sz:Nat):Bool:=match P.underlying t with
 |some (.slice e)=>Nat.beq (P.cellsOf e) sz&&Nat.blt 0 sz
 |_=>false
theorem LM {P:Program} {t:TypeId} {sz:Nat} (h:Vt P t sz=true):∃e,P.underlying t=some (.slice e)/\P.cellsOf e=sz/\Nat.blt 0 sz=true:=by
 unfold Vt at h;split at h
 ·rename_i e he;rw [An]at h;exact⟨e,he,B5 h.1,h.2⟩
 cases h
def GZ (E:St) (x:Operand):Root×List Nat×Nat:=(E.ptr? x).getD (.hand,[],0)
def Kf (E:St) (x:Operand):Root×List Nat×Nat:=(E.ref x).getD (.hand,[],0)
def Qf (E:St) (x:Operand):Option (List TV×Nat):=match E.ptr? x with
 |some (r,q,j)=>match(E.root r).bind λcs=>BY cs q with
  |some row=>some (row,j)
  |none=>none
 |none=>none
theorem Qe {E:St} {x:Operand} {row:List TV} {j:Nat} (h:Qf E x=some (row,j)):E.ptr? x=some ((GZ E x).1,(GZ E x).2.1,j)/\(E.root (GZ E x).1).bind (λcs=>BY cs (GZ E x).2.1)=some row:=by
 unfold Qf at h;split at h
 ·rename_i r q j' hp;split at h
  ·rename_i row' hr
   injection h with h
   injection h with h1 h2
   subst h1 h2;simp only [GZ,hp,Bc];exact⟨trivial,hr⟩
  cases h
 cases h
theorem AAJ {E:St} {x:Operand} {r:Root} {q:List Nat} {j:Nat} {row:List TV} (h1:E.ptr? x=some (r,q,j)) (h2:(E.root r).bind (λcs=>BY cs q)=some row):Qf E x=some (row,j):=by
 unfold Qf;rw [h1];simp only [h2]
section
variable {P:Program} {N:Nat} {E:St} {o:Oper} {α:Type} {f:α->List TV} {sz:Nat} {l:List α} {n:Int} {x:α}
def FG (o:Oper):TypeId×Operand×Operand:=match o.op with
 | .indexAddr t a i=>(t,a,i)
 |_=>(0,.tmp 0,.tmp 0)
def AA2 (o:Oper):Bool:=match o.op with
 | .indexAddr .. =>true
 |_=>false
theorem kO (h:AA2 o=true):o.op= .indexAddr (FG o).1 (FG o).2.1 (FG o).2.2:=by
 unfold AA2 at h;unfold FG;split at h
 ·rename_i h1;simp only [h1]
 cases h
def R1 (P:Program) (E:St) (x:Operand):Option Int:=match E.cell1 P 0 x with
 |some (.int _ n)=>some n
 |_=>none
theorem HO {x:Operand} (h:R1 P E x=some n):∃k,E.cell1 P 0 x=some (.int k n):=by
 unfold R1 at h;split at h
 ·rename_i k m hc
  injection h with h
  subst h;exact⟨k,hc⟩
 cases h
def ACA (P:Program) (E:St) (o:Oper) (sz:Nat):Option (List TV×Int):=bif AA2 o&&Vt P (FG o).1 sz then(match dN E (FG o).2.1 sz,R1 P E (FG o).2.2 with
 |some c,some n=>some (c,n)
 |_,_=>none)else none
def rE (E:St) (o:Oper) (m:Nat):SV:= .one (.ptr (Kf E (FG o).2.1).1 (E.ver (Kf E (FG o).2.1).1) ((Kf E (FG o).2.1).2.1++ [(Kf E (FG o).2.1).2.2]) m)
theorem Js (hf:∀x,(f x).length=sz) (hx:gi l n=some x) (hc:ACA P E o sz=some (AT f l,n):=by kernel_rfl):Bl P E o=some (rE E o (n.toNat*sz+0)):=by
 unfold ACA at hc
 cases hb:(AA2 o&&Vt P (FG o).1 sz)with
 |false=>rw [hb]at hc;cases hc
 |true=>
  rw [hb]at hc;simp only [Ae]at hc;rw [An]at hb;split at hc
  ·rename_i c n' h1 h2
   injection hc with hc
   injection hc with a b
   subst a b;obtain⟨r,q,j,own,e',h3,h4⟩:=OS h1;obtain⟨k,h5⟩:=HO h2;obtain⟨e,h6,h7,h8⟩:=LM hb.2;have:=AF6 hf r q j hx h4 (kO hb.1) h6 h5 h3 h7 h8;rw [this];simp only [rE,Kf,h3,Bc]
  cases hc
theorem AFc {α':Type} {f':α'->List TV} {sz':Nat} {l':List α'} {n':Int} {x':α'} (hf:∀x,(f x).length=sz) (hx:gi l n=some x) (hf':∀x,(f' x).length=sz') (hx':gi l' n'=some x') (k:Nat)
  (hi:(AA2 o&&Vt P (FG o).1 sz&&Nat.blt k sz')=true:=by kernel_rfl) (hn:R1 P E (FG o).2.2=some n:=by kernel_rfl)
  (hr:E.ref (FG o).2.1=some ((Kf E (FG o).2.1).1,(Kf E (FG o).2.1).2.1,n'.toNat*sz'+k):=by kernel_rfl) (hp:(E.root (Kf E (FG o).2.1).1).bind (λcs=>BY cs (Kf E (FG o).2.1).2.1)=some (AT f' l'):=by kernel_rfl)
  {own:Bool} {e':Nat} (hc:(f' x')[k]?=some (.sl own e' sz (AT f l)):=by rfl):Bl P E o=some (rE E o (n.toNat*sz+0)):=by
 simp only [An]at hi;obtain⟨k',h5⟩:=HO hn;obtain⟨e,h6,h7,h8⟩:=LM hi.1.2;have a:E.place (Kf E (FG o).2.1).1 (Kf E (FG o).2.1).2.1 (n'.toNat*sz'+k)=some (.sl own e' sz (AT f l)):=by
  obtain⟨cs,h1,h2⟩:=Ar.1 hp;simp only [St.place,h1,Aa,h2];rw [N2 hf' hx' (by simpa [Bz]using hi.2),hc]
 have:=AF6 hf _ _ _ hx a (kO hi.1.1) h6 h5 hr h7 h8;have hj:(Kf E (FG o).2.1).2.2=n'.toNat*sz'+k:=BH (λz:Option (Root×List Nat×Nat)=>(z.getD (Root.hand,[],0)).2.2) hr;rw [this,rE,hj]
theorem pr2 {α':Type} {f':α'->List TV} {sz':Nat} {l':List α'} {n':Int} {x':α'} {a:Operand} {row:List TV} {j:Nat} (q0:Nat) (hf':∀x,(f' x).length=sz') (hx':gi l' n'=some x') (k:Nat) (h1:E.ptr? a=some ((GZ E a).1,[q0,n'.toNat*sz'+k],j):=by kernel_rfl)
  (hc:(E.root (GZ E a).1).bind (λcs=>BY cs [q0])=some (AT f' l'):=by kernel_rfl) (b:BY (f' x') [k]=some row:=by kernel_rfl) (hk:Nat.blt k sz'=true:=by kernel_rfl):Qf E a=some (row,j):=by
 refine AAJ h1 ?_;obtain⟨cs,h2,h3⟩:=Ar.1 hc;have h4:=AAl hf' hx' (q:=[]) (show k<sz' by simpa [Bz]using hk);rw [h2];simp only [Aa];simp only [BY]at h3;split at h3
 ·rename_i o' e' s' cells c
  injection h3 with h3
  subst h3;simp only [BY,c];simp only [BY]at h4 b;rw [h4];exact b
 cases h3
def Qx (o:Oper):TypeId×Operand×Nat:=match o.op with
 | .fieldAddr t a i=>(t,a,i)
 |_=>(0,.tmp 0,0)
def AFo (o:Oper):Bool:=match o.op with
 | .fieldAddr .. =>true
 |_=>false
theorem AD2 (h:AFo o=true):o.op= .fieldAddr (Qx o).1 (Qx o).2.1 (Qx o).2.2:=by
 unfold AFo at h;unfold Qx;split at h
 ·rename_i h1;simp only [h1]
 cases h
def AEO (P:Program) (o:Oper):Option Nat:=match P.underlying (Qx o).1 with
 |some (.struct fs)=>match fs[(Qx o).2.2]? with
  |some fd=>bif Nat.beq (P.cellsOf fd.type) 0 then none else some fd.offset
  |none=>none
 |_=>none
def AGj (E:St) (o:Oper) (m:Nat):SV:= .one (.ptr (GZ E (Qx o).2.1).1 (E.stamp (GZ E (Qx o).2.1).1 (GZ E (Qx o).2.1).2.1) (GZ E (Qx o).2.1).2.1 m)
theorem DH (hf:∀x,(f x).length=sz) (hx:gi l n=some x) (k m:Nat) (hr:Qf E (Qx o).2.1=some (AT f l,n.toNat*sz+k):=by kernel_rfl) (ho:(AFo o&&Nat.blt m sz)=true:=by kernel_rfl) (a:AEO P o=some (m-k):=by kernel_rfl) (b:Nat.ble k m=true:=by kernel_rfl):Bl P E o=some (AGj E o (n.toNat*sz+m)):=by
 rw [An]at ho;obtain⟨h1,h2⟩:=Qe hr;have d:k<=m:=by simpa [Rs]using b
 unfold AEO at a;split at a
 ·rename_i fs hs;split at a
  ·rename_i fd c
   cases hb:Nat.beq (P.cellsOf fd.type) 0 with
   |true=>rw [hb]at a;cases a
   |false=>
    rw [hb]at a;simp only [Ac]at a
    injection a with a
    have hm:k+fd.offset=m:=by omega
    exact AGQ hf _ _ k hx h2 (AD2 ho.1) hs h1 c hb hm (by rw [hm];exact ho.2)
  cases a
 cases a
def Nu (o:Oper):TypeId×Operand:=match o.op with
 | .load t a=>(t,a)
 |_=>(0,.tmp 0)
def AD1 (o:Oper):Bool:=match o.op with
 | .load .. =>true
 |_=>false
theorem AAb (h:AD1 o=true):o.op= .load (Nu o).1 (Nu o).2:=by
 unfold AD1 at h;unfold Nu;split at h
 ·rename_i h1;simp only [h1]
 cases h
def AEK (P:Program) (o:Oper) (k sz:Nat):Bool:=AD1 o&&!cG P (Nu o).1&&Nat.beq (P.cellsOf (Nu o).1) 1&&(P.underlying (Nu o).1).isSome&&Nat.blt k sz
def AEL (P:Program) (o:Oper) (k m sz:Nat):Bool:=AD1 o&&cG P (Nu o).1&&Nat.beq (P.cellsOf (Nu o).1) m&&Nat.ble (k+m) sz
def ldC (E:St) (o:Oper) (j:Nat) (u:TV):SV:= .one (see E (GZ E (Nu o).2).1 (GZ E (Nu o).2).2.1 j u)
def ldA (E:St) (o:Oper) (j:Nat) (us:List TV):SV:= .agg (SC E (GZ E (Nu o).2).1 (GZ E (Nu o).2).2.1 j us)
theorem CK (hf:∀x,(f x).length=sz) (hx:gi l n=some x) (k:Nat) (hr:Qf E (Nu o).2=some (AT f l,n.toNat*sz+k):=by kernel_rfl) (ho:AEK P o k sz=true:=by kernel_rfl):Bl P E o=some (ldC E o (n.toNat*sz+k) (((f x)[k]?).getD .junk)):=by
 simp only [AEK,An,Dg]at ho;obtain⟨⟨⟨⟨h3,h4⟩,h5⟩,h6⟩,h7⟩:=ho;obtain⟨h1,h2⟩:=Qe hr;have hk:k<(f x).length:=by rw [hf];simpa [Bz]using h7
 refine AGP hf _ _ k _ hx h2 (AAb h3) h1 h4 (B5 h5) h6 h7 ?_;rw [Ab hk];rfl
theorem MW (hf:∀x,(f x).length=sz) (hx:gi l n=some x) (k m:Nat) (hr:Qf E (Nu o).2=some (AT f l,n.toNat*sz+k):=by kernel_rfl) (ho:AEL P o k m sz=true:=by kernel_rfl):Bl P E o=some (ldA E o (n.toNat*sz+k) (((f x).drop k).take m)):=by
 simp only [AEL,An]at ho;obtain⟨⟨⟨h3,h4⟩,h5⟩,h6⟩:=ho;obtain⟨h1,h2⟩:=Qe hr;exact AGO hf _ _ k m hx h2 (AAb h3) h1 h4 (B5 h5) h6
def Od (o:Oper):TypeId×Operand:=match o.op with
 | .call c=>match c.callee,c.args.toList,c.argTypes.toList with
  | .builtin .len,[x],[t]=>(t,x)
  |_,_,_=>(0,.tmp 0)
 |_=>(0,.tmp 0)
def AD0 (o:Oper):Bool:=match o.op with
 | .call c=>match c.callee,c.args.toList,c.argTypes.toList with
  | .builtin .len,[x],[t]=>true
  |_,_,_=>false
 |_=>false
theorem AAa (h:AD0 o=true):o.op= .call {callee:= .builtin .len,args:= #[(Od o).2],argTypes:= #[(Od o).1]}:=by
 unfold AD0 at h;unfold Od;split at h
 ·rename_i c hc;split at h
  ·rename_i x t h1 h2 h3;obtain⟨callee,args,types⟩:=c;simp only at h1 h2 h3;subst h1;obtain rfl:args= #[x]:=by cases args;simp_all
   obtain rfl:types= #[t]:=by cases types;simp_all
   rw [hc]
  cases h
 cases h
theorem CT (hf:∀x,(f x).length=sz) (l:List α) (hr:dN E (Od o).2 sz=some (AT f l):=by kernel_rfl) (ho:(AD0 o&&Vt P (Od o).1 sz)=true:=by kernel_rfl):Bl P E o=some (.one (.int .i64 (ln l))):=by
 rw [An]at ho;obtain⟨r,q,j,own,e',h3,h4⟩:=OS hr;obtain⟨e,h6,h7,h8⟩:=LM ho.2;exact AF5 hf l (AAa ho.1) h6 h3 h4 h8
theorem AGL {α':Type} {f':α'->List TV} {sz':Nat} {l':List α'} {n':Int} {x':α'} (hf:∀x,(f x).length=sz) (l:List α) (hf':∀x,(f' x).length=sz') (hx':gi l' n'=some x') (k:Nat) (ho:(AD0 o&&Vt P (Od o).1 sz&&Nat.blt k sz')=true:=by kernel_rfl)
  (hr:E.ref (Od o).2=some ((Kf E (Od o).2).1,(Kf E (Od o).2).2.1,n'.toNat*sz'+k):=by kernel_rfl) (hp:(E.root (Kf E (Od o).2).1).bind (λcs=>BY cs (Kf E (Od o).2).2.1)=some (AT f' l'):=by kernel_rfl)
  {own:Bool} {e':Nat} (hc:(f' x')[k]?=some (.sl own e' sz (AT f l)):=by rfl):Bl P E o=some (.one (.int .i64 (ln l))):=by
 simp only [An]at ho;obtain⟨e,h6,h7,h8⟩:=LM ho.1.2;have a:E.place (Kf E (Od o).2).1 (Kf E (Od o).2).2.1 (n'.toNat*sz'+k)=some (.sl own e' sz (AT f l)):=by
  obtain⟨cs,h1,h2⟩:=Ar.1 hp;simp only [St.place,h1,Aa,h2];rw [N2 hf' hx' (by simpa [Bz]using ho.2),hc]
 exact AF5 hf l (AAa ho.1.1) h6 hr a h8
def WQ (P:Program) (E:St) (t:TypeId) (x:Operand):Option ByteArray:=match E.cell1 P t x with
 |some (.str s)=>some s
 |_=>none
theorem Mz {t:TypeId} {x:Operand} {s:ByteArray} (h:WQ P E t x=some s):E.cell1 P t x=some (.str s):=by
 unfold WQ at h;split at h
 ·rename_i u hu
  injection h with h
  rw [hu,h]
 cases h
def rG (P:Program) (t:TypeId):Bool:=match P.underlying t with
 |some .string=>true
 |_=>false
theorem Y0 {t:TypeId} (h:rG P t=true):P.underlying t=some .string:=by
 unfold rG at h;split at h
 ·assumption
 cases h
def AEz (P:Program) (E:St) (o:Oper):Option (ByteArray×Int):=match o.op with
 | .index t a i=>match rG P t,WQ P E t a,R1 P E i with
  |true,some s,some n=>some (s,n)
  |_,_,_=>none
 |_=>none
theorem psx {s:ByteArray} {n b:Int} (h:sx s n=some b) (hc:AEz P E o=some (s,n):=by kernel_rfl):Bl P E o=some (.one (.int .u8 b)):=by
 unfold AEz at hc;split at hc
 ·rename_i t a i ho;split at hc
  ·rename_i s' n' h1 h2 h3
   injection hc with hc
   injection hc with c d
   subst c d;obtain⟨k,h3⟩:=HO h3;exact AF2 h ho (Y0 h1) (Mz h2) h3
  cases hc
 cases hc
def eO (P:Program) (E:St) (d:Int):Option Operand->Option Int
 |none=>some d
 |some x=>R1 P E x
def ABE (P:Program) (E:St) (o:Oper):Option (ByteArray×Int×Int):=match o.op with
 | .slice t a lo hi none=>match rG P t,WQ P E t a with
  |true,some s=>match eO P E 0 lo,eO P E (s.size:Nat) hi with
   |some l,some h=>some (s,l,h)
   |_,_=>none
  |_,_=>none
 |_=>none
theorem Pp {d n:Int} {x:Option Operand} (h:eO P E d x=some n):∃k,(match x with|some o=>E.cell1 P 0 o|none=>some (.int .i64 d))=some (.int k n):=by
 cases x with
 |none=>
  simp only [eO]at h
  injection h with h
  exact⟨.i64,by rw [h]⟩
 |some x=>exact HO h
theorem VQ {s u:ByteArray} {l h:Int} (hx:sub s l h=some u) (hc:ABE P E o=some (s,l,h):=by kernel_rfl):Bl P E o=some (.one (.str u)):=by
 unfold ABE at hc;split at hc
 ·rename_i t a lo hi ho;split at hc
  ·rename_i s' h1 h2;split at hc
   ·rename_i l' h' h3 h4
    injection hc with hc
    injection hc with c b
    injection b with b d
    subst c b d;obtain⟨k1,h3⟩:=Pp h3;obtain⟨k2,h4⟩:=Pp h4;exact AF3 hx ho (Y0 h1) (Mz h2) h3 h4
   cases hc
  cases hc
 cases hc
def ACW (P:Program) (E:St) (o:Oper):Option (ByteArray×ByteArray):=match o.op with
 | .binOp .add t x y _=>match WQ P E t x,WQ P E t y with
  |some a,some b=>some (a,b)
  |_,_=>none
 |_=>none
theorem Fj {a b u:ByteArray} (hx:HU a b=some u) (hc:ACW P E o=some (a,b):=by kernel_rfl):Bl P E o=some (.one (.str u)):=by
 unfold ACW at hc;split at hc
 ·rename_i t x y t' ho;split at hc
  ·rename_i a' b' h1 h2
   injection hc with hc
   injection hc with c d
   subst c d;exact AF8 hx ho (Mz h1) (Mz h2)
  cases hc
 cases hc
def P9 (o:Oper):TypeId×TypeId×Operand:=match o.op with
 | .convert s d x=>(s,d,x)
 |_=>(0,0,.tmp 0)
def AGk (P:Program) (o:Oper):Bool:=match o.op with
 | .convert s d x=>(match P.underlying s,P.underlying d with
  |some (.slice e),some .string=>(match P.underlying e with
   |some (.int .u8)=>true
   |_=>false)
  |_,_=>false)
 |_=>false
theorem tW {f:Int->List TV} (hf:∀n,f n=[.int .u8 n]) (l:List Int) (hr:dN E (P9 o).2.2 1=some (AT f l):=by kernel_rfl) (ho:AGk P o=true:=by kernel_rfl):Bl P E o=some (.one (.str (E9 l))):=by
 obtain⟨r,q,j,own,e',h3,h4⟩:=OS hr;unfold AGk at ho;split at ho
 ·rename_i s d x a;split at ho
  ·rename_i e hs hd;split at ho
   ·rename_i he;simp only [P9,a]at h3;exact AGS hf l a hs hd he h3 h4
   cases ho
  cases ho
 cases ho
def ABM (P:Program) (E:St) (o:Oper) (k:IntKind):Option (Int×Int):=match o.op with
 | .binOp .shl t x y _=>match E.cell1 P t x,E.cell1 P t y with
  |some (.int k' a),some (.int _ b)=>bif decide (k'=k)then some (a,b)else none
  |_,_=>none
 |_=>none
theorem AGJ {k:IntKind} {a b v:Int} (hx:shl k a b=some v) (hc:ABM P E o k=some (a,b):=by kernel_rfl):Bl P E o=some (.one (.int k v)):=by
 unfold ABM at hc;split at hc
 ·rename_i t x y t' ho;split at hc
  ·rename_i k' a' k2 b' h1 h2
   cases hk:decide (k'=k)with
   |false=>rw [hk]at hc;cases hc
   |true=>
    rw [hk]at hc;simp only [Ae]at hc
    injection hc with hc
    injection hc with hc1 hc2
    have:=Hr hk;subst hc1 hc2 this;exact AF4 hx ho h1 h2
  cases hc
 cases hc
def Oq (o:Oper):TypeId×Operand×Option Operand×Option Operand:=match o.op with
 | .slice t x lo hi none=>(t,x,lo,hi)
 |_=>(0,.tmp 0,none,none)
def AD3 (o:Oper):Bool:=match o.op with
 | .slice t x lo hi none=>true
 |_=>false
theorem AAc (h:AD3 o=true):o.op= .slice (Oq o).1 (Oq o).2.1 (Oq o).2.2.1 (Oq o).2.2.2 none:=by
 unfold AD3 at h;unfold Oq;split at h
 ·rename_i h1;simp only [h1]
 cases h
def zI (E:St) (x:Operand) (sz:Nat):Option (Nat×List TV):=match E.ref x with
 |some (r,q,j)=>match E.place r q j with
  |some (.sl false e s cells)=>bif Nat.beq s sz then some (e,cells)else none
  |_=>none
 |none=>none
theorem XV {x:Operand} {cells:List TV} {e:Nat} (h:zI E x sz=some (e,cells)):∃r q j,E.ref x=some (r,q,j)/\E.place r q j=some (.sl false e sz cells):=by
 unfold zI at h;split at h
 ·rename_i r q j hr;split at h
  ·rename_i e' s cells' hp
   cases hs:Nat.beq s sz with
   |false=>rw [hs]at h;cases h
   |true=>
    rw [hs]at h;simp only [Ae]at h
    injection h with h
    injection h with h1 h2
    have:=B5 hs;subst h1 h2 this;exact⟨r,q,j,hr,hp⟩
  cases h
 cases h
theorem pdr (hf:∀x,(f x).length=sz) {v:List α} {a b:Int} (e:Nat) (hx:dr l a b=some v) (hr:zI E (Oq o).2.1 sz=some (e,AT f l):=by kernel_rfl) (ha:eO P E 0 (Oq o).2.2.1=some a:=by kernel_rfl) (hb:((Oq o).2.2.2.bind (R1 P E))=some b:=by kernel_rfl)
  (ho:(AD3 o&&Vt P (Oq o).1 sz)=true:=by kernel_rfl):Bl P E o=some (.one (.sl false e sz (AT f v))):=by
 rw [An]at ho;obtain⟨r,q,j,h1,h2⟩:=XV hr;obtain⟨e1,h6,h7,h8⟩:=LM ho.2;obtain⟨k1,h3⟩:=Pp ha;obtain⟨oh,h4,h5⟩:=Ar.1 hb;obtain⟨k2,h5⟩:=HO h5;have:=AAc ho.1;rw [h4]at this;exact AGR hf hx this h6 h1 h2 h3 h5 h7 h8
theorem AGM (hf:∀x,(f x).length=sz) {v:List α} {a:Int} (e:Nat) (hx:dr l a (ln l)=some v) (hr:zI E (Oq o).2.1 sz=some (e,AT f l):=by kernel_rfl) (ha:eO P E 0 (Oq o).2.2.1=some a:=by kernel_rfl)
  (ho:(AD3 o&&Vt P (Oq o).1 sz&&(Oq o).2.2.2.isNone)=true:=by kernel_rfl):Bl P E o=some (.one (.sl false e sz (AT f v))):=by
 simp only [An]at ho;obtain⟨r,q,j,h1,h2⟩:=XV hr;obtain⟨e1,h6,h7,h8⟩:=LM ho.1.2;obtain⟨k1,h3⟩:=Pp ha;have:=AAc ho.1.1;rw [Option.isNone_iff_eq_none.1 ho.2]at this;exact AF7 hf hx this h6 h1 h2 h3 h7 h8
def AFS (P:Program) (E:St) (o:Oper) (m:Nat):Bool:=match P.underlying (FG o).1 with
 |some (.array len e)=>AA2 o&&Nat.beq (P.cellsOf e) 1&&Nat.blt m len&&(match E.ptr? (FG o).2.1 with
  |some (r,q,j)=>(E.place r q (j+m)).isSome
  |none=>false)
 |_=>false
def AEx (E:St) (o:Oper) (m:Nat):SV:= .one (.ptr (GZ E (FG o).2.1).1 (E.stamp (GZ E (FG o).2.1).1 (GZ E (FG o).2.1).2.1) (GZ E (FG o).2.1).2.1 ((GZ E (FG o).2.1).2.2+m))
theorem pxa (m:Nat) (hn:n=(m:Int)) (hi:R1 P E (FG o).2.2=some n:=by kernel_rfl) (ho:AFS P E o m=true:=by kernel_rfl):Bl P E o=some (AEx E o m):=by
 unfold AFS at ho;split at ho
 ·rename_i len e ht;simp only [An]at ho;obtain⟨⟨⟨h1,h2⟩,h3⟩,h4⟩:=ho;obtain⟨k,hi⟩:=HO hi;split at h4
  ·rename_i r q j hp;have:=AGN r q j hn (kO h1) ht hi hp (B5 h2) h3 h4;rw [this];simp only [AEx,GZ,hp,Bc]
  cases h4
 cases ho
end
end Go.TI
namespace Go.TI
open Go Go.RowKit
section
variable {P:Program} {N:Nat} {E:St} {o:Oper} {α:Type} {f:α->List TV} {sz:Nat} {l:List α} {n:Int} {x:α}
def GM (o:Oper):TypeId×TypeId×Operand×Operand:=match o.op with
 | .call c=>match c.callee,c.args.toList,c.argTypes.toList with
  | .builtin .append,[s,x],[t,t']=>(t,t',s,x)
  |_,_,_=>(0,0,.tmp 0,.tmp 0)
 |_=>(0,0,.tmp 0,.tmp 0)
def AD5 (o:Oper):Bool:=match o.op with
 | .call c=>match c.callee,c.args.toList,c.argTypes.toList with
  | .builtin .append,[s,x],[t,t']=>true
  |_,_,_=>false
 |_=>false
theorem AAd (h:AD5 o=true):o.op= .call {callee:= .builtin .append,args:= #[(GM o).2.2.1,(GM o).2.2.2],argTypes:= #[(GM o).1,(GM o).2.1]}:=by
 unfold AD5 at h;unfold GM;split at h
 ·rename_i c hc;split at h
  ·rename_i s x t t' h1 h2 h3;obtain⟨callee,args,types⟩:=c;simp only at h1 h2 h3;subst h1;obtain rfl:args= #[s,x]:=by cases args;simp_all
   obtain rfl:types= #[t,t']:=by cases types;simp_all
   rw [hc]
  cases h
 cases h
def AEo (P:Program) (N:Nat) (o:Oper) (sz by_:Nat):Bool:=AD5 o&&Nat.beq (GM o).1 (GM o).2.1&&Vt P (GM o).1 sz&&(KK P (YW P (GM o).1)).isSome&&Nat.beq (P.bytesOf (YW P (GM o).1)) by_&&Nat.blt 0 by_&&Hx N o
def Vg (P:Program) (E:St) (o:Oper) (sz:Nat):Option (List TV×St):=match E.cell1 P (GM o).1 (GM o).2.2.1 with
 |some sv=>match D6 E sv with
  |some (.sl true e s cells,E1)=>bif Nat.beq e (YW P (GM o).1)&&Nat.beq s sz then some (cells,E1)else none
  |_=>none
 |none=>none
def apE (P:Program) (E:St) (o:Oper) (sz:Nat):St:=((Vg P E o sz).map Prod.snd).getD E
def apV (P:Program) (o:Oper) (sz:Nat) (row:List TV):SV:= .one (.sl true (YW P (GM o).1) sz row)
def AC7 (P:Program) (E1:St) (o:Oper) (sz:Nat):Option (Nat×List TV×St):=match E1.ref (GM o).2.2.2 with
 |some (r,q,j)=>match E1.place r q j with
  |some (.sl _ _ s cells)=>bif Nat.beq s sz then(match Ff E1 (SC E1 r (q++ [j]) 0 cells)with
   |some (news,E2)=>some (cells.length,news,E2)
   |none=>none)else none
  |_=>none
 |none=>none
theorem mU {t:TypeId} {e:TypeId} (h:P.underlying t=some (.slice e)):YW P t=e:=by unfold YW;rw [h]
theorem AGi (hf:∀x,(f x).length=sz) (l m:List α) {by_:Nat} {u:List α} (h:ap by_ l m=some u) {E1 E2:St} (hd:Vg P E o sz=some (AT f l,E1)) {r:Root} {q:List Nat} {j:Nat} {own:Bool} {e2:Nat} {cells2:List TV} (hr:E1.ref (GM o).2.2.2=some (r,q,j)) (hp:E1.place r q j=some (.sl own e2 sz cells2))
  (hn:Ff E1 (SC E1 r (q++ [j]) 0 cells2)=some (AT f m,E2)) (hl:cells2.length=m.length*sz) (ho:AEo P N o sz by_=true):C7 P N false E o=some (E2.put o.dst (apV P o sz (AT f u))):=by
 obtain⟨rfl,g⟩:=AEn h;simp only [AEo,An]at ho;obtain⟨⟨⟨⟨⟨⟨a1,a2⟩,a3⟩,a4⟩,a5⟩,a6⟩,a7⟩:=ho;obtain⟨d,a8,_,a9⟩:=Gg a7;obtain⟨e,b1,b2,b3⟩:=LM a3;have a:=mU b1;rw [a]at a4 a5;have h0':0<sz:=by simpa [Bz]using b3
 have hb0':0<by_:=by simpa [Bz]using a6
 have hb:=B5 a5;have i:=B5 a2;unfold Vg at hd;rw [a]at hd;split at hd
 ·rename_i sv hs;split at hd
  ·rename_i e1 s cells E1' h1
   cases hc:(Nat.beq e1 e&&Nat.beq s sz)with
   |false=>rw [hc]at hd;cases hd
   |true=>
    rw [hc]at hd;simp only [Ae]at hd
    injection hd with hd
    injection hd with hd1 hd2
    rw [An]at hc;have c1:=B5 hc.1;have c2:=B5 hc.2;subst hd1 hd2 c1 c2;have b:(AT f l).length/s=l.length:=by rw [Gf hf];exact Fk _ h0'
    have c:cells2.length/s=m.length:=by rw [hl];exact Fk _ h0'
    have k:l.length+m.length<=(l.length+m.length)*by_:=Nat.le_mul_of_pos_right _ hb0';unfold C7;rw [a8];simp only [A4 a9,AAd a1,A4 i,Mu,b1,hs,h1,hr,hp,hn];rw [A4 ⟨trivial,b2.symm,trivial,h0',a4,by rw [b,c];omega,by rw [b,c,hb];exact g⟩,Va,apV,a]
  cases hd
 cases hd
theorem Zk {row:List TV} (h:(Vg P E o sz).map Prod.fst=some row):Vg P E o sz=some (row,apE P E o sz):=by
 unfold apE
 cases hx:Vg P E o sz with
 |none=>rw [hx]at h;cases h
 |some z=>
  rw [hx]at h;simp only [Bv]at h
  injection h with h
  subst h;rfl
theorem Dm (hf:∀x,(f x).length=sz) (hg:∀x,ID (f x)=true) (l:List α) {m u:List α} {by_:Nat} (h:ap by_ l m=some u) (hd:(Vg P E o sz).map Prod.fst=some (AT f l):=by kernel_rfl) (hm:dN (apE P E o sz) (GM o).2.2.2 sz=some (AT f m):=by kernel_rfl) (ho:AEo P N o sz by_=true:=by kernel_rfl):
  C7 P N false E o=some ((apE P E o sz).put o.dst (apV P o sz (AT f u))):=by
 obtain⟨r,q,j,own,e,h1,h2⟩:=OS hm;exact AGi hf l m h (Zk hd) h1 h2 (by rw [WW _ (RR hg m),P5 (RR hg m)]) (Gf hf m) ho
theorem sL (hf:∀x,(f x).length=sz) (l m:List α) {u:List α} {by_:Nat} (h:ap by_ l m=some u) (hd:(Vg P E o sz).map Prod.fst=some (AT f l):=by kernel_rfl) (hm:(AC7 P (apE P E o sz) o sz).map (λz=>(z.1,z.2.1))=some (m.length*sz,AT f m):=by kernel_rfl) (ho:AEo P N o sz by_=true:=by kernel_rfl):
  C7 P N false E o=some ((((AC7 P (apE P E o sz) o sz).map (λz=>z.2.2)).getD E).put o.dst (apV P o sz (AT f u))):=by
 have hd':=Zk hd;generalize hE:apE P E o sz=E1 at hm hd'⊢;unfold AC7 at hm⊢
 cases hr:E1.ref (GM o).2.2.2 with
 |none=>simp only [hr]at hm;cases hm
 |some z=>
  obtain⟨r,q,j⟩:=z;simp only [hr]at hm⊢
  cases hp:E1.place r q j with
  |none=>simp only [hp]at hm;cases hm
  |some t=>
   simp only [hp]at hm⊢
   cases t with
   |sl own e2 s cells=>
    simp only at hm⊢
    cases hb:Nat.beq s sz with
    |false=>rw [hb]at hm;cases hm
    |true=>
     rw [hb]at hm;simp only [Ae]at hm⊢;have:=B5 hb;subst this
     cases hn:Ff E1 (SC E1 r (q++ [j]) 0 cells)with
     |none=>simp only [hn]at hm;cases hm
     |some y=>
      obtain⟨news,E2⟩:=y;simp only [hn,Bv]at hm⊢
      injection hm with hm
      injection hm with hm1 hm2
      subst hm2;exact AGi hf l m h hd' hr hp hn hm1 ho
   |_=>simp only at hm;cases hm
def R0 (o:Oper):TypeId×Operand×Operand:=match o.op with
 | .makeSlice t l c=>(t,l,c)
 |_=>(0,.tmp 0,.tmp 0)
def AFn (o:Oper):Bool:=match o.op with
 | .makeSlice .. =>true
 |_=>false
theorem ADY (h:AFn o=true):o.op= .makeSlice (R0 o).1 (R0 o).2.1 (R0 o).2.2:=by
 unfold AFn at h;unfold R0;split at h
 ·rename_i h1;simp only [h1]
 cases h
def AGc (P:Program) (N:Nat) (o:Oper) (sz by_:Nat):Bool:=AFn o&&Vt P (R0 o).1 sz&&Nat.beq (P.bytesOf (YW P (R0 o).1)) by_&&Hx N o
theorem fmk (hf:∀x,(f x).length=sz) (z:α) {by_:Nat} {u:List α} (h:mk by_ z n=some u) (hl:R1 P E (R0 o).2.1=some n:=by kernel_rfl) (hc:R1 P E (R0 o).2.2=some n:=by kernel_rfl) (hz:KK P (YW P (R0 o).1)=some (f z):=by kernel_rfl) (ho:AGc P N o sz by_=true:=by kernel_rfl):
  C7 P N false E o=some (E.put o.dst (.one (.sl true (YW P (R0 o).1) sz (AT f u)))):=by
 simp only [AGc,An]at ho;obtain⟨⟨⟨a1,a2⟩,a3⟩,a4⟩:=ho;obtain⟨d,a5,a6,_⟩:=Gg a4;obtain⟨e,b1,b2,b3⟩:=LM a2;have a:=mU b1;rw [a]at hz a3⊢;obtain⟨k1,hl⟩:=HO hl;obtain⟨k2,hc⟩:=HO hc;rw [a5];exact AGI z h (ADY a1) a5 a6 b1 hl hc hz rfl (B5 a3) b2
def AFm (o:Oper):Bool:=match o.op with
 | .convert .. =>true
 |_=>false
theorem ADX (h:AFm o=true):o.op= .convert (P9 o).1 (P9 o).2.1 (P9 o).2.2:=by
 unfold AFm at h;unfold P9;split at h
 ·rename_i h1;simp only [h1]
 cases h
def AFY (P:Program) (N:Nat) (o:Oper):Bool:=AFm o&&rG P (P9 o).1&&Vt P (P9 o).2.1 1&&rF P (YW P (P9 o).2.1)&&Hx N o
theorem fsb {f:Int->List TV} (hf:∀n,f n=[.int .u8 n]) {b:ByteArray} (hx:WQ P E (P9 o).1 (P9 o).2.2=some b) (ho:AFY P N o=true:=by kernel_rfl):C7 P N false E o=some (E.put o.dst (.one (.sl false (YW P (P9 o).2.1) 1 (AT f (uK b))))):=by
 simp only [AFY,An]at ho;obtain⟨⟨⟨⟨a1,a2⟩,a3⟩,a4⟩,a5⟩:=ho;obtain⟨d,a6,a7,_⟩:=Gg a5;obtain⟨e,b1,b2,b3⟩:=LM a3;have a:=mU b1;rw [a]at a4⊢;rw [a6];exact AGH hf (ADX a1) a6 a7 (Y0 a2) b1 (Mz hx) a4
def PO (o:Oper):TypeId×Operand×Operand:=match o.op with
 | .store t a x=>(t,a,x)
 |_=>(0,.tmp 0,.tmp 0)
def AFl (o:Oper):Bool:=match o.op with
 | .store .. =>o.dst.isNone
 |_=>false
theorem ADW (h:AFl o=true):o.op= .store (PO o).1 (PO o).2.1 (PO o).2.2/\o.dst=none:=by
 unfold AFl at h;unfold PO;split at h
 ·rename_i h1;simp only [h1];exact⟨trivial,Option.isNone_iff_eq_none.1 h⟩
 cases h
def T8 (P:Program) (E:St) (o:Oper):Option (List TV×St):=match E.val P (PO o).1 (PO o).2.2 with
 |some s=>L0 E s
 |none=>none
def stX (P:Program) (E:St) (o:Oper):List TV:=((T8 P E o).map Prod.fst).getD []
def uE (P:Program) (E:St) (o:Oper):St:=((T8 P E o).map Prod.snd).getD E
def stP (P:Program) (E:St) (o:Oper):Root×List Nat×Nat:=GZ (uE P E o) (PO o).2.1
def AAu (P:Program) (E:St) (o:Oper) (k sz:Nat):Bool:=AFl o&&(T8 P E o).isSome&&Nat.beq (stX P E o).length (P.cellsOf (PO o).1)&&Nat.blt 0 (stX P E o).length&&Nat.ble (k+(stX P E o).length) sz
theorem AGf (hf:∀x,(f x).length=sz) (hx:gi l n=some x) (k:Nat) {r:Root} {c:Nat} {q:List Nat} {cs cs':List TV} (ho:AAu P E o k sz=true) (hp:(uE P E o).ptr? (PO o).2.1=some (r,c::q,n.toNat*sz+k)) (hr:(uE P E o).root r=some cs)
  (A:At cs (c::q) (AT f l) (λrow=>setRow row (n.toNat*sz+k) (stX P E o)) cs'):C7 P N false E o=some (((uE P E o).setRoot r cs').bump r):=by
 simp only [AAu,An]at ho;obtain⟨⟨⟨⟨a1,a2⟩,a3⟩,a4⟩,a5⟩:=ho;obtain⟨b1,b2⟩:=ADW a1;have ht:T8 P E o=some (stX P E o,uE P E o):=by
  unfold stX uE
  cases hh:T8 P E o with
  |none=>rw [hh]at a2;cases a2
  |some z=>rfl
 generalize hX:stX P E o=xs at*;generalize hE:uE P E o=E1 at*;unfold T8 at ht;split at ht
 ·rename_i s hs;have h0':0<xs.length:=by simpa [Bz]using a4
  simp only [C7,b2,b1,Tn,hs,ht,hp,hr,A.c];rw [A4 ⟨A.o,B5 a3,h0',AFr hf hx a5⟩,A5 (by simp),A.u]
 cases ht
def ADG (E:St) (r:Root) (c:Nat) (row:List TV):List TV:=match E.root r with
 |some cs=>match cs[c]? with
  |some (.sl o e s _)=>cs.set c (.sl o e s row)
  |_=>cs
 |none=>[]
def Qj (E:St) (r:Root) (c:Nat):Option (List TV):=match E.root r with
 |some cs=>match cs[c]? with
  |some (.sl true e s row)=>some row
  |_=>none
 |none=>none
theorem Qi {r:Root} {c:Nat} {row:List TV} (h:Qj E r c=some row):∃cs e s,E.root r=some cs/\cs[c]?=some (.sl true e s row)/\∀row',ADG E r c row'=cs.set c (.sl true e s row'):=by
 unfold Qj at h;unfold ADG;split at h
 ·rename_i cs hr;split at h
  ·rename_i e s row' hc
   injection h with h
   subst h;exact⟨cs,e,s,hr,hc,λrow''=>by simp only [hc]⟩
  cases h
 cases h
theorem MY (hf:∀x,(f x).length=sz) (hx:gi l n=some x) (k c:Nat) (z:α) (ho:AAu P E o k sz=true:=by kernel_rfl) (hp:(uE P E o).ptr? (PO o).2.1=some ((stP P E o).1,[c],n.toNat*sz+k):=by kernel_rfl) (hr:Qj (uE P E o) (stP P E o).1 c=some (AT f l):=by kernel_rfl)
  (hz:setRow (f x) k (stX P E o)=f z:=by kernel_rfl):C7 P N false E o=some (((uE P E o).setRoot (stP P E o).1 (ADG (uE P E o) (stP P E o).1 c (AT f (si l n z)))).bump (stP P E o).1):=by
 obtain⟨cs,e,s,h1,h2,h3⟩:=Qi hr;refine AGf hf hx k ho hp h1 ?_;rw [h3];have hk:Nat.ble (k+(stX P E o).length) sz=true:=by
  simp only [AAu,An]at ho;exact ho.2
 exact At.one (TA hf hx hk hz) h2 rfl
theorem AGe {α':Type} {f':α'->List TV} {sz':Nat} {l':List α'} {n':Int} {x':α'} (hf:∀x,(f x).length=sz) (hx:gi l n=some x) (k c:Nat) (z:α) (hf':∀x,(f' x).length=sz') (hx':gi l' n'=some x') (k':Nat) (z':α') (ho:(AAu P E o k sz&&Nat.blt k' sz')=true:=by kernel_rfl)
  (hp:(uE P E o).ptr? (PO o).2.1=some ((stP P E o).1,[c,n'.toNat*sz'+k'],n.toNat*sz+k):=by kernel_rfl) (hr:Qj (uE P E o) (stP P E o).1 c=some (AT f' l'):=by kernel_rfl)
  (hz:setRow (f x) k (stX P E o)=f z:=by kernel_rfl) {e s:Nat} (hc:(f' x')[k']?=some (.sl true e s (AT f l)):=by rfl) (hc':(f' x').set k' (.sl true e s (AT f (si l n z)))=f' z':=by rfl):C7 P N false E o=some (((uE P E o).setRoot (stP P E o).1 (ADG (uE P E o) (stP P E o).1 c (AT f' (si l' n' z')))).bump (stP P E o).1):=by
 obtain⟨cs,e1,s1,h1,h2,h3⟩:=Qi hr;rw [An]at ho;refine AGf hf hx k ho.1 hp h1 ?_;rw [h3];have hk:Nat.ble (k+(stX P E o).length) sz=true:=by
  have:=ho.1;simp only [AAu,An]at this;exact this.2
 exact AGq hf' hx' (At.one (TA hf hx hk hz) hc hc') ho.2 h2 rfl
end
theorem KB.o {P:Program} {N:Nat} {E:St} {ops:Array Oper} {i:Nat} {Q:Exit->St->Prop} {ts dn:List Nat} (mv:Bool) (h:KW P N ops ts (i::dn) ((C7 P N mv E (oA ops i)).getD E) Q) (hs:(C7 P N mv E (oA ops i)).isSome=true:=by kernel_rfl) (hk:(VR P ops E i&&(kp (oA ops i)||ts.contains i))=true:=by kernel_rfl):KB P N ops ts dn i E Q:=Lz (getD_some hs) h hk
def bits:Nat->List (TypeId×Operand)->List (Bool×TypeId×Operand)
 |_,[]=>[]
 |m,(t,x)::l=>(Nat.beq (m %2) 1,t,x)::bits (m/2) l
def Wc (o:Oper):Nat:=match o.op with
 | .call c=>match c.callee with
  | .value (.func f)=>f
  |_=>0
 |_=>0
def G8 (o:Oper):List (TypeId×Operand):=match o.op with
 | .call c=>c.argTypes.toList.zip c.args.toList
 |_=>[]
def mX (P:Program) (N:Nat) (o:Oper):Bool:=(match o.op with
 | .call c=>match c.callee with
  | .value (.func f)=>Nat.beq c.argTypes.size c.args.size&&(match P.funcs[f]? with
   | some fn => !(fn.name == "runtime.NumGoroutine") && !fn.body.isNone
   |none=>false)
  |_=>false
 |_=>false)&&(match o.dst with
 |some d=>Nat.blt d N
 |none=>true)
theorem Ou:∀{l:List (TypeId×Operand)} {m:Nat},(bits m l).map (λx=>x.2.2)=l.map Prod.snd
 |[],m=>rfl
 |(t,x)::l,m=>by simp only [bits,BV,Ou]
theorem Pt {P:Program} {N:Nat} {o:Oper} (h:mX P N o=true):∃args tys,o.op= .call {callee:= .value (.func (Wc o)),args:=args,argTypes:=tys}/\mN P (Wc o)/\(∀d,o.dst=some d->d<N)/\(G8 o).map Prod.snd=args.toList:=by
 simp only [mX,An]at h;obtain⟨h1,h2⟩:=h;have hN:∀d,o.dst=some d->d<N:=by
  intro d hd;rw [hd]at h2;simpa [Bz]using h2
 unfold Wc G8;split at h1
 ·rename_i c hc;split at h1
  ·rename_i f a;rw [An]at h1;obtain⟨h3,h4⟩:=h1;split at h4
   ·rename_i fn b;simp only [An,Dg]at h4;obtain⟨callee,args,types⟩:=c;simp only at a h3;subst a;have hz:=B5 h3;refine⟨args,types,by simp only [hc],?_,hN,?_⟩
    ·exact⟨fn,b,by intro e;rw [e]at h4;simp at h4,h4.2⟩
    exact List.map_snd_zip (by simp [hz])
   cases h4
  cases h1
 cases h1
section
variable (P:Program) (E:St) (o:Oper) (m:Nat)
def mvA:Option (List (Option SV)×St):=JJ P E (bits m (G8 o))
def clE:St:=((mvA P E o m).map Prod.snd).getD E
def shA:Option (List AV×Bool):=match mvA P E o m with
 |some (ss,E1)=>H8 P E1 (bits m (G8 o)) ss
 |none=>none
def AAx:Option (List AV):=(shA P E o m).map Prod.fst
def shB:Bool:=match shA P E o m with
 |some (_,b)=>b
 |none=>false
end
theorem ACQ {P:Program} {E:St} {o:Oper} {m:Nat} {as:List AV} {res:SV} (h:AAx P E o m=some as) (hc:shB P E o m=true\/BD res=false):Wx P E o.dst (bits m (G8 o)) as res ((clE P E o m).put o.dst res):=by
 unfold AAx shB shA at*;unfold clE
 cases hm:mvA P E o m with
 |none=>rw [hm]at h;cases h
 |some z=>
  obtain⟨ss,E1⟩:=z;rw [hm]at h hc;simp only at h hc
  cases hs:H8 P E1 (bits m (G8 o)) ss with
  |none=>rw [hs]at h;cases h
  |some y=>
   obtain⟨as',c⟩:=y;rw [hs]at h hc;simp only [Bv]at h hc
   injection h with h
   subst h;exact⟨ss,E1,c,hm,hs,hc,rfl⟩
theorem ca {γ:Type _} {a b:γ} {l l':List γ} (h:a=b) (k:l=l'):a::l=b::l':=by rw [h,k]
theorem cs {e sz:Nat} {a b:List TV} (h:BK a=b):TV.sl false e sz (BK a)= .sl false e sz b:=by rw [h]
theorem co {a b:TV} (h:a=b):AV.sv (.one a)= .sv (.one b):=by rw [h]
theorem cC {a b:List TV} (h:a=b):AV.sv (.agg a)= .sv (.agg b):=by rw [h]
section
variable {P:Program} {N:Nat} {E:St} {ops:Array Oper} {i:Nat} {Q:Exit->St->Prop} {α β:Type} {r:β} {ts dn:List Nat}
theorem RW.c {x:Option α} {kk:α->Option β} (m:Nat) (h:x.bind kk=some r) {enc:α->SV} {l:List AV} {n:Nat} (a:∀v,x=some v->AP P (Wc (oA ops i)) l (enc v) (List.replicate n .gone)) (hk:∀v,x=some v->kk v=some r->RW P N ops (i+1) ((clE P E (oA ops i) m).put (oA ops i).dst (enc v)) Q)
  (b:AAx P E (oA ops i) m=some l:=by kernel_rfl) (hc:shB P E (oA ops i) m=true\/∀v,BD (enc v)=false:=by exact .inl (by kernel_rfl)) (ho:(VR P ops E i&&mX P N (oA ops i))=true:=by kernel_rfl):RW P N ops i E Q:=by
 obtain⟨v,hv,h⟩:=Ar.1 h;rw [An]at ho;obtain⟨h1,h2⟩:=IS ho.1;obtain⟨args,tys,h3,h4,h5,h6⟩:=Pt ho.2;unfold RW;rw [KU h1];exact AC.call h3 h4 h2 h5 (bits m (G8 (oA ops i))) (by rw [Ou,h6]) (a v hv) (ACQ b (hc.imp id (λh=>h v))) (hk v hv h)
theorem KB.c {x:Option α} {kk:α->Option β} (m:Nat) (h:x.bind kk=some r) {enc:α->SV} {l:List AV} {n:Nat} (a:∀v,x=some v->AP P (Wc (oA ops i)) l (enc v) (List.replicate n .gone)) (hk:∀v,x=some v->kk v=some r->KW P N ops ts (i::dn) ((clE P E (oA ops i) m).put (oA ops i).dst (enc v)) Q)
  (b:AAx P E (oA ops i) m=some l:=by kernel_rfl) (hc:shB P E (oA ops i) m=true\/∀v,BD (enc v)=false:=by exact .inl (by kernel_rfl)) (ho:(VR P ops E i&&mX P N (oA ops i)&&((bits m (G8 (oA ops i))).all (λx=>!x.1)||ts.contains i))=true:=by kernel_rfl):KB P N ops ts dn i E Q:=by
 obtain⟨v,hv,h⟩:=Ar.1 h;simp only [An]at ho;obtain⟨h1,h2⟩:=IS ho.1.1;obtain⟨args,tys,h3,h4,h5,h6⟩:=Pt ho.1.2;exact fG.call i (Io h1) h3 h4 h2 h5 (bits m (G8 (oA ops i))) (by rw [Ou,h6]) ho.2 (a v hv) (ACQ b (hc.imp id (λh=>h v))) (hk v hv h)
theorem gs {P:Program} {f:FuncId} {x:Option α} {enc:α->SV} {l l':List AV} {n:Nat} (e:l=l') (h:∀v,x=some v->AP P f l' (enc v) (List.replicate n .gone)):∀v,x=some v->AP P f l (enc v) (List.replicate n .gone):=e▸h
def cxR (E:St) (o:Oper):Root:=match G8 o with
 |(_,x)::_=>(GZ E x).1
 |[]=> .hand
def AEe (E:St) (o:Oper):Bool:=match G8 o with
 |(_,x)::_=>(match E.ptr? x with
  |some (r,[],0)=>r.mem
  |_=>false)
 |[]=>false
def cxA (P:Program) (E:St) (o:Oper):Option (List AV×Bool):=H8 P (E.without (cxR E o)) (bits 0 (G8 o).tail) (List.replicate (bits 0 (G8 o).tail).length none)
def AEf (P:Program) (E:St) (o:Oper):Option (List AV):=(cxA P E o).map Prod.fst
def cxB (P:Program) (E:St) (o:Oper):Bool:=match cxA P E o with
 |some (_,b)=>b
 |none=>false
theorem AEQ {o:Oper} (h:AEe E o=true):∃t x l,G8 o=(t,x)::l/\E.ptr? x=some (cxR E o,[],0)/\(cxR E o).mem=true:=by
 unfold AEe at h;unfold cxR;split at h
 ·rename_i t x l hl;split at h
  ·rename_i r hp;refine⟨t,x,l,hl,?_,?_⟩
   ·simp only [GZ,hp,Bc]
   simpa only [GZ,hp,Bc]using h
  cases h
 cases h
theorem ACS {o:Oper} {as:List AV} {p:Prop} (h:AEf P E o=some as) (hc:cxB P E o=true\/p):∃c,H8 P (E.without (cxR E o)) (bits 0 (G8 o).tail) (List.replicate (bits 0 (G8 o).tail).length none)=some (as,c)/\(c=true\/p):=by
 unfold AEf cxB at*
 cases hs:cxA P E o with
 |none=>rw [hs]at h;cases h
 |some y=>
  obtain⟨as',c⟩:=y;rw [hs]at h hc;simp only [Bv]at h hc
  injection h with h
  subst h;exact⟨c,hs,hc⟩
theorem F5 {x:Option α} {kk:α->Option β} (h:x.bind kk=some r) {enc:α->SV} {fin:α->List TV} {cells:List TV} {l:List AV} {n:Nat} (d:∀v,x=some v->AP P (Wc (oA ops i)) (.ext cells::l) (enc v) (.ext (fin v)::List.replicate n .gone)) (b:∀v,(fin v).length=cells.length)
  (hk:∀v,x=some v->kk v=some r->RW P N ops (i+1) (((E.setRoot (cxR E (oA ops i)) (fin v)).bump (cxR E (oA ops i))).put (oA ops i).dst (enc v)) Q)
  (e:AEf P E (oA ops i)=some l:=by kernel_rfl) (hb:E.boxes (cxR E (oA ops i))=some cells:=by kernel_rfl) (hc:cxB P E (oA ops i)=true\/∀v,BD (enc v)=false/\AR (fin v)=false:=by exact .inl (by kernel_rfl)) (ho:(VR P ops E i&&mX P N (oA ops i)&&AEe E (oA ops i))=true:=by kernel_rfl):RW P N ops i E Q:=by
 obtain⟨v,hv,h⟩:=Ar.1 h;simp only [An]at ho;obtain⟨h1,h2⟩:=IS ho.1.1;obtain⟨args,tys,h3,h4,h5,h6⟩:=Pt ho.1.2;obtain⟨t,x0,l0,h7,h8,h9⟩:=AEQ ho.2;obtain⟨c,h10,h11⟩:=ACS e hc;unfold RW;rw [KU h1];intro w0 FA UA w a blk FS US hr hF hU;simp only [wpList,C5 hr h2,Cc];refine .inl (sZ hr hF hU h3 h4 h5 (x:=x0) (l:=bits 0 (G8 (oA ops i)).tail) ?_ h9 h8 hb (b v) h10 (h11.imp id (λh=>h v)) (d v hv) λw' v' blk' FS' US' k1 k2 k3=>hk v hv h _ _ _ _ _ _ _ _ k1 k2 k3);rw [Ou,<-h6,h7];rfl
theorem fH {x:Option α} {kk:α->Option β} (h:x.bind kk=some r) {enc:α->SV} {fin:α->List TV} {cells:List TV} {l:List AV} {n:Nat} (d:∀v,x=some v->AP P (Wc (oA ops i)) (.ext cells::l) (enc v) (.ext (fin v)::List.replicate n .gone)) (b:∀v,(fin v).length=cells.length)
  (hk:∀v,x=some v->kk v=some r->KW P N ops ts (i::dn) (((E.setRoot (cxR E (oA ops i)) (fin v)).bump (cxR E (oA ops i))).put (oA ops i).dst (enc v)) Q)
  (e:AEf P E (oA ops i)=some l:=by kernel_rfl) (hb:E.boxes (cxR E (oA ops i))=some cells:=by kernel_rfl) (hc:cxB P E (oA ops i)=true\/∀v,BD (enc v)=false/\AR (fin v)=false:=by exact .inl (by kernel_rfl)) (ho:(VR P ops E i&&mX P N (oA ops i)&&AEe E (oA ops i)&&ts.contains i)=true:=by kernel_rfl):KB P N ops ts dn i E Q:=by
 obtain⟨v,hv,h⟩:=Ar.1 h;simp only [An]at ho;obtain⟨h1,h2⟩:=IS ho.1.1.1;obtain⟨args,tys,h3,h4,h5,h6⟩:=Pt ho.1.1.2;obtain⟨t,x0,l0,h7,h8,h9⟩:=AEQ ho.1.2;obtain⟨c,h10,h11⟩:=ACS e hc;intro w0 FA UA w a blk FS US hr hF hU;unfold wpOp;simp only [Io h1,C5 hr h2,Cc];refine .inl (sZ hr hF hU h3 h4 h5 (x:=x0) (l:=bits 0 (G8 (oA ops i)).tail) ?_ h9 h8 hb (b v) h10 (h11.imp id (λh=>h v)) (d v hv) λw' v' blk' FS' US' k1 k2 k3=>⟨λht=>(by rw [ho.2]at ht;cases ht),_,_,_,_,hk v hv h,k1,k2,k3⟩);rw [Ou,<-h6,h7];rfl
end
section
variable {P:Program} {N:Nat} {E:St} {Q:Exit->St->Prop} {ls ls2:List Nat} {bs bs2:List Root} {S V W:Type} {id:Nat}
theorem Eu {E':St} (hb:bs.all (λr=>r.mem&&(E.boxes r).isSome)=true:=by kernel_rfl) (hn:FI E ls bs=E':=by kernel_rfl):nt ls bs E E':=⟨hb,hn⟩
theorem wc {β:Type} {r:β} {c:Operand} {x y:Code} {tx ty:Option β} {b:Bool} (h:(bif b then tx else ty)=some r) (ht:tx=some r->Wp P N x E Q) (hf:ty=some r->Wp P N y E Q) (hc:E.cell1 P 0 c=some (.bool b):=by kernel_rfl):Wp P N (.cond c x y) E Q:=Wp.c h ht hf hc
theorem wt {c:Operand} {x y:Code} (ht:Wp P N x E Q) (hc:E.cell1 P 0 c=some (.bool true):=by kernel_rfl):Wp P N (.cond c x y) E Q:=AGm ht hc
theorem wf {c:Operand} {x y:Code} (hf:Wp P N y E Q) (hc:E.cell1 P 0 c=some (.bool false):=by kernel_rfl):Wp P N (.cond c x y) E Q:=AC9 hf hc
theorem rsz {rs:List ResultVar} {res:SV} (h:(EN P E rs).map (λz=>Gc z.1)=some res):∃ss E',EN P E rs=some (ss,E')/\Gc ss=res:=by
 obtain⟨z,h1,h2⟩:=Ba.1 h;exact⟨z.1,z.2,h1,h2⟩
theorem rsx {rs:List ResultVar} {res:SV} {cells:List TV} {rt:Root} (h:(EN P E rs).map (λz=>(Gc z.1,z.2.boxes rt))=some (res,some cells)):∃ss E',EN P E rs=some (ss,E')/\Gc ss=res/\E'.boxes rt=some cells:=by
 obtain⟨z,h1,h2⟩:=Ba.1 h
 injection h2 with h3 h4
 exact⟨z.1,z.2,h1,h3,h4⟩
end
theorem gkx {P:Program} {f:FuncId} {fn:Func} {c:Code} {cells cells':List TV} {as:List AV} {res:SV} {N:Nat} (hf:P.funcs[f]?=some fn) (hb:fn.body=some c) (hN:fn.ntmps=N)
 (h:Wp P N c (Eo (.ext cells::as)) λe E=>(e= .normal\/e= .ret)/\∃ss E',EN P E fn.results.toList=some (ss,E')/\Gc ss=res/\E'.boxes (.ext 0)=some cells') (a:cells'.isEmpty=false:=by rfl):AP P f (.ext cells::as) res (.ext cells'::List.replicate as.length .gone):=ABb hf hb (by rw [hN];exact h) a
theorem gk {P:Program} {f:FuncId} {fn:Func} {c:Code} {as:List AV} {res:SV} {N:Nat} (hf:P.funcs[f]?=some fn) (hb:fn.body=some c) (hN:fn.ntmps=N)
 (h:Wp P N c (Eo as) λe E=>(e= .normal\/e= .ret)/\∃ss E',EN P E fn.results.toList=some (ss,E')/\Gc ss=res):AP P f as res (List.replicate as.length .gone):=YJ hf hb (by rw [hN];exact h)
end Go.TI
namespace Go.TI
open Go Go.RowKit
theorem uH:∀t:TV,(LH t).isSl=t.isSl:=by intro t;cases t<;>rfl
theorem J8:∀(cs:List TV) (j:Nat),(BK cs)[j]?=cs[j]?.map LH
 |[],j=>by simp [BK]
 |t::ts,0=>by simp [BK]
 |t::ts,j+1=>by simpa [BK]using J8 ts j
theorem Vb:∀(q:List Nat) (cs:List TV),BY (BK cs) q=(BY cs q).map BK
 |[],cs=>rfl
 |c::q,cs=>by
  simp only [BY,J8]
  cases cs[c]? with
  |none=>rfl
  |some t=>
   cases t with
   |sl o e sz cells=>exact Vb q cells
   |_=>rfl
def wZ:TV->List TV->TV
 | .sl _ e s _,row=> .sl false e s row
 |t,_=>t
def YN (cs:List TV) (j:Nat) (row:List TV):List TV:=match cs[j]? with
 |some t=>cs.set j (wZ t row)
 |none=>cs
theorem mS {cs:List TV} {j e s:Nat} {row:List TV} (h:cs[j]?=some (.sl true e s row)) (c:Nat):(YN cs j (BK row))[c]?=if c=j then some (.sl false e s (BK row))else cs[c]? :=by
 have hj:=(Ah.1 h).1;simp only [YN,h,wZ];rw [Cz];by_cases hc:j=c
 ·subst hc;simp [hj]
 rw [A5 hc,A5 (λe=>hc e.symm)]
theorem ACK {cs:List TV} {j e s:Nat} {row:List TV} (h:cs[j]?=some (.sl true e s row)) {q:List Nat} {r1:List TV} (hq:BY cs q=some r1) (i:Nat):
  ∃r2,BY (YN cs j (BK row)) q=some r2/\(r1[i]?.isSome=true->r2[i]?.isSome=true)/\(Kg r1[i]?=true->Kg r2[i]?=true):=by
 cases q with
 |nil=>
  simp only [BY]at hq
  injection hq with hq
  subst hq;refine⟨_,rfl,?_,?_⟩
  ·rw [mS h];split
   ·intro _;rfl
   exact id
  rw [mS h];split
  ·intro _;rfl
  exact id
 |cons c q=>
  simp only [BY,mS h];simp only [BY]at hq;by_cases hc:c=j
  ·subst hc;rw [h]at hq;simp only at hq;rw [A4 rfl];simp only [Vb,hq,Bv];refine⟨_,rfl,?_,?_⟩
   ·rw [J8];simp
   rw [J8]
   cases r1[i]? with
   |none=>exact id
   |some t=>simp only [Kg,Bv,uH];exact id
  rw [A5 hc];exact⟨r1,hq,id,id⟩
theorem XZ {w:World} {t':TV}:∀{ts:List TV} {vs:List Value} {F U:List Nat} {j:Nat} {t:TV},B3 w ts vs F U->ts[j]?=some t->F.Nodup->(∀v F1 U1,CB w t v F1 U1->∃F2 U2,CB w t' v F2 U2/\I2 F1 U1 F2 U2)->
  ∃F' U',B3 w (ts.set j t') vs F' U'/\I2 F U F' U'
 |[],vs,F,U,j,t,h,hj,_,_=>by simp at hj
 |x::ts,vs,F,U,0,t,h,hj,hn,hk=>by
  simp at hj;subst hj;simp only [B3]at h;obtain⟨v,vs',F1,F2,U1,U2,rfl,rfl,rfl,h1,h2⟩:=h;obtain⟨F1',U1',a1,a2⟩:=hk v F1 U1 h1;exact⟨F1'++F2,U1'++U2,by simp only [DD,B3];exact⟨v,vs',F1',F2,U1',U2,rfl,rfl,rfl,a1,h2⟩,QT hn a2 I2.refl⟩
 |x::ts,vs,F,U,j+1,t,h,hj,hn,hk=>by
  simp only [B3]at h;obtain⟨v,vs',F1,F2,U1,U2,rfl,rfl,rfl,h1,h2⟩:=h;obtain⟨F2',U2',a1,a2⟩:=XZ h2 (by simpa using hj) (Bs.1 hn).2.1 hk;exact⟨F1++F2',U1++U2',by simp only [Mh,B3];exact⟨v,vs',F1,F2',U1,U2',rfl,rfl,rfl,h1,a1⟩,QT hn I2.refl a2⟩
theorem Za {w:World} {a:Act} {E:St} {blk:Root->Nat} {t':TV}:∀{ts:List TV} {vs:List Value} {F U:List Nat} {j:Nat} {t:TV},CH w a E blk ts vs F U->ts[j]?=some t->F.Nodup->(∀v F1 U1,CL w a E blk t v F1 U1->∃F2 U2,CL w a E blk t' v F2 U2/\I2 F1 U1 F2 U2)->
  ∃F' U',CH w a E blk (ts.set j t') vs F' U'/\I2 F U F' U'
 |[],vs,F,U,j,t,h,hj,_,_=>by simp at hj
 |x::ts,vs,F,U,0,t,h,hj,hn,hk=>by
  simp at hj;subst hj;obtain⟨v,vs',F1,F2,U1,U2,rfl,rfl,rfl,h1,h2⟩:=h;obtain⟨F1',U1',a1,a2⟩:=hk v F1 U1 h1;exact⟨F1'++F2,U1'++U2,by rw [DD];exact⟨v,vs',F1',F2,U1',U2,rfl,rfl,rfl,a1,h2⟩,QT hn a2 I2.refl⟩
 |x::ts,vs,F,U,j+1,t,h,hj,hn,hk=>by
  obtain⟨v,vs',F1,F2,U1,U2,rfl,rfl,rfl,h1,h2⟩:=h;obtain⟨F2',U2',a1,a2⟩:=Za h2 (by simpa using hj) (Bs.1 hn).2.1 hk;exact⟨F1++F2',U1++U2',by rw [Mh];exact⟨v,vs',F1,F2',U1,U2',rfl,rfl,rfl,h1,a1⟩,QT hn I2.refl a2⟩
section
variable {w0:Base} {FA UA:List Nat} {N:Nat} {w:World} {a:Act} {E:St} {blk:Root->Nat} {FS US:Root->List Nat} {P:Program}
def frE (E:St) (r:Root) (j:Nat) (row:List TV):St:=match E.root r with
 |some cs=>E.setRoot r (YN cs j row)
 |none=>E
theorem wY {r:Root} {cs:List TV} {j e s:Nat} {row:List TV} (hr:E.root r=some cs) (hj:cs[j]?=some (.sl true e s row)) (hh:r≠ .hand) (R:Root):Cu w w a a E (E.setRoot r (YN cs j (BK row))) blk blk R:=by
 have c:(E.setRoot r (YN cs j (BK row))).ver=E.ver:=by cases r<;>rfl
 have d:(E.setRoot r (YN cs j (BK row))).gen=E.gen:=by cases r<;>rfl
 have f:(YN cs j (BK row)).length=cs.length:=by simp [YN,hj]
 have b:∀cs0,E.root R=some cs0->∃cs1,(E.setRoot r (YN cs j (BK row))).root R=some cs1/\∀q r1,BY cs0 q=some r1->∀i:Nat,∃r2,BY cs1 q=some r2/\(r1[i]?.isSome=true->r2[i]?.isSome=true)/\(Kg r1[i]?=true->Kg r2[i]?=true):=by
  intro cs0 h0;by_cases hR:R=r
  ·subst hR;rw [hr]at h0
   injection h0 with h0
   subst h0;refine⟨YN cs j (BK row),?_,λq r1 hq i=>ACK hj hq i⟩
   cases R with
   |slot n=>
    simp only [St.root,St.setRoot,Cp,Cc]at hr⊢
    injection hr with hr
    congr 1
    cases hs:E.slots n with
    |one t=>
     rw [hs]at hr;simp only [SV.cells]at hr;subst hr;have:(YN [t] j (BK row)).length=1:=f
     match hf:YN [t] j (BK row),this with
     |[x],_=>rfl
    |agg ts=>rfl
    |tup ss=>
     rw [hs]at hr;simp only [SV.cells]at hr;subst hr;simp at hj
   |box n=>simp [St.root,St.setRoot,Cp]
   |ext n=>simp [St.root,St.setRoot,Cp]
   |hand=>exact absurd rfl hh
  refine⟨cs0,?_,λq r1 hq i=>⟨r1,hq,id,id⟩⟩;rw [<-h0];cases r<;>cases R<;>simp only [St.root,St.setRoot,Cp]<;>first
   |exact absurd rfl hh
   |rfl
   |(rw [A5];intro e;exact hR (by rw [e]))
   |(rw [A5];intro e;injection e with e;exact hR (by rw [e]))
   |(rw [A5];intro e;cases e)
 constructor
 ·refine .inr ⟨by rw [c],λq i v h1 h2=>⟨h1,?_⟩,λq i ad hq h1 h2=>⟨h1,?_⟩⟩
  ·unfold St.place at h2⊢
   cases h0:E.root R with
   |none=>rw [h0]at h2;cases h2
   |some cs0=>
    rw [h0]at h2;obtain⟨cs1,k1,k2⟩:=b cs0 h0;simp only [Aa]at h2
    cases hc:BY cs0 q with
    |none=>rw [hc]at h2;cases h2
    |some r1=>
     rw [hc]at h2;obtain⟨r2,k3,_,k4⟩:=k2 q r1 hc i;rw [k1];simp only [Aa,k3];exact k4 h2
  unfold St.place at h2⊢
  cases h0:E.root R with
  |none=>rw [h0]at h2;cases h2
  |some cs0=>
   rw [h0]at h2;obtain⟨cs1,k1,k2⟩:=b cs0 h0;simp only [Aa]at h2
   cases hc:BY cs0 q with
   |none=>rw [hc]at h2;cases h2
   |some r1=>
    rw [hc]at h2;obtain⟨r2,k3,k4,_⟩:=k2 q r1 hc i;rw [k1];simp only [Aa,k3];exact k4 h2
 refine .inr ⟨by rw [d],λi ad h1 h2=>⟨h1,?_⟩⟩;unfold St.place at h2⊢
 cases h0:E.root R with
 |none=>rw [h0]at h2;cases h2
 |some cs0=>
  rw [h0]at h2;obtain⟨cs1,k1,k2⟩:=b cs0 h0;simp only [Aa]at h2;obtain⟨r2,k3,k4,_⟩:=k2 [] cs0 rfl i;rw [k1];simp only [Aa,k3];exact k4 h2
theorem CR.freeze (h:CR w0 FA UA N w a E blk FS US) {r:Root} {cs:List TV} {j e s:Nat} {row:List TV} (hr:E.root r=some cs) (hj:cs[j]?=some (.sl true e s row)) (hh:r≠ .hand):
  ∃FS' US',CR w0 FA UA N w a (E.setRoot r (YN cs j (BK row))) blk FS' US'/\FS' .hand=FS .hand/\US' .hand=US .hand:=by
 have p:=wY (w:=w) (a:=a) (blk:=blk) hr hj hh;have c:YN cs j (BK row)=cs.set j (.sl false e s (BK row)):=by simp only [YN,hj,wZ]
 have g:∀v F1 U1,CB w (.sl true e s row) v F1 U1->∃F2 U2,CB w (.sl false e s (BK row)) v F2 U2/\I2 F1 U1 F2 U2:=λv F1 U1 h1=>AE9 h1 (le1.s rfl)
 have u:∃F' U',I2 (FS r) (US r) F' U'/\(∀n,r= .slot n->E8 w a (E.setRoot r (YN cs j (BK row))) blk ((E.slots n).withCells (YN cs j (BK row))) (a.eval (.tmp n)) F' U')/\
   (r.mem=true->∃cur T F,w.heap[blk r]?=some (.cells cur T (0,0))/\B3 w (YN cs j (BK row)) cur.toList F U'/\F'=blk r::F):=by
  cases r with
  |slot n=>
   simp only [St.root]at hr
   injection hr with hr
   have hs:=H0 p (h.slot n) (λ_ _=>rfl) (λ_ _=>rfl)
   cases d:E.slots n with
   |one t=>
    rw [d]at hr hs;simp only [SV.cells]at hr;subst hr;have x:j=0:=by
     have:=(Ah.1 hj).1;simpa using this
    subst x;simp at hj;subst hj;simp only [E8]at hs;obtain⟨F2,U2,k1,k2⟩:=g _ _ _ hs.1;refine⟨F2,U2,k2,λm hm=>?_,λhm=>(by cases hm)⟩
    injection hm with hm
    subst hm;rw [d,c];simp only [DD,SV.withCells,E8];exact⟨k1,λ_=>hs.2 rfl⟩
   |agg ts=>
    rw [d]at hr hs;simp only [SV.cells]at hr;subst hr;simp only [E8]at hs;obtain⟨vs,k0,k1⟩:=hs;obtain⟨F2,U2,k2,k3⟩:=Za (t':= .sl false e s (BK row)) k1 hj (h.nodup _) g;refine⟨F2,U2,k3,λm hm=>?_,λhm=>(by cases hm)⟩
    injection hm with hm
    subst hm;rw [d,c];simp only [SV.withCells,E8];rw [c]at k2;exact⟨vs,k0,k2⟩
   |tup ss=>
    rw [d]at hr;simp only [SV.cells]at hr;subst hr;simp at hj
  |hand=>exact absurd rfl hh
  |box n=>
   rcases h.box (.box n) rfl with⟨k,_⟩|⟨cs0,cur,T,F,k1,k2,k3,k4⟩
   ·simp only [St.root]at hr;rw [k]at hr;cases hr
   simp only [St.root]at hr;rw [k1]at hr
   injection hr with hr
   subst hr;have f:=h.nodup (.box n);rw [k4]at f;obtain⟨i,l⟩:=Dr.1 f;obtain⟨F2,U2,k5,k6⟩:=XZ (t':= .sl false e s (BK row)) k3 hj l g;refine⟨blk (.box n)::F2,U2,?_,λm hm=>(by cases hm),λ_=>⟨cur,T,F2,k2,by rw [c];exact k5,rfl⟩⟩;rw [k4];refine⟨k6.1.cons_cons _,λb hb=>?_⟩
   rcases k6.2 b hb with q|⟨q1,q2⟩
   ·exact .inl q
   refine .inr ⟨by simp [q1],λhc=>?_⟩
   rcases By.1 hc with rfl|hc
   ·exact i q1
   exact q2 hc
  |ext n=>
   rcases h.box (.ext n) rfl with⟨k,_⟩|⟨cs0,cur,T,F,k1,k2,k3,k4⟩
   ·simp only [St.root]at hr;rw [k]at hr;cases hr
   simp only [St.root]at hr;rw [k1]at hr
   injection hr with hr
   subst hr;have f:=h.nodup (.ext n);rw [k4]at f;obtain⟨i,l⟩:=Dr.1 f;obtain⟨F2,U2,k5,k6⟩:=XZ (t':= .sl false e s (BK row)) k3 hj l g;refine⟨blk (.ext n)::F2,U2,?_,λm hm=>(by cases hm),λ_=>⟨cur,T,F2,k2,by rw [c];exact k5,rfl⟩⟩;rw [k4];refine⟨k6.1.cons_cons _,λb hb=>?_⟩
   rcases k6.2 b hb with q|⟨q1,q2⟩
   ·exact .inl q
   refine .inr ⟨by simp [q1],λhc=>?_⟩
   rcases By.1 hc with rfl|hc
   ·exact i q1
   exact q2 hc
 obtain⟨F',U',hl,y,z⟩:=u
 have o:∀b∈F',b∈FS r:=λb hb=>hl.1.subset hb
 refine⟨Cp FS r F',Cp US r U',?_,by rw [Bt (λe=>hh e.symm)],by rw [Bt (λe=>hh e.symm)]⟩;have hF:∀R b,b∈Cp FS r F' R->b∈FS R:=by
  intro R b hb;by_cases hR:R=r
  ·subst hR;rw [BW]at hb;exact o b hb
  rw [Bt hR]at hb;exact hb
 have hU:∀R b,b∈Cp US r U' R->b∈US R\/(R=r/\b∈FS r/\b∉F'):=by
  intro R b hb;by_cases hR:R=r
  ·subst hR;rw [BW]at hb
   rcases hl.2 b hb with q|⟨q1,q2⟩
   ·exact .inl q
   exact .inr ⟨rfl,q1,q2⟩
  rw [Bt hR]at hb;exact .inl hb
 constructor
 ·intro n;by_cases hn:r= .slot n
  ·subst hn;rw [BW,BW];have:=y n rfl;simpa only [St.setRoot,Cp,Cc]using this
  rw [Bt (λe=>hn e.symm),Bt (λe=>hn e.symm)];have h1:(E.setRoot r (YN cs j (BK row))).slots n=E.slots n:=by
   cases r with
   |slot m=>
    simp only [St.setRoot,Cp];rw [A5];intro e;exact hn (by rw [e])
   |_=>rfl
  rw [h1];exact H0 p (h.slot n) (λ_ _=>rfl) (λ_ _=>rfl)
 ·intro R hm;by_cases hR:R=r
  ·subst hR;right;obtain⟨cur,T,F,k1,k2,k3⟩:=z hm;refine⟨_,cur,T,F,?_,k1,by rw [BW];exact k2,by rw [BW,k3]⟩
   cases R with
   |slot n=>cases hm
   |hand=>cases hm
   |box n=>simp [St.setRoot,Cp]
   |ext n=>simp [St.setRoot,Cp]
  rw [Bt hR,Bt hR];have h1:(E.setRoot r (YN cs j (BK row))).boxes R=E.boxes R:=by
   cases r<;>simp only [St.setRoot,Cp]<;>first
    |rfl
    |(rw [A5 hR])
  rw [h1];exact h.box R hm
 ·have:(E.setRoot r (YN cs j (BK row))).boxes .hand=E.boxes .hand:=by
   cases r<;>simp only [St.setRoot,Cp]<;>first
    |exact absurd rfl hh
    |rfl
    |(rw [A5 (by simp)])
  rw [this];exact h.nohand
 ·intro R;by_cases hR:R=r
  ·subst hR;rw [BW];exact hl.1.nodup (h.nodup R)
  rw [Bt hR];exact h.nodup R
 ·exact λR S h0 b hb hb'=>h.dis R S h0 b (hF R b hb) (hF S b hb')
 ·intro R S b hb hb'
  rcases hU S b hb' with q|⟨rfl,q1,q2⟩
  ·exact h.disU R S b (hF R b hb) q
  by_cases hR:R=S
  ·subst hR;rw [BW]at hb;exact q2 hb
  exact h.dis R S hR b (hF R b hb) q1
 ·exact λR b hb=>h.inF R b (hF R b hb)
 ·intro R b hb
  rcases hU R b hb with q|⟨rfl,q1,_⟩
  ·exact h.inU R b q
  obtain⟨q2,q3⟩:=h.inF R b q1;exact⟨.inr q2,q3⟩
 ·exact h.disA
 ·exact h.os
 ·exact h.tape
 ·exact h.output
 ·exact h.size
 ·exact h.keep
 ·exact h.len
 ·exact h.nodef
 ·exact h.xblk
 ·rw [Ej];exact h.ambB
 ·rw [Ej];exact h.ambI
 ·rw [HA];exact h.frz
 ·exact h.ambF
 rw [Ej];exact h.pin
end
section
variable {P:Program} {N:Nat} {E:St} {ops:Array Oper} {i m:Nat} {Q:Exit->St->Prop} {K:St->Prop} {ts dn:List Nat} {row row':List TV}
theorem ACM {r:Root} {j:Nat} (h:Qj E r j=some row):∃cs e s,E.root r=some cs/\cs[j]?=some (.sl true e s row)/\frE E r j (BK row)=E.setRoot r (YN cs j (BK row)):=by
 obtain⟨cs,e,s,h1,h2,_⟩:=Qi h;exact⟨cs,e,s,h1,h2,by unfold frE;rw [h1]⟩
def Wr:Root->Bool
 | .hand=>false
 |_=>true
theorem RU {r:Root} (h:Wr r=true):r≠ .hand:=by rintro rfl;cases h
theorem RW.fz (r:Root) (j:Nat) (hs:BK row=row') (h:RW P N ops i (frE E r j row') Q) (ho:Qj E r j=some row:=by kernel_rfl) (hh:Wr r=true:=by rfl):RW P N ops i E Q:=by
 intro w0 FA UA w a blk FS US hr hF hU;obtain⟨cs,e,s,h1,h2,h3⟩:=ACM ho;obtain⟨FS',US',k1,k2,k3⟩:=hr.freeze h1 h2 (RU hh);rw [<-hs,h3]at h;exact h _ _ _ _ _ _ _ _ k1 (by rw [k2,hF]) (by rw [k3,hU])
theorem KW.fz (r:Root) (j:Nat) (hs:BK row=row') (h:KW P N ops ts dn (frE E r j row') Q) (ho:Qj E r j=some row:=by kernel_rfl) (hh:Wr r=true:=by rfl):KW P N ops ts dn E Q:=by
 intro hq hc w0 FA UA w a blk FS US hr hF hU;obtain⟨cs,e,s,h1,h2,h3⟩:=ACM ho;obtain⟨FS',US',k1,k2,k3⟩:=hr.freeze h1 h2 (RU hh);rw [<-hs,h3]at h;exact h hq hc _ _ _ _ _ _ _ _ k1 (by rw [k2,hF]) (by rw [k3,hU])
theorem Wp.fz {c:Code} (r:Root) (j:Nat) (hs:BK row=row') (h:Wp P N c (frE E r j row') Q) (ho:Qj E r j=some row:=by kernel_rfl) (hh:Wr r=true:=by rfl):Wp P N c E Q:=by
 intro w0 FA UA w a blk FS US hr hF hU;obtain⟨cs,e,s,h1,h2,h3⟩:=ACM ho;obtain⟨FS',US',k1,k2,k3⟩:=hr.freeze h1 h2 (RU hh);rw [<-hs,h3]at h;exact h _ _ _ _ _ _ _ _ k1 (by rw [k2,hF]) (by rw [k3,hU])
end
end Go.TI
namespace Go.TI
open Go Go.RowKit
def St.fzs (E:St) (f:Option Nat):St:={E with fz:=f}
section
variable {w0:Base} {FA UA:List Nat} {N:Nat} {w:World} {a:Act} {E:St} {blk:Root->Nat} {FS US:Root->List Nat} {P:Program}
theorem uD {f:Option Nat} (r:Root):Cu w w a a E (E.fzs f) blk blk r:=by
 have hp:∀q j,(E.fzs f).place r q j=E.place r q j:=λq j=>by cases r<;>rfl
 exact⟨.inr ⟨rfl,λq j v h1 h2=>⟨h1,by rw [hp];exact h2⟩,λq j ad _ h1 h2=>⟨h1,by rw [hp];exact h2⟩⟩,.inr ⟨rfl,λj ad h1 h2=>⟨h1,by rw [hp];exact h2⟩⟩⟩
theorem CR.fzs (h:CR w0 FA UA N w a E blk FS US) (f:Option Nat) (hf:∀n,f=some n->Frz w0 a n):CR w0 FA UA N w a (E.fzs f) blk FS US where
 slot:=λn=>H0 uD (h.slot n) (λ_ _=>rfl) (λ_ _=>rfl)
 box:=h.box
 nohand:=h.nohand
 nodup:=h.nodup
 dis:=h.dis
 disU:=h.disU
 inF:=h.inF
 inU:=h.inU
 disA:=h.disA
 os:=h.os
 tape:=h.tape
 output:=h.output
 size:=h.size
 keep:=h.keep
 len:=h.len
 nodef:=h.nodef
 xblk:=h.xblk
 ambB:=h.ambB
 ambI:=h.ambI
 frz:=hf
 ambF:=h.ambF
 pin:=h.pin
theorem zU (n:Nat):(2*n+1)/2=n:=by omega
theorem zT (n:Nat):¬(2*n+1) %2=0:=by omega
def AD4 (o:Oper):Bool:=match o.op with
 | .buildSlice t len parts=>Nat.beq len 0&&Nat.beq parts.size 0
 |_=>false
theorem AE5 {o:Oper} {E':St} {d:Nat} (hb:AD4 o=true) (hd:o.dst=some d) (hN:d<N) (hs:C7 P N false E o=some E') {nx:Next} {w':World} (hr:(execOp a.eval o).run P w= .ok nx w'):∃B,nx= .value (.slice B 0 0):=by
 unfold AD4 at hb;split at hb
 ·rename_i t len parts ho;rw [An]at hb;have h1:=B5 hb.1;have h2:=B5 hb.2;subst h1;have h3:parts= #[]:=Array.eq_empty_of_size_eq_zero h2;subst h3;simp only [C7,hd,A4 hN,ho,KT]at hs;split at hs
  ·rename_i e hu;split at hs
   ·rename_i zs ss hz b;obtain⟨i,z,hi,c,f,g⟩:=IZ (w:=w) hz;simp [execOp,ho,Instr.buildSlice,run_underlying hu,sizeOf,typeInfo,hi,newRow,Instr.fill]at hr;obtain⟨hr,_⟩:=hr;exact⟨_,hr.symm⟩
   cases hs
  cases hs
 cases hb
end
section
variable {P:Program} {N:Nat} {E:St} {ops:Array Oper} {i:Nat} {Q:Exit->St->Prop} {ts dn:List Nat}
def ABK (x:Operand):Nat:=match x with
 | .tmp n=>n
 |_=>0
theorem yO (h:KW P N ops ts (i::dn) (((C7 P N false E (oA ops i)).getD E).fzs (some (2*((oA ops i).dst.getD 0)+1))) Q) (hs:(C7 P N false E (oA ops i)).isSome=true:=by kernel_rfl) (hk:(VR P ops E i&&AD4 (oA ops i)&&Hx N (oA ops i))=true:=by kernel_rfl):KB P N ops ts dn i E Q:=by
 have hs':=getD_some (a:=E) hs;generalize hE:(C7 P N false E (oA ops i)).getD E=E' at h hs';simp only [An]at hk;obtain⟨h1,h2⟩:=IS hk.1.1;obtain⟨d,h3,_,h4⟩:=Gg hk.2;rw [h3]at h;simp only [Bc]at h;have b:kp (oA ops i)=true:=by
  have:=hk.1.2;unfold AD4 at this;unfold kp;split at this
  ·rename_i ho;rw [ho]
  cases this
 intro w0 FA UA w a blk FS US hr hF hU;unfold wpOp;simp only [Io h1,C5 hr h2,Cc];obtain⟨nx,w',v,blk',FS',US',k1,k2,k3,k4,k5,k6⟩:=PN hr hF hU hs';obtain⟨B,hB⟩:=AE5 (N:=N) hk.1.2 h3 h4 hs' k1;have hv:v= .slice B 0 0:=by
  rcases k2 with k2|⟨k2,_⟩
  ·rw [hB]at k2;injection k2 with k2;exact k2.symm
  rw [hB]at k2;cases k2
 refine .inl ?_;unfold Oper.wp;rw [k1,hB];refine⟨λ_=>k6 b,_,blk',FS',US',h,?_,k4,k5⟩;rw [hv]at k3;refine k3.fzs _ (λn hn=>?_)
 injection hn with hn
 subst hn;unfold Frz;rw [A5 (zT d),zU d,h3];refine⟨B,?_⟩;have:=k3.len;simp only [Act.eval,Act.put];rw [Ew];have hl:=hr.len;have c:d<a.tmps.size:=Bj h4 hl;simp [Array.getElem?_setIfInBounds_self,c]
theorem nJ {E':St} (hs:C7 P N false E (oA ops i)=some E') (h:KW P N ops ts (i::dn) (E'.fzs none) Q) (hk:(VR P ops E i&&AD5 (oA ops i)&&Nat.beq (GM (oA ops i)).1 (GM (oA ops i)).2.1&&Hx N (oA ops i))=true:=by kernel_rfl) (hx:(GM (oA ops i)).2.2.1= .tmp (ABK (GM (oA ops i)).2.2.1):=by kernel_rfl) (hz:E.fz=some (2*ABK (GM (oA ops i)).2.2.1+1):=by kernel_rfl):KB P N ops ts dn i E Q:=by
 simp only [An]at hk;obtain⟨⟨⟨h0,h5⟩,h6⟩,h7⟩:=hk;obtain⟨h1,h2⟩:=IS h0;obtain⟨d,h3,_,h4⟩:=Gg h7;have c:=B5 h6;have ho:=AAd h5;rw [<-c]at ho;intro w0 FA UA w a blk FS US hr hF hU;unfold wpOp;simp only [Io h1,C5 hr h2,Cc];have he:Mu P E d (GM (oA ops i)).1 (GM (oA ops i)).2.2.1 (GM (oA ops i)).2.2.2=some E':=by
  unfold C7 at hs;rw [h3]at hs;simpa only [A4 h4,ho,Cc]using hs
 obtain⟨nx,w',v,blk',FS',US',k1,k2,k3,k4,k5,_,k6⟩:=Tz hr hF hU ho h3 h4 he;have b:=hr.frz _ hz;unfold Frz at b;rw [A5 (zT _),zU,<-hx]at b;obtain⟨B,hB⟩:=b;refine .inl ?_;unfold Oper.wp;rw [k1]
 rcases k2 with rfl|⟨rfl,rfl⟩
 ·exact⟨λ_=>k6 B hB,_,blk',FS',US',h,k3.fzs none (λn hn=>by cases hn),k4,k5⟩
 exact⟨λ_=>k6 B hB,_,blk',FS',US',h,k3.fzs none (λn hn=>by cases hn),k4,k5⟩
end
end Go.TI
namespace Go.TI
open Go Go.RowKit
def rm (k:IntKind) (a b:Int):Option Int:=if b=0 then none else some (a.tmod b)
def ban (k:IntKind) (a b:Int):Int:=k.wrap (BitVec.ofInt k.bits a&&&BitVec.ofInt k.bits b).toNat
def bxo (k:IntKind) (a b:Int):Int:=k.wrap (BitVec.ofInt k.bits a^^^BitVec.ofInt k.bits b).toNat
section
variable {P:Program} {E:St} {o:Oper}
def AEA (P:Program) (E:St) (o:Oper) (k:IntKind) (q:Bool):Option (Int×Int):=match o.op with
 | .binOp op t x y _=>bif(match op with| .rem=>!q| .quo=>q|_=>false)then(match E.cell1 P t x,E.cell1 P t y with
  |some (.int k' a),some (.int k'' b)=>bif decide (k'=k)&&decide (k''=k)then some (a,b)else none
  |_,_=>none)else none
 |_=>none
theorem prm {k:IntKind} {a b v:Int} (hx:rm k a b=some v) (hc:AEA P E o k false=some (a,b):=by kernel_rfl):Bl P E o=some (.one (.int k v)):=by
 unfold AEA at hc;split at hc
 ·rename_i op t x y t' ho;cases op<;>simp only [AN,Ae,Ac,reduceCtorEq]at hc;split at hc
  ·rename_i k' a' k2 b' h1 h2
   cases hk:(decide (k'=k)&&decide (k2=k))with
   |false=>rw [hk]at hc;cases hc
   |true=>
    rw [hk]at hc;simp only [Ae]at hc
    injection hc with hc
    injection hc with hc1 hc2
    rw [An]at hk;have e1:=Hr hk.1;have e2:=Hr hk.2;subst hc1 hc2 e1 e2;unfold rm at hx;split at hx
    ·cases hx
    rename_i hb
    injection hx with hx
    subst hx;simp only [Bl,ho,h1,h2,Uo,Cc,Vf,ACC,A5 hb,Bv]
  cases hc
 cases hc
end
def nL (P:Program) (f:FuncId) (as:List AV) (cells:List TV):Prop:=
 ∀(w:World) (vs:List Value) (FA UA:List Nat),JR w as vs FA UA->FA.Nodup->(∀b∈FA,b∉UA)->(∀b∈FA++UA,b<w.heap.size)->
  Calls P f vs.toArray w λe w'=>∃v F U G V,e= .returned v/\ADh w w' FA UA (.tup []) [.ext cells] [v] (.tuple #[]) F U G V
theorem gkp {P:Program} {f:FuncId} {fn:Func} {c:Code} {as:List AV} {cells:List TV} {N:Nat} (hf:P.funcs[f]?=some fn) (hb:fn.body=some c) (hN:fn.ntmps=N)
  (h:Wp P N c (Eo as) λe E=>(e= .normal\/e= .ret)/\∃t r,fn.results.toList=[.tmp t]/\E.ptr? (.tmp t)=some (r,[],0)/\r.mem=true/\E.boxes r=some cells) (k:cells.isEmpty=false:=by rfl):nL P f as cells:=by
 subst hN;intro w vs FA UA ha l i m;obtain⟨blk,FS,US,hr,hF,hU⟩:=Q8 (N:=fn.ntmps) ha l i m (A:=Hz.none) (fz:=none) trivial (λb hb=>by cases hb);refine calls_of_wp hf hb (wp_mono (h _ _ _ _ _ _ _ _ hr hF hU) ?_);rintro e a w' ⟨E,blk',FS',US',⟨he,t,r,h1,h2,h3,h4⟩,k3,h5,h6⟩;obtain⟨s,ad,d,o⟩:=LW k3 h2;have p:ad=⟨blk' r,0,none⟩:=by
  cases r with
  |slot n=>cases h3
  |hand=>cases h3
  |box n=>simp only [pa]at d;injection d with d;rw [<-d];simp [Addr.add]
  |ext n=>simp only [pa]at d;injection d with d;rw [<-d];simp [Addr.add]
 obtain⟨cur,T,F3,b2,b3,b4⟩:∃cur T F3,w'.heap[blk' r]?=some (.cells cur T (0,0))/\B3 w' cells cur.toList F3 (US' r)/\FS' r=blk' r::F3:=by
  rcases k3.box r h3 with⟨q,_⟩|⟨cs,cur,T,F3,q1,q2,q3,q4⟩
  ·rw [h4]at q;cases q
  rw [h4]at q1
  injection q1 with q1
  subst q1;exact⟨cur,T,F3,q2,q3,q4⟩
 have hne':cells≠ []:=by rintro rfl;cases k
 have j:(fn.results.toList.mapM (NB P a.tmps)).run P w'= .ok [a.eval (.tmp t)] w':=by
  rw [h1,List.mapM_cons];simp [NB,Act.eval]
 have g:a.defers=[]/\∃v,(results fn a.tmps).run P w'= .ok v w'/\∃v' F U G V,Ending.returned v= .returned v'/\ADh w w' FA UA (.tup []) [.ext cells] [v'] (.tuple #[]) F U G V:=by
  refine⟨k3.nodef,_,Nr j,a.eval (.tmp t),[],[],FS' r,US' r,by simp,?_⟩
  exact{
   res:=by simp only [Vr];exact⟨[],rfl,by simp [O2]⟩
   fin:=⟨_,[],FS' r,[],US' r,[],rfl,by simp,by simp,⟨blk' r,cur,T,F3,by rw [o,p],b2,b3,b4,hne'⟩,⟨rfl,rfl,rfl⟩⟩
   nodup:=by simpa using k3.nodup r
   dis:=λb hb hb'=>k3.disU r r b (by simpa using hb) (by simpa using hb')
   inF:=λb hb=>k3.inF r b (by simpa using hb)
   inU:=λb hb=>k3.inU r b (by simpa using hb)
   os:=k3.os
   tape:=k3.tape
   output:=k3.output
   size:=k3.size
   keep:=λb hb hF=>k3.keep b hb hF (λe=>by cases e)}
 rcases he with rfl|rfl
 ·exact g
 exact g
section
variable {w0:Base} {FA UA:List Nat} {N:Nat} {w:World} {a:Act} {E:St} {blk:Root->Nat} {FS US:Root->List Nat} {P:Program}
theorem ACY (h:CR w0 FA UA N w a E blk FS US) (hF:FS .hand=[]) (hU:US .hand=[]) {o:Oper} {f:FuncId} {args:Array Operand} {tys:Array TypeId} (ho:o.op= .call {callee:= .value (.func f),args:=args,argTypes:=tys}) (hf:mN P f)
  {d:Nat} (hd:o.dst=some d) (hN:d<N) {l:List (Bool×TypeId×Operand)} (hl:l.map (λx=>x.2.2)=args.toList) {as:List AV} {cells:List TV} (hg:nL P f as cells) {ss:List (Option SV)} {E1:St} {c:Bool} (h1:JJ P E l=some (ss,E1)) (h2:H8 P E1 l ss=some (as,c)) (h3:c=true\/AR cells=false)
  {K:Act->World->Prop} {Q:Exit->Act->World->Prop} (hK:∀w' v blk' FS' US',CR w0 FA UA N w' (a.put (some d) v) (E1.newBox d cells) blk' FS' US'->FS' .hand=[]->US' .hand=[]->K (a.put (some d) v) w'):o.wp P a w K Q:=by
 obtain⟨FS1,US1,F,U,k1,k2,k3,k4,_⟩:=OY h h1;rw [hF,A7]at k3;rw [hU,A7]at k4;obtain⟨U',k5,k6⟩:=Kk k2 k1 h2;have h9:l.map (λx=>a.eval x.2.2)=(args.map a.eval).toList:=by
  rw [Ow,<-hl,EJ];rfl
 rw [h9]at k5;have m:∀b∈F,b∉U':=by
  intro b hb hb';rw [<-k3]at hb
  rcases k6 b hb' with h4|⟨r,h4⟩|⟨_,r,h5,h4⟩
  ·rw [<-k4]at h4;exact k2.disU .hand .hand b hb h4
  ·exact k2.disU .hand r b hb h4
  exact k2.dis .hand r (ET h5) b hb h4
 have j:=hg w _ F U' k5 (by rw [<-k3];exact k2.nodup .hand) m (by
  intro b hb
  rcases Ak.1 hb with hb|hb
  ·exact(k2.inF .hand b (by rw [k3];exact hb)).2
  rcases k6 b hb with h4|⟨r,h4⟩|⟨_,r,h5,h4⟩
  ·exact(k2.inU .hand b (by rw [k4];exact h4)).2
  ·exact(k2.inU r b h4).2
  exact(k2.inF r b h4).2)
 unfold Oper.wp;rw [Jn ho hf];simp only [Oper.upon];rw [P3]at j;refine Calls.mono j ?_;rintro e w' ⟨v,Fr,Ur,G,V,rfl,g⟩;obtain⟨v0,vs0,G1,G2,V1,V2,p,rfl,rfl,⟨b0,cur,T,F0,rfl,e1,e2,rfl,e3⟩,⟨rfl,rfl,rfl⟩⟩:=g.fin
 injection p with p _
 subst p;have u:=g.res;simp only [Vr,O2]at u;obtain⟨_,_,_,rfl,rfl⟩:=u;have y:=g.nodup;simp only [A7,Az]at y;have a0:∀b∈b0::F0,(b∈FS1 .hand\/w.heap.size<=b)/\b<w'.heap.size:=by
  intro b hb;have:=g.inF b (by simpa using hb);rw [k3];exact this
 have z:∀b∈V1,(∃s,b∈US1 s)\/((b∈FS1 .hand\/w.heap.size<=b)/\b∉b0::F0/\b<w'.heap.size):=by
  intro b hb;obtain⟨h4,h5⟩:=g.inU b (by simpa using hb)
  have k:b∉b0::F0:=λe=>g.dis b (by simpa using e) (by simpa using hb)
  rcases h4 with h4|h4|h4
  ·rcases k6 b h4 with h6|h6|⟨h6,r,h7,h8⟩
   ·exact .inl ⟨.hand,by rw [k4];exact h6⟩
   ·exact .inl h6
   rcases h3 with h3|h3
   ·rw [h3]at h6;cases h6
   have:=JI e2 h3;subst this;cases hb
  ·exact .inr ⟨.inl (by rw [k3];exact h4),k,h5⟩
  exact .inr ⟨.inr h4,k,h5⟩
 have i:∀b,b<w.heap.size->b∉FS1 .hand->w'.heap[b]?=w.heap[b]? :=λb hb t=>g.keep b hb (by rw [<-k3];exact t)
 let E2:St:={E1 with boxes:=Cp E1.boxes (.box d) (some cells),ver:=Cp E1.ver (.box d) (E1.ver (.box d)+1),gen:=Cp E1.gen (.box d) (E1.gen (.box d)+1)}
 let blk1:=Cp blk (.box d) b0
 have a1:Root.box d≠Root.hand:=by simp
 have a2:∀s,Cu w w' a a E1 E2 blk blk1 s:=by
  intro s;by_cases hs:s= .box d
  ·subst hs;exact⟨.inl (by simp [E2,Cp]),.inl (by simp [E2,Cp])⟩
  have hv:E2.ver s=E1.ver s:=by simp [E2,Cp,hs]
  have hg:E2.gen s=E1.gen s:=by simp [E2,Cp,hs]
  by_cases hh:s= .hand
  ·subst hh;exact FW hv hg (by simp [St.root,k2.nohand])
  refine DS k2 hv hg ?_ (λ_ _=>rfl) (λ_=>by simp [blk1,Cp,hs]) (λb hb=>i b (k2.inF s b hb).2 (k2.dis s .hand hh b hb)) (λb hb=>i b (k2.inU s b hb).2 (λe=>k2.disU .hand s b e hb));cases s<;>simp_all [E2,St.root,Cp]
 have g1:=k2.two (w':=w') (a':=a) (E':=E2) (blk':=blk1) (r1:= .box d) (r2:= .hand) (L1:=b0::F0) (L2:=[]) (V1:=V1) (V2:=[]) a1
  (by simpa using y)
  (λb hb=>by
   have hb':b∈b0::F0:=by simpa using hb
   obtain⟨q1,q2⟩:=a0 b hb'
   exact⟨.inr q1,q2⟩)
  (λb hb=>by
   have hb':b∈V1:=by simpa using hb
   rcases z b hb' with q|⟨q1,q2,q3⟩
   ·exact .inl q
   exact .inr ⟨.inr q1,by simpa using q2,q3⟩)
  g.size g.os g.tape g.output (λb hb _ t=>i b hb t) a2
  (λn _ _=>⟨rfl,rfl⟩)
  (λs _ hs _=>⟨by simp [E2,Cp,hs],by simp [blk1,Cp,hs]⟩)
  (.inr ⟨cells,cur,T,F0,by simp [E2,Cp],by simp [blk1,Cp,e1],e2,by simp [blk1,Cp]⟩)
  trivial (by simp [E2,Cp,k2.nohand]) k2.len k2.nodef (hfz:=λn hn=>k2.frz n hn)
 have a3:E8 w' a E2 blk1 (.one (.ptr (.box d) (E2.gen (.box d)) [] 0)) (.pointer (some ⟨b0,0,none⟩)) [] []:=by
  have h0:E2.stamp (.box d) []=E2.gen (.box d):=rfl;rw [<-h0];refine SQ ?_ ?_
  ·cases hc:cells with
   |nil=>exact absurd hc e3
   |cons x xs=>simp [St.place,St.root,E2,Cp,BY,hc]
  simp [pa,blk1,Cp,Addr.add]
 have g2:=g1.put (d:=d) hN a3 cM.none;have:=hK w' _ blk1 _ _ g2 (by rw [Bt (by simp),BW]) (by rw [Bt (by simp),BW]);rw [hd];exact this
end
section
variable {P:Program} {N:Nat} {E:St} {ops:Array Oper} {i:Nat} {Q:Exit->St->Prop} {α β:Type} {r:β}
theorem AEV {x:Option α} {kk:α->Option β} (h:x.bind kk=some r) {cells:α->List TV} {l:List AV} (f:∀v,x=some v->nL P (Wc (oA ops i)) l (cells v)) (hk:∀v,x=some v->kk v=some r->RW P N ops (i+1) ((clE P E (oA ops i) 0).newBox ((oA ops i).dst.getD 0) (cells v)) Q)
  (b:AAx P E (oA ops i) 0=some l:=by kernel_rfl) (hc:shB P E (oA ops i) 0=true:=by kernel_rfl) (ho:(VR P ops E i&&mX P N (oA ops i)&&Hx N (oA ops i))=true:=by kernel_rfl):RW P N ops i E Q:=by
 obtain⟨v,hv,h⟩:=Ar.1 h;simp only [An]at ho;obtain⟨h1,h2⟩:=IS ho.1.1;obtain⟨args,tys,h3,h4,h5,h6⟩:=Pt ho.1.2;obtain⟨d,h7,_,h8⟩:=Gg ho.2;have e:=hk v hv h;rw [h7]at e;simp only [Bc]at e;unfold RW;rw [KU h1];intro w0 FA UA w a blk FS US hr hF hU;simp only [wpList,C5 hr h2,Cc];unfold AAx shB shA at*;unfold clE at e
 cases hm:mvA P E (oA ops i) 0 with
 |none=>rw [hm]at b;cases b
 |some z=>
  obtain⟨ss,E1⟩:=z;rw [hm]at b hc e;simp only at b hc e
  cases hs:H8 P E1 (bits 0 (G8 (oA ops i))) ss with
  |none=>rw [hs]at b;cases b
  |some y=>
   obtain⟨as',c⟩:=y;rw [hs]at b hc;simp only [Bv]at b hc
   injection b with b
   subst b;refine .inl (ACY hr hF hU h3 h4 h7 h8 (l:=bits 0 (G8 (oA ops i))) (by rw [Ou,h6]) (f v hv) hm hs (.inl hc) λw' v' blk' FS' US' k1 k2 k3=>e _ _ _ _ _ _ _ _ k1 k2 k3)
end
theorem rsp {E:St} {rs:List ResultVar} {cells:List TV} (t:Nat) (h1:rs=[.tmp t]) (h:(match E.ptr? (.tmp t)with
  |some (r,[],0)=>bif r.mem then E.boxes r else none
  |_=>none)=some cells):∃t r,rs=[.tmp t]/\E.ptr? (.tmp t)=some (r,[],0)/\r.mem=true/\E.boxes r=some cells:=by
 split at h
 ·rename_i r hr
  cases hm:r.mem with
  |false=>rw [hm]at h;cases h
  |true=>rw [hm]at h;exact⟨t,r,h1,hr,hm,h⟩
 cases h
end Go.TI
namespace Go.TI
open Go Go.RowKit
def xtE (N:Nat) (E:St) (o:Oper):Option St:=match o.op,o.dst with
 | .extract t ix,some d=>bif Nat.blt d N then MP E d t ix else none
 |_,_=>none
section
variable {w0:Base} {FA UA:List Nat} {N:Nat} {w:World} {a:Act} {E:St} {blk:Root->Nat} {FS US:Root->List Nat} {P:Program}
theorem AEZ (h:CR w0 FA UA N w a E blk FS US) (hF:FS .hand=[]) (hU:US .hand=[]) {o:Oper} {E':St} (he:xtE N E o=some E'):
  ∃v blk' FS' US',(∀w2,(execOp a.eval o).run P w2= .ok (.value v) w2)/\CR w0 FA UA N w (a.put o.dst v) E' blk' FS' US'/\FS' .hand=[]/\US' .hand=[]:=by
 unfold xtE at he;split at he
 ·rename_i t ix d ho hd
  cases hN:Nat.blt d N with
  |false=>rw [hN]at he;cases he
  |true=>
   rw [hN]at he;simp only [Ae]at he;have hN':d<N:=by simpa [Bz]using hN
   obtain⟨nx,w',v,blk',FS',US',k1,k2,k3,k4,k5,_⟩:=E7.extract (P:=P) h hF hU ho hd hN' he;have b:∃x,∀w2,(execOp a.eval o).run P w2= .ok (.value x) w2:=by
    unfold MP at he;split at he
    ·rename_i n;split at he
     ·rename_i ss c;split at he
      ·rename_i s e;have hs:=h.slot n;rw [c]at hs;simp only [E8]at hs;obtain⟨vs,f,hx⟩:=hs;obtain⟨v,A,B,C,D,F1,U1,h1,h2,h3,h4,h5⟩:=WJ ix hx e;exact⟨v,λw2=>by simp [execOp,ho,Instr.extract,f,h1]⟩
      cases he
     cases he
    cases he
   obtain⟨x,hx⟩:=b;rw [hx w]at k1
   injection k1 with q1 q2
   subst q1 q2
   rcases k2 with k2|⟨k2,_⟩
   ·injection k2 with k2
    subst k2;exact⟨_,blk',FS',US',hx,k3,k4,k5⟩
   cases k2
 cases he
end
section
variable {P:Program} {N:Nat} {E:St} {ops:Array Oper} {i m:Nat} {Q:Exit->St->Prop} {K:St->Prop} {ts dn:List Nat}
theorem IY (i:Nat) (h:KW P N ops ts (i::dn) ((xtE N E (oA ops i)).getD E) Q) (hs:(xtE N E (oA ops i)).isSome=true:=by kernel_rfl) (hk:(VR P ops E i&&tX ops ts dn i)=true:=by kernel_rfl):KW P N ops ts dn E Q:=by
 have hs':=getD_some (a:=E) hs;generalize hE:(xtE N E (oA ops i)).getD E=E' at h hs';simp only [An,tX]at hk;obtain⟨h1,h3,h4⟩:=hk;obtain⟨h5,h6⟩:=IS h1;unfold KW at h⊢;rw [Ta (i:=i) h3];intro hQ hc w0 FA UA w a blk FS US k1 k2 k3;obtain⟨e1,e2,e3,e4,e5⟩:=Tk h4;obtain⟨v,blk',FS',US',g1,g2,g3,g4⟩:=AEZ (P:=P) k1 k2 k3 hs';refine LK (v:=v) (n:=ops.size) (Io h5) (Region.noSelect_spec e1) (λc a w hx=>?_) e4 e5 _ _ a w hc (Region.free_spec (Io h5) e2) e3 (.inl ⟨C5 k1 h6,λw2 _=>g1 w2⟩) ?_
 ·obtain⟨E',blk',FS',US',m1,_⟩:=hx;exact(hQ c E' m1).elim
 exact h hQ (KA hc e3) _ _ _ _ _ _ _ _ g2 g3 g4
def Zo (P:Program) (E:St) (o:Oper) (s:SV):Prop:=∀(N:Nat) (w0:Base) (FA UA:List Nat) (w:World) (a:Act) (blk:Root->Nat) (FS US:Root->List Nat),CR w0 FA UA N w a E blk FS US->EY P w a E blk FS US o s
theorem AG2 {s:SV} (hp:Zo P E (oA ops i) s) (h:RW P N ops (i+1) (E.put (oA ops i).dst s) Q) (hk:(VR P ops E i&&Hx N (oA ops i))=true:=by kernel_rfl):RW P N ops i E Q:=by
 rw [An]at hk;obtain⟨h1,h2⟩:=IS hk.1;obtain⟨d,h3,_,h4⟩:=Gg hk.2;rw [h3]at h;unfold RW;rw [KU h1];intro w0 FA UA w a blk FS US hr hF hU;simp only [wpList,C5 hr h2,Cc];exact .inl ((KH hr hF hU (hp _ _ _ _ _ _ _ _ _ hr) h3 h4).wp λw' v blk' FS' US' k1 k2 k3 _=>h _ _ _ _ _ _ _ _ k1 k2 k3)
theorem AGZ {s:SV} (hp:Zo P E (oA ops i) s) (h:SW P N ops m (i+1) (E.put (oA ops i).dst s) K) (hk:(VR P ops E i&&Hx N (oA ops i)&&Nat.blt i m)=true:=by kernel_rfl):SW P N ops m i E K:=by
 simp only [An]at hk;obtain⟨h1,h2⟩:=IS hk.1.1;obtain⟨d,h3,_,h4⟩:=Gg hk.1.2;rw [h3]at h;unfold SW;rw [Pr h1 hk.2];intro w0 FA UA w a blk FS US k1 k2 k3;obtain⟨v,U,g1,g2,g3⟩:=hp _ _ _ _ _ _ _ _ _ k1;have hr:=g1 w (λr _=>⟨λ_ _=>rfl,λ_ _=>rfl⟩);simp only [wpStill,C5 k1 h2,Cc,Oper.still,hr,Oper.stillUpon_value];rw [h3];refine h _ _ _ _ _ _ _ _ (k1.put h4 g2 (On k1 g3 _)) ?_ ?_
 ·rw [Bt (by simp),k2]
 rw [Bt (by simp),k3]
theorem AHw {s:SV} (i:Nat) (hp:Zo P E (oA ops i) s) (h:KW P N ops ts (i::dn) (E.put (oA ops i).dst s) Q) (hk:(VR P ops E i&&Hx N (oA ops i)&&tX ops ts dn i)=true:=by kernel_rfl):KW P N ops ts dn E Q:=by
 simp only [An,tX]at hk;obtain⟨⟨h1,h2⟩,h3,h4⟩:=hk;obtain⟨h5,h6⟩:=IS h1;obtain⟨d,h7,_,h8⟩:=Gg h2;unfold KW at h⊢;rw [Ta (i:=i) h3];rw [h7]at h;intro hQ hc w0 FA UA w a blk FS US k1 k2 k3;obtain⟨e1,e2,e3,e4,e5⟩:=Tk h4;obtain⟨v,U,g1,g2,g3⟩:=hp _ _ _ _ _ _ _ _ _ k1;refine LK (v:=v) (n:=ops.size) (Io h5) (Region.noSelect_spec e1) (λc a w hx=>?_) e4 e5 _ _ a w hc (Region.free_spec (Io h5) e2) e3 (.inl ⟨C5 k1 h6,λw2 e=>?_⟩) ?_
 ·obtain⟨E',blk',FS',US',m1,_⟩:=hx;exact(hQ c E' m1).elim
 ·exact g1 w2 (λr hr=>⟨λb hb=>e.2 b (k1.inF r b hb).2,λb hb=>e.2 b (k1.inU r b hb).2⟩)
 rw [h7];refine h hQ (KA hc e3) _ _ _ _ _ _ _ _ (k1.put h8 g2 (On k1 g3 _)) ?_ ?_
 ·rw [Bt (by simp),k2]
 rw [Bt (by simp),k3]
def AGd (o:Oper):Bool:=match o.op with
 | .assign (.const _)| .move (.const _)=>true
 |_=>false
theorem pjk {o:Oper} (h:AGd o=true:=by kernel_rfl):Zo P E o (.one .junk):=by
 intro N w0 FA UA w a blk FS US hr;unfold AGd at h;split at h
 ·rename_i v ho;exact⟨v,[],λw2 _=>by simp [execOp,ho,Act.eval],by simp [E8,CL,TV.isJunk],by simp⟩
 ·rename_i v ho;exact⟨v,[],λw2 _=>by simp [execOp,ho,Act.eval],by simp [E8,CL,TV.isJunk],by simp⟩
 cases h
def ACO (P : Program) (f : Field) (j : Nat) (x y : TV) : Option Bool := bif (f.name != "_") && Nat.beq f.offset j then (match P.underlying f.type, x, y with
 |some (.int _),.int k a,.int k' b=>bif decide (k=k')then some (a==b)else none
 |some .bool,.bool a,.bool b=>some (a==b)
 |some .string,.str a,.str b=>some (a.toList==b.toList)
 |_,_,_=>none)else none
def XW (P:Program):List Field->Nat->List TV->List TV->Option Bool
 |[],_,[],[]=>some true
 |f::fs,j,x::xs,y::ys=>match ACO P f j x y,XW P fs (j+1) xs ys with
  |some b,some c=>some (b&&c)
  |_,_=>none
 |_,_,_,_=>none
def N3 (o:Oper):Bool×TypeId×Operand×Operand:=match o.op with
 | .binOp .eql t x y _=>(false,t,x,y)
 | .binOp .neq t x y _=>(true,t,x,y)
 |_=>(false,0,.tmp 0,.tmp 0)
def ACB (o:Oper):Bool:=match o.op with
 | .binOp .eql .. | .binOp .neq .. =>true
 |_=>false
def ABI (P:Program) (t:TypeId):Bool:=(match P.underlying t with
 |some (.struct _)=>true
 |_=>false)&&!P.stoodInHeld t&&!P.eqGuardType P.depth t
def AEP (P:Program) (E:St) (o:Oper):Option Bool:=bif ACB o&&ABI P (N3 o).2.1 then(match E.val P (N3 o).2.1 (N3 o).2.2.1,E.val P (N3 o).2.1 (N3 o).2.2.2 with
 |some (.agg xs),some (.agg ys)=>XW P (P.fieldsOf (N3 o).2.1).toList 0 xs ys
 |_,_=>none)else none
theorem AEb {w:World} {a:Act} {E:St} {blk:Root->Nat} {X Y:Array Value} (d:Nat) {f:Field} {j:Nat} {x y:TV} {r:Bool} {vx vy:Value} {F U F' U':List Nat} (h:ACO P f j x y=some r) (hx:CL w a E blk x vx F U) (hy:CL w a E blk y vy F' U') (kx:X[j]?=some vx) (ky:Y[j]?=some vy):
  f.name ≠ "_" ∧ ∃ a b, (∀ w2 : World, (part f.type X f.offset).run P w2 = .ok a w2) ∧ (∀ w2 : World, (part f.type Y f.offset).run P w2 = .ok b w2) ∧ ∀ w2 : World, (Op.equalIn (d + 1) f.type a b).run P w2 = .ok r w2 := by
 unfold ACO at h
 cases hb : (f.name != "_" && Nat.beq f.offset j) with
 |false=>rw [hb]at h;cases h
 |true=>
  rw [hb]at h;simp only [Ae]at h;rw [An]at hb;have hj:=B5 hb.2;subst hj;refine⟨by simpa using hb.1,?_⟩;split at h
  ·rename_i k k1 n1 k2 n2 hu
   cases hk:decide (k1=k2)with
   |false=>rw [hk]at h;cases h
   |true=>
   rw [hk]at h;have c:=Hr hk;subst c;simp only [Ae]at h
   injection h with h
   subst h;obtain⟨rfl,_,_⟩:=hx;obtain⟨rfl,_,_⟩:=hy;exact⟨_,_,λw2=>run_part_plain w2 (e:=f.type) (by simp [Program.plainKey,hu]) kx,λw2=>run_part_plain w2 (e:=f.type) (by simp [Program.plainKey,hu]) ky,λw2=>run_equalIn_int w2 d f.type k1 k n1 n2 hu⟩
  ·rename_i b1 b2 hu
   injection h with h
   subst h;obtain⟨rfl,_,_⟩:=hx;obtain⟨rfl,_,_⟩:=hy;exact⟨_,_,λw2=>run_part_plain w2 (e:=f.type) (by simp [Program.plainKey,hu]) kx,λw2=>run_part_plain w2 (e:=f.type) (by simp [Program.plainKey,hu]) ky,λw2=>run_equalIn_bool' w2 d f.type b1 b2 hu⟩
  ·rename_i s1 s2 hu
   injection h with h
   subst h;obtain⟨rfl,_,_⟩:=hx;obtain⟨rfl,_,_⟩:=hy;exact⟨_,_,λw2=>run_part_plain w2 (e:=f.type) (by simp [Program.plainKey,hu]) kx,λw2=>run_part_plain w2 (e:=f.type) (by simp [Program.plainKey,hu]) ky,λw2=>run_equalIn_string w2 d f.type s1 s2 hu⟩
  cases h
theorem dO {w:World} {a:Act} {E:St} {blk:Root->Nat} {X Y:Array Value} (d:Nat):∀{fs:List Field} {j:Nat} {xs ys:List TV} {vx vy:List Value} {F U F' U':List Nat} {r:Bool},XW P fs j xs ys=some r->CH w a E blk xs vx F U->CH w a E blk ys vy F' U'->
  (∀i v,vx[i]?=some v->X[j+i]?=some v)->(∀i v,vy[i]?=some v->Y[j+i]?=some v)->∀w2:World,(Op.eqFields (d+1) X Y fs).run P w2= .ok r w2
 |[],j,xs,ys,vx,vy,F,U,F',U',r,h,hx,hy,kx,ky,w2=>by
  cases xs<;>cases ys<;>simp only [XW,reduceCtorEq,Ap]at h;subst h;rfl
 |f::fs,j,xs,ys,vx,vy,F,U,F',U',r,h,hx,hy,kx,ky,w2=>by
  cases xs with
  |nil=>simp [XW]at h
  |cons x xs=>
   cases ys with
   |nil=>simp [XW]at h
   |cons y ys=>
    simp only [XW]at h;split at h
    ·rename_i b c h1 h2
     injection h with h
     subst h;obtain⟨v,vs,F1,F2,U1,U2,rfl,_,_,e1,e2⟩:=hx;obtain⟨v',vs',F1',F2',U1',U2',rfl,_,_,e1',e2'⟩:=hy;obtain⟨g1,A,B,g2,g3,g4⟩:=AEb (X:=X) (Y:=Y) d h1 e1 e1' (kx 0 v rfl) (ky 0 v' rfl);have ih:=dO d h2 e2 e2' (λi u hu=>by rw [F7,Na 1 i];exact kx (i+1) u (by simpa using hu)) (λi u hu=>by rw [F7,Na 1 i];exact ky (i+1) u (by simpa using hu)) w2;simp only [Op.eqFields,A4 g1,Sem.run_bind,g2,g3,g4,Result.andThen_ok];cases b
     ·simp
     simpa using ih
    cases h
theorem peq {o:Oper} {b:Bool} (h:AEP P E o=some b):Zo P E o (.one (.bool (bif(N3 o).1 then !b else b))):=by
 intro N w0 FA UA w a blk FS US hr;unfold AEP at h
 cases hb:(ACB o&&ABI P (N3 o).2.1)with
 |false=>rw [hb]at h;cases h
 |true=>
  rw [hb]at h;simp only [Ae]at h;rw [An]at hb;split at h
  ·rename_i xs ys hx hy;obtain⟨U1,k1,_⟩:=Jx hr hx;obtain⟨U2,k2,_⟩:=Jx hr hy;simp only [E8]at k1 k2;obtain⟨vx,e1,c1⟩:=k1;obtain⟨vy,e2,c2⟩:=k2;have hT:=hb.2;simp only [ABI,An,Dg]at hT;have e:P.underlying (N3 o).2.1=some (.struct (P.fieldsOf (N3 o).2.1)):=by
    have:=hT.1.1;split at this
    ·rename_i fs f;simp only [Program.fieldsOf,f]
    cases this
   have c:∀w2:World,(Op.equalIn 10000 (N3 o).2.1 (.agg vx.toArray) (.agg vy.toArray)).run P w2= .ok b w2:=λw2=>by
    rw [run_equalIn_struct w2 9999 _ _ _ e hT.1.2];exact dO (X:=vx.toArray) (Y:=vy.toArray) 9998 h c1 c2 (λi v hv=>by simpa using hv) (λi v hv=>by simpa using hv) w2
   refine⟨.bool (bif(N3 o).1 then !b else b),[],λw2 _=>?_,by simp [E8,CL,CB,Value.cells],by simp⟩;have d:=hb.1;unfold ACB at d;split at d
   ·rename_i t x y t' ho;simp only [N3,ho]at e1 e2 c hT⊢;simp [execOp,ho,e1,e2,run_eqGuard_agg w2 _ _ _ _ _ _ hT.2,run_eql_struct,c w2]
   ·rename_i t x y t' ho;simp only [N3,ho]at e1 e2 c hT⊢;simp [execOp,ho,e1,e2,run_eqGuard_agg w2 _ _ _ _ _ _ hT.2,run_neq_struct,c w2]
   cases d
  cases h
end
end Go.TI
namespace Go.TI
open Go Go.RowKit
abbrev pb (n:Nat):SV:= .one (.ptr (.box n) 0 [] 0)
abbrev px (n:Nat):SV:= .one (.ptr (.ext n) 0 [] 0)
abbrev i6 (n:Int):TV:= .int .i64 n
abbrev tb (b:Bool):TV:= .bool b
abbrev ts (s:ByteArray):TV:= .str s
abbrev rg (n:Nat):List AV:=List.replicate n .gone
section
variable {P:Program} {N:Nat} {E:St} {ops:Array Oper} {i m:Nat} {Q:Exit->St->Prop} {K:St->Prop} {α β γ:Type} {r:β} {ls ls2:List Nat} {bs bs2:List Root} {S V W:Type} {id:Nat} {ts dn:List Nat}
theorem jn {a v:V} {H:V->St} (h:some v=some a) (hb:bs.all (λr=>r.mem&&(E.boxes r).isSome)=true:=by kernel_rfl) (hn:FI E ls bs=H v:=by kernel_rfl):∃a',some a=some a'/\nt ls bs E (H a'):=by
 injection h with h
 subst h;exact⟨_,rfl,hb,hn⟩
theorem jm {a:V⊕W} {v:V} {H:V->St} (h:some (.inl v)=some a) (hb:bs.all (λr=>r.mem&&(E.boxes r).isSome)=true:=by kernel_rfl) (hn:FI E ls bs=H v:=by kernel_rfl):∃a',a.getLeft? =some a'/\nt ls bs E (H a'):=by
 injection h with h
 subst h;exact⟨_,rfl,hb,hn⟩
theorem jl {H:S->St} {o:S⊕W} {s:S} (h:some (.inl s)=some o) (hb:bs.all (λr=>r.mem&&(E.boxes r).isSome)=true:=by kernel_rfl) (hn:FI E ls bs=H s:=by kernel_rfl):∃s,o= .inl s/\nt ls bs E (H s):=by
 injection h with h
 subst h;exact⟨_,rfl,hb,hn⟩
theorem jx {H:V->St} {o:S⊕(V⊕W)} {v:V} (h:some (.inr (.inl v))=some o) (hb:bs.all (λr=>r.mem&&(E.boxes r).isSome)=true:=by kernel_rfl) (hn:FI E ls bs=H v:=by kernel_rfl):∃v,o= .inr (.inl v)/\nt ls bs E (H v):=by
 injection h with h
 subst h;exact⟨_,rfl,hb,hn⟩
theorem jv {H:V->St} {o:S⊕V} {v:V} (h:some (.inr v)=some o) (hb:bs.all (λr=>r.mem&&(E.boxes r).isSome)=true:=by kernel_rfl) (hn:FI E ls bs=H v:=by kernel_rfl):∃v,o= .inr v/\nt ls bs E (H v):=by
 injection h with h
 subst h;exact⟨_,rfl,hb,hn⟩
theorem jr {a:V⊕β} {w:β} {f:V->Option β} (h:some (.inr w)=some a) (hk:Sum.elim f some a=some r):some w=some r:=by
 injection h with h
 subst h;exact hk
theorem jo {o:S⊕(V⊕β)} {w:β} {f:V->Option β} (h:some (.inr (.inr w))=some o) (hk:∀w,o= .inr (.inr w)->Sum.elim f some (.inr w)=some r):some w=some r:=by
 injection h with h
 exact hk w h.symm
theorem rr {v r:β} (h:some v=some r):v=r:=Option.some.inj h
theorem rq {e:Exit} {rs:List ResultVar} {res:SV} (he:e= .normal\/e= .ret:=by first|exact .inr rfl|exact .inl rfl) (hk:(EN P E rs).map (λz=>Gc z.1)=some res:=by kernel_rfl):(e= .normal\/e= .ret)/\∃ss E',EN P E rs=some (ss,E')/\Gc ss=res:=⟨he,rsz hk⟩
theorem rx {e:Exit} {rs:List ResultVar} {res:SV} {cells:List TV} (he:e= .normal\/e= .ret:=by first|exact .inr rfl|exact .inl rfl) (hk:(EN P E rs).map (λz=>(Gc z.1,z.2.boxes (.ext 0)))=some (res,some cells):=by kernel_rfl):(e= .normal\/e= .ret)/\∃ss E',EN P E rs=some (ss,E')/\Gc ss=res/\E'.boxes (.ext 0)=some cells:=⟨he,rsx hk⟩
theorem Fp {c y:Code} {x:Option V} {k:V->Option β} (h:x.bind k=some r) (ls:List Nat) (bs:List Root) (H:V->St)
  (h1:∀a,x=some a->Wp P N c E (jQ ls bs H (some a) (Ux (λE'=>Wp P N y E' Q) Q))) (h2:∀a,k a=some r->Wp P N y (H a) Q):Wp P N (.seq c y) E Q:=
 Wp.seq (Hc h ls bs H h1 λa ha E' hE=>AY hE (h2 a ha))
theorem sl1 {c y:Code} {id:Nat} {body:S->Option (S⊕V)} {s0:S} {k:V->Option β} (h:(Av body s0).bind k=some r) (ls:List Nat) (bs:List Root) (H:S->St) (ls2:List Nat) (bs2:List Root) (H2:V->St)
  (hb:∀s o,body s=some o->Wp P N c (H s) (lQ1 id ls bs H ls2 bs2 H2 o (Ux (λE'=>Wp P N y E' Q) Q))) (h2:∀v,k v=some r->Wp P N y (H2 v) Q)
  (h0:bs.all (λr=>r.mem&&(E.boxes r).isSome)=true:=by kernel_rfl) (hn:FI E ls bs=H s0:=by kernel_rfl):Wp P N (.seq (.block id (.loop c)) y) E Q:=
 Wp.seq (BM h ls bs H ls2 bs2 H2 ⟨h0,hn⟩ hb λv hv E' hE=>AY hE (h2 v hv))
theorem sl2 {c y:Code} {id:Nat} {body:S->Option (S⊕(V⊕W))} {s0:S} {k:V⊕W->Option β} (h:(Av body s0).bind k=some r) (ls:List Nat) (bs:List Root) (H:S->St) (ls2:List Nat) (bs2:List Root) (H2:V->St)
  (hb:∀s o,body s=some o->(∀w,o= .inr (.inr w)->k (.inr w)=some r)->Wp P N c (H s) (lQ id ls bs H ls2 bs2 H2 o (Ux (λE'=>Wp P N y E' Q) Q))) (h2:∀v,k (.inl v)=some r->Wp P N y (H2 v) Q)
  (h0:bs.all (λr=>r.mem&&(E.boxes r).isSome)=true:=by kernel_rfl) (hn:FI E ls bs=H s0:=by kernel_rfl):Wp P N (.seq (.block id (.loop c)) y) E Q:=
 Wp.seq (Er h ls bs H ls2 bs2 H2 ⟨h0,hn⟩ hb λv hv E' hE=>AY hE (h2 v hv))
theorem ws {y:Code} (h:RW P N ops 0 E (Ux (λE'=>Wp P N y E' Q) Q)):Wp P N (.seq (.region id ops false) y) E Q:=Wp.seq (Au h)
theorem gw {y:Code} {ops2:Array Oper} (k m:Nat) (h:RW P N ops2 0 (AE6 P N ops k m i E) (Ux (λE'=>Wp P N y E' Q) Q)) (hk:(qG P N ops k m i E).isSome=true:=by kernel_rfl) (hn:Nat.ble ops.size (i+k)=true:=by kernel_rfl):RW P N ops i E (Ux (λE'=>Wp P N (.seq (.region id ops2 false) y) E' Q) Q):=Ai k m (RW.nil (ws h) hn) hk
theorem gn (k m:Nat) (h:Q .normal (AE6 P N ops k m i E)) (hk:(qG P N ops k m i E).isSome=true:=by kernel_rfl) (hn:Nat.ble ops.size (i+k)=true:=by kernel_rfl):RW P N ops i E Q:=Ai k m (RW.nil h hn) hk
theorem CG {f:α->List TV} {sz:Nat} {l:List α} {n:Int} {kk:α->Option β} (hf:∀x,(f x).length=sz) (h:(gi l n).bind kk=some r) (hk:∀x,gi l n=some x->kk x=some r->RW P N ops (i+1) (E.put (oA ops i).dst (rE E (oA ops i) (n.toNat*sz+0))) Q)
  (hc:ACA P E (oA ops i) sz=some (AT f l,n):=by kernel_rfl) (hq:qok P N ops i E=true:=by kernel_rfl):RW P N ops i E Q:=
 bd h λx gx h=>RW.q (Js hf gx hc) (hk x gx h) hq
def yX (P:Program) (N:Nat) (ops:Array Oper) (ts dn:List Nat) (E:St) (i:Nat):Option St:=bif Nat.blt i ops.size&&Hx N (oA ops i)&&tX ops ts dn i then
 (match B7 P ops E (oA ops i)with
 |some false=>some (E.put (oA ops i).dst (.tup []))
 |some true=>match IM P E (oA ops i)with
  |some s=>some (E.put (oA ops i).dst s)
  |none=>xtE N E (oA ops i)
 |none=>none)else none
theorem tst {E':St} (hs:yX P N ops ts dn E i=some E') (h:KW P N ops ts (i::dn) E' Q):KW P N ops ts dn E Q:=by
 unfold yX at hs
 cases hb:(Nat.blt i ops.size&&Hx N (oA ops i)&&tX ops ts dn i)with
 |false=>rw [hb]at hs;cases hs
 |true=>
  rw [hb]at hs;simp only [Ae]at hs;split at hs
  ·rename_i hg
   injection hs with hs
   subst hs;exact AGp i h hg hb
  ·rename_i hg;simp only [An]at hb;have ho:VR P ops E i=true:=by simp only [VR,hb.1.1,hg,Jr]
   split at hs
   ·rename_i s a
    injection hs with hs
    subst hs;exact AFK i a h (by rw [ho,hb.1.2,hb.2];rfl)
   exact IY i (by rw [hs];exact h) (by rw [hs];rfl) (by rw [ho,hb.2];rfl)
  cases hs
def AAi (P:Program) (N:Nat) (ops:Array Oper) (ts dn:List Nat) (E:St):List Nat->Option (Nat×St)
 |[]=>none
 |i::l=>match yX P N ops ts dn E i with
  |some E'=>some (i,E')
  |none=>AAi P N ops ts dn E l
theorem sG:∀{l:List Nat} {E':St},AAi P N ops ts dn E l=some (i,E')->yX P N ops ts dn E i=some E'
 |[],_,h=>by cases h
 |j::l,E',h=>by
  simp only [AAi]at h;split at h
  ·rename_i E1 h1
   injection h with h
   injection h with h2 h3
   subst h2 h3;exact h1
  exact sG h
def AEU (P:Program) (N:Nat) (ops:Array Oper) (ts:List Nat) (mv:List Nat) (E:St) (i:Nat):Option St:=bif VR P ops E i&&(kp (oA ops i)||ts.contains i)then C7 P N (mv.contains i) E (oA ops i)else none
def AEp {A:Type} (f:A->Option (List St)):List A->Option (List St)
 |[]=>some []
 |x::l=>match f x,AEp f l with
  |some a,some b=>some (a++b)
  |_,_=>none
theorem tA {A:Type} {f:A->Option (List St)}:∀{l:List A} {L:List St},AEp f l=some L->∀x∈l,∃a,f x=some a/\∀E∈a,E∈L
 |[],_,_,x,hx=>by cases hx
 |y::l,L,h,x,hx=>by
  simp only [AEp]at h;split at h
  ·rename_i a b h1 h2
   injection h with h
   subst h
   rcases By.1 hx with rfl|hx
   ·exact⟨a,h1,λE hE=>AI _ hE⟩
   obtain⟨a',h3,h4⟩:=tA h2 x hx;exact⟨a',h3,λE hE=>AL _ (h4 E hE)⟩
  cases h
def AAN (P:Program) (N:Nat) (ops:Array Oper) (ts mv:List Nat):Nat->List Nat->St->Option (List St)
 |0,_,_=>none
 |n+1,dn,E=>match Region.ready .any ops (lsd ops.size dn)with
  |[]=>some [E]
  |rs=>bif Nat.blt dn.length ops.size then(match AAi P N ops ts dn E rs with
   |some (i,E')=>AAN P N ops ts mv n (i::dn) E'
   |none=>AEp (λi=>match AEU P N ops ts mv E i with
    |some E'=>AAN P N ops ts mv n (i::dn) E'
    |none=>none) rs)else none
theorem yN {mv:List Nat}:∀{n:Nat} {dn:List Nat} {E:St} {L:List St},AAN P N ops ts mv n dn E=some L->(∀E'∈L,Q .normal E')->KW P N ops ts dn E Q
 |0,_,_,_,h,_=>by cases h
 |n+1,dn,E,L,h,hq=>by
  simp only [AAN]at h;split at h
  ·rename_i hr
   injection h with h
   subst h;exact Bg (hq E (by simp)) (by rw [hr];rfl)
  rename_i b
  cases hb:Nat.blt dn.length ops.size with
  |false=>rw [hb]at h;cases h
  |true=>
   rw [hb]at h;simp only [Ae]at h;split at h
   ·rename_i i E' hf;exact tst (sG hf) (yN h hq)
   refine KW.all _ (λi hi=>?_) b (by simp only [rdy,hb,nS,KD]);obtain⟨a,h1,h2⟩:=tA h i hi;split at h1
   ·rename_i E' hs;unfold AEU at hs
    cases hc:(VR P ops E i&&(kp (oA ops i)||ts.contains i))with
    |false=>rw [hc]at hs;cases hs
    |true=>
     rw [hc]at hs;exact Lz hs (yN h1 λE'' hE=>hq E'' (h2 E'' hE)) hc
   cases h1
def AFf (P:Program) (N:Nat) (ops:Array Oper) (ts mv dn:List Nat) (E:St) (bs:List Root):Bool:=match AAN P N ops ts mv (ops.size+1) dn E with
 |some L=>L.all λE'=>bs.all (λr=>r.mem&&(E'.boxes r).isSome)
 |none=>false
def ACc (P:Program) (N:Nat) (ops:Array Oper) (ts mv dn:List Nat) (E:St):List St:=(AAN P N ops ts mv (ops.size+1) dn E).getD []
theorem AFe {mv:List Nat} {X:St} (hb:AFf P N ops ts mv dn E bs=true) (hn:(ACc P N ops ts mv dn E).map (λE'=>FI E' ls bs)=(ACc P N ops ts mv dn E).map λ_=>X) (hq:∀E',nt ls bs E' X->Q .normal E'):KW P N ops ts dn E Q:=by
 unfold AFf at hb;split at hb
 ·rename_i L hL
  refine yN hL λE' hE=>hq E' ⟨I1.1 hb E' hE,?_⟩
  rw [ACc,hL,Bc]at hn;have:∀(L:List St),L.map (λE'=>FI E' ls bs)=L.map (λ_=>X)->∀E'∈L,FI E' ls bs=X:=by
   intro L
   induction L with
   |nil=>intro _ _ h;cases h
   |cons x L ih=>
    intro h E' hE;rw [BV,BV]at h
    injection h with h1 h2
    rcases By.1 hE with rfl|hE
    ·exact h1
    exact ih h2 E' hE
  exact this L hn E' hE
 cases hb
theorem oj {a v:V} {H:V->St} {Q0:Exit->St->Prop} (mv:List Nat) (h:some v=some a) (hb:AFf P N ops ts mv dn E bs=true:=by kernel_rfl) (hn:(ACc P N ops ts mv dn E).map (λE'=>FI E' ls bs)=(ACc P N ops ts mv dn E).map (λ_=>H v):=by kernel_rfl):KW P N ops ts dn E (jQ ls bs H (some a) Q0):=
 AFe hb hn λE' hE=>by
  injection h with h
  subst h;exact⟨_,rfl,hE⟩
theorem nP {c:List PanicEntry} {X:Prop} (h:(Exit.panic c= .normal\/Exit.panic c= .ret)/\X):False:=by rcases h with⟨h|h,_⟩<;>cases h
end
end Go.TI
namespace Go.TI
open Go Go.RowKit
section
variable {P:Program} {N:Nat} {E:St} {ops:Array Oper} {i m:Nat} {Q:Exit->St->Prop} {α β γ:Type} {rr:β}
def sP (o:Oper):Nat:=o.dst.getD 0
def AGF (E:St) (ops:Array Oper) (i:Nat) (r:Root) (t:TV):St:=((((((E.put (some (sP (oA ops i))) (.one .junk)).put (some (sP (oA ops (i+1)))) (.one .junk))).setRoot r [t]).bump r).put (some (sP (oA ops (i+2)))) (.tup []))
def AE0:Operand->Nat
 | .tmp n=>n
 |_=>0
def ADC (o:Oper):Nat:=match o.op with
 | .makeInterface _ x=>AE0 x
 |_=>0
def AE2 (o:Oper):Nat:=match o.op with
 | .makeFunc _ _ c=>AE0 (c[0]?.getD (.tmp 0))
 |_=>0
def AFU (o:Oper):Array TypeId:=match o.op with
 | .call c=>c.argTypes
 |_=> #[]
def yV (s:SV):Nat:=match s with
 | .one (.view _ v _ _)=>v
 |_=>0
theorem RW.srt {l:List γ} {kk:List γ->Option β} {x:Option (List γ)} (h:x.bind kk=some rr) {enc:γ->List TV} {sz e t:Nat} {lfn:FuncId} (r:Root) (hs:∀l',x=some l'->Rk P (Wc (oA ops (i+2))) t e sz enc lfn l l')
  (hk:∀l',x=some l'->kk l'=some rr->RW P N ops (i+3) (AGF E ops i r (.sl true e sz (AT enc l'))) Q) (a:∀x,(enc x).length=sz) (c:∀x,(enc x).all TV.flat=true)
  (hx:E.slots (ADC (oA ops i))= .one (.view r (yV (E.slots (ADC (oA ops i)))) [] 0):=by kernel_rfl) (b:E.ver r=yV (E.slots (ADC (oA ops i))):=by kernel_rfl) (hp:E.ptr? (.tmp (AE2 (oA ops (i+1))))=some (r,[],0):=by kernel_rfl) (hc:E.boxes r=some [.sl true e sz (AT enc l)]:=by kernel_rfl) (hm:r.mem=true:=by kernel_rfl)
  (h1:(oA ops i).op= .makeInterface t (.tmp (ADC (oA ops i))):=by kernel_rfl) (h2:(oA ops (i+1)).op= .makeFunc (.func lfn) #[] #[.tmp (AE2 (oA ops (i+1)))]:=by kernel_rfl) (h3:(oA ops (i+2)).op= .call {callee:= .value (.func (Wc (oA ops (i+2)))),args:= #[.tmp (sP (oA ops i)),.tmp (sP (oA ops (i+1)))],argTypes:=AFU (oA ops (i+2))}:=by kernel_rfl)
  (k1:(oA ops i).dst=some (sP (oA ops i)):=by kernel_rfl) (k2:(oA ops (i+1)).dst=some (sP (oA ops (i+1))):=by kernel_rfl) (k3:(oA ops (i+2)).dst=some (sP (oA ops (i+2))):=by kernel_rfl) (g1:(oA ops i).guard=none:=by kernel_rfl) (g2:(oA ops (i+1)).guard=none:=by kernel_rfl) (g3:(oA ops (i+2)).guard=none:=by kernel_rfl)
  (hN:(Nat.blt (sP (oA ops i)) N&&Nat.blt (sP (oA ops (i+1))) N&&Nat.blt (sP (oA ops (i+2))) N&&!Nat.beq (sP (oA ops i)) (sP (oA ops (i+1)))&&!Nat.beq (AE2 (oA ops (i+1))) (sP (oA ops i))&&Nat.blt 0 sz&&Nat.blt (i+2) ops.size)=true:=by kernel_rfl)
  (ht:P.underlying t=some (.slice e):=by kernel_rfl) (hf:mX P N (oA ops (i+2))=true:=by kernel_rfl):RW P N ops i E Q:=by
 obtain⟨l',hl',h⟩:=Ar.1 h;simp only [An,Dg]at hN;obtain⟨⟨⟨⟨⟨⟨q1,q2⟩,q3⟩,q4⟩,q5⟩,q6⟩,q7⟩:=hN;have b2:Nat.blt (i+1) ops.size=true:=by rw [Bz]at q7⊢;omega
 have b1:Nat.blt i ops.size=true:=by rw [Bz]at q7⊢;omega
 have hk':=hk l' hl' h;unfold RW at hk'⊢;rw [KU b1,KU b2,KU q7];exact AC.srt (hs l' hl') hk' a c hx b hp hc hm h1 h2 h3 k1 k2 k3 g1 g2 g3 q1 q2 q3 q4 q5 q6 ht (Pt hf).choose_spec.choose_spec.2.1
def nE (o:Oper):Nat:=match o.op with
 | .call c=>match c.args.toList with
  |[x]=>AE0 x
  |_=>0
 |_=>0
def nU (s:SV):Nat:=match s with
 | .one (.view (.slot n) _ _ _)=>n
 |_=>0
end
end Go.TI
namespace Go.TI
open Go
theorem NM {n:Int} (h1: -9223372036854775808<=n) (h2:n<=9223372036854775807):IntKind.i64.wrap n=n:=by rw [IntKind.wrap_i64];omega
theorem CC {a b:Int} (h1: -9223372036854775808<=a+b) (h2:a+b<=9223372036854775807):ad a b=a+b:=NM h1 h2
theorem Cw {a b:Int} (h1: -9223372036854775808<=a-b) (h2:a-b<=9223372036854775807):sb a b=a-b:=NM h1 h2
theorem Ob {a b:Int} (h1: -9223372036854775808<=a*b) (h2:a*b<=9223372036854775807):ml a b=a*b:=NM h1 h2
theorem ad1 {i:Nat} (h:i<9223372036854775807):ad (i:Int) 1=((i+1:Nat):Int):=by rw [CC]<;>omega
theorem J9 (a b:ByteArray):seq a b=decide (a=b):=by
 unfold seq;rw [DG,Ci,A9];constructor
 ·intro h;rw [ByteArray.toList_eq,ByteArray.toList_eq]at h;cases a;cases b;simp only [ByteArray.mk.injEq];exact tT h
 intro h;rw [h]
section
variable {α β σ S:Type}
theorem AF {l:List α} {i:Nat}:gi l (i:Int)=l[i]? :=by
 unfold gi;rw [A4 (by omega)];simp
theorem H7 {l:List α} {i:Nat} {x:α}:si l (i:Int) x=l.set i x:=by simp [si]
theorem AH {l:List α} {i:Nat}:decide ((i:Int)<ln l)=decide (i<l.length):=by
 rw [DG,A9,A9];simp [ln]
def Om (step:σ->Nat->α->σ⊕β) (fin:σ->β):List α->Nat->σ->β
 |[],_,s=>fin s
 |x::l,i,s=>match step s i x with
  | .inl s'=>Om step fin l (i+1) s'
  | .inr b=>b
theorem eD {body:S->Option (S⊕β)} (mkS:σ->Int->S) (l:List α) (step:σ->Nat->α->σ⊕β) (fin:σ->β) (Inv:Nat->σ->Prop)
  (h1:∀s i x,l[i]?=some x->Inv i s->body (mkS s (i:Nat))=some (match step s i x with| .inl s'=> .inl (mkS s' ((i+1:Nat):Int))| .inr b=> .inr b)/\∀s',step s i x= .inl s'->Inv (i+1) s')
  (h2:∀s,Inv l.length s->body (mkS s (l.length:Nat))=some (.inr (fin s))):∀(n i:Nat) (s:σ),i+n=l.length->Inv i s->Av body (mkS s (i:Nat))=some (Om step fin (l.drop i) i s)
 |0,i,s,hi,hs=>by
  have:i=l.length:=by omega
  subst this;rw [A6,h2 s hs,CP (A0 _)];rfl
 |n+1,i,s,hi,hs=>by
  have a:i<l.length:=by omega
  obtain⟨h3,h4⟩:=h1 s i l[i] (Ab a) hs;rw [A6,h3,Bh a,Om]
  cases c:step s i l[i]with
  |inl s'=>simp only [];exact eD mkS l step fin Inv h1 h2 n (i+1) s' (by omega) (h4 s' c)
  |inr b=>rfl
theorem Pa {body:S->Option (S⊕β)} (mkS:σ->Int->S) (l:List α) (step:σ->Nat->α->σ⊕β) (fin:σ->β) (Inv:Nat->σ->Prop)
  (h1:∀s i x,l[i]?=some x->Inv i s->body (mkS s (i:Nat))=some (match step s i x with| .inl s'=> .inl (mkS s' ((i+1:Nat):Int))| .inr b=> .inr b)/\∀s',step s i x= .inl s'->Inv (i+1) s')
  (h2:∀s,Inv l.length s->body (mkS s (l.length:Nat))=some (.inr (fin s))) {s:σ} (hs:Inv 0 s):Av body (mkS s 0)=some (Om step fin l 0 s):=
 eD mkS l step fin Inv h1 h2 l.length 0 s (by omega) hs
end
end Go.TI
namespace Go.TI
open Go
section
variable {α:Type}
theorem AAk {β:Type} {body:Int->Option (Int⊕(Unit⊕Bool))} (a:List α) (b:List β) (p:α->β->Bool) (hl:a.length=b.length) (hM:a.length<=9223372036854775807)
  (h1:∀(i:Nat) x y,a[i]?=some x->b[i]?=some y->body (i:Nat)=some (bif p x y then .inl (((i+1:Nat)):Int)else .inr (.inr false))) (h2:body (a.length:Nat)=some (.inr (.inl ()))):
  Av body 0=some (bif(a.zip b).all (λz=>p z.1 z.2)then .inl ()else .inr false):=by
 have hz:(a.zip b).length=a.length:=by simp [hl]
 have:=Pa (body:=body) (λ(_:Unit) i=>i) (a.zip b) (λ_ _ z=>bif p z.1 z.2 then .inl ()else .inr (.inr false)) (λ_=> .inl ()) (λ_ _=>True)
  (λs i x hx _=>by
   refine⟨?_,λ_ _=>trivial⟩;obtain⟨x1,x2⟩:=x;have hx':=Ah.1 hx;obtain⟨d,hx'⟩:=hx';rw [List.getElem_zip]at hx'
   injection hx' with e1 e2
   rw [h1 i x1 x2 (by rw [<-e1];exact Ab _) (by rw [<-e2];exact Ab _)];simp only
   cases p x1 x2<;>rfl)
  (λs _=>by rw [hz];exact h2) (s:=()) trivial
 rw [this];have c:∀(m:List (α×β)) (i:Nat),Om (λ(_:Unit) _ z=>bif p z.1 z.2 then .inl ()else .inr (.inr false)) (λ_=>(.inl ():Unit⊕Bool)) m i ()=bif m.all (λz=>p z.1 z.2)then .inl ()else .inr false:=by
  intro m
  induction m with
  |nil=>intro i;rfl
  |cons z m ih=>
   intro i;simp only [Om,EG]
   cases p z.1 z.2 with
   |false=>rfl
   |true=>simp only [Ae,C8];exact ih _
 rw [c]
theorem yU {p:α->α->Bool}:∀{a b:List α},(∀x∈a,∀y∈b,(p x y=true↔x=y))->a.length=b.length->((a.zip b).all (λz=>p z.1 z.2)=true↔a=b)
 |[],[],_,_=>by simp
 |x::a,y::b,hp,h=>by
  have ih:=yU (p:=p) (a:=a) (b:=b) (λx' hx y' hy=>hp x' (DE _ hx) y' (DE _ hy)) (by simpa using h);simp only [List.zip_cons_cons,EG,An,ih,hp x CD y CD,PC]
 |[],_::_,_,h=>by simp at h
 |_::_,[],_,h=>by simp at h
end
end Go.TI
namespace Go.TI
open Go
section
variable {α β σ S:Type}
theorem SY {body:S->Option (S⊕β)} (mkS:σ->Int->S) (n:Nat) (Inv:Nat->σ->Prop) (Q:β->Prop)
  (h1:∀s i,i<n->Inv i s->(∃s',body (mkS s (i:Nat))=some (.inl (mkS s' ((i+1:Nat):Int)))/\Inv (i+1) s')\/∃b,body (mkS s (i:Nat))=some (.inr b)/\Q b)
  (h2:∀s,Inv n s->∃b,body (mkS s (n:Nat))=some (.inr b)/\Q b):∀(k i:Nat) (s:σ),i+k=n->Inv i s->∃b,Av body (mkS s (i:Nat))=some b/\Q b
 |0,i,s,hi,hs=>by
  have:i=n:=by omega
  subst this;obtain⟨b,h3,h4⟩:=h2 s hs;exact⟨b,by rw [A6,h3],h4⟩
 |k+1,i,s,hi,hs=>by
  rcases h1 s i (by omega) hs with⟨s',h3,h4⟩|⟨b,h3,h4⟩
  ·obtain⟨b,h5,h6⟩:=SY mkS n Inv Q h1 h2 k (i+1) s' (by omega) h4;exact⟨b,by rw [A6,h3];exact h5,h6⟩
  exact⟨b,by rw [A6,h3],h4⟩
theorem Bq {body:S->Option (S⊕β)} (mkS:σ->Int->S) (n:Nat) (Inv:Nat->σ->Prop) (Q:β->Prop)
  (h1:∀s i,i<n->Inv i s->(∃s',body (mkS s (i:Nat))=some (.inl (mkS s' ((i+1:Nat):Int)))/\Inv (i+1) s')\/∃b,body (mkS s (i:Nat))=some (.inr b)/\Q b)
  (h2:∀s,Inv n s->∃b,body (mkS s (n:Nat))=some (.inr b)/\Q b) {s:σ} (hs:Inv 0 s):∃b,Av body (mkS s 0)=some b/\Q b:=
 SY mkS n Inv Q h1 h2 n 0 s (by omega) hs
theorem TU {body body':S->Option (S⊕β)} (mkS:σ->Int->S) (n:Nat) (Inv:Nat->σ->Prop) (Q:β->Prop)
  (h1:∀s i,i<n->Inv i s->body' (mkS s (i:Nat))=body (mkS s (i:Nat))/\((∃s',body (mkS s (i:Nat))=some (.inl (mkS s' ((i+1:Nat):Int)))/\Inv (i+1) s')\/∃b,body (mkS s (i:Nat))=some (.inr b)/\Q b))
  (h2:∀s,Inv n s->body' (mkS s (n:Nat))=body (mkS s (n:Nat))/\∃b,body (mkS s (n:Nat))=some (.inr b)/\Q b):∀(k i:Nat) (s:σ),i+k=n->Inv i s->∃b,Av body (mkS s (i:Nat))=some b/\Av body' (mkS s (i:Nat))=some b/\Q b
 |0,i,s,hi,hs=>by
  have:i=n:=by omega
  subst this;obtain⟨e,b,h3,h4⟩:=h2 s hs;exact⟨b,by rw [A6,h3],by rw [A6,e,h3],h4⟩
 |k+1,i,s,hi,hs=>by
  obtain⟨e,h⟩:=h1 s i (by omega) hs
  rcases h with⟨s',h3,h4⟩|⟨b,h3,h4⟩
  ·obtain⟨b,h5,h6,h7⟩:=TU mkS n Inv Q h1 h2 k (i+1) s' (by omega) h4;exact⟨b,by rw [A6,h3];exact h5,by rw [A6,e,h3];exact h6,h7⟩
  exact⟨b,by rw [A6,h3],by rw [A6,e,h3],h4⟩
theorem Oc {body body':S->Option (S⊕β)} (mkS:σ->Int->S) (n:Nat) (Inv:Nat->σ->Prop) (Q:β->Prop)
  (h1:∀s i,i<n->Inv i s->body' (mkS s (i:Nat))=body (mkS s (i:Nat))/\((∃s',body (mkS s (i:Nat))=some (.inl (mkS s' ((i+1:Nat):Int)))/\Inv (i+1) s')\/∃b,body (mkS s (i:Nat))=some (.inr b)/\Q b))
  (h2:∀s,Inv n s->body' (mkS s (n:Nat))=body (mkS s (n:Nat))/\∃b,body (mkS s (n:Nat))=some (.inr b)/\Q b) {s:σ} (hs:Inv 0 s):∃b,Av body (mkS s 0)=some b/\Av body' (mkS s 0)=some b/\Q b:=
 TU mkS n Inv Q h1 h2 n 0 s (by omega) hs
theorem Yx {body:Int->Option (Int⊕β)} (l:List α) (p:Nat->α->Bool) (no yes:β) (hM:l.length<=9223372036854775807)
  (h1:∀(i:Nat) x,l[i]?=some x->body (i:Nat)=some (bif p i x then .inl (((i+1:Nat)):Int)else .inr no)) (h2:body (l.length:Nat)=some (.inr yes)):
  Av body 0=some (bif l.zipIdx.all (λz=>p z.2 z.1)then yes else no):=by
 have:=Pa (body:=body) (λ(_:Unit) i=>i) l (λ_ i x=>bif p i x then .inl ()else .inr no) (λ_=>yes) (λ_ _=>True)
  (λs i x hx _=>by
   refine⟨?_,λ_ _=>trivial⟩;rw [h1 i x hx]
   cases p i x<;>rfl)
  (λs _=>h2) (s:=()) trivial
 rw [this];have a:∀(m:List α) (i:Nat),Om (λ(_:Unit) i x=>bif p i x then .inl ()else .inr no) (λ_=>yes) m i ()=bif(m.zipIdx i).all (λz=>p z.2 z.1)then yes else no:=by
  intro m
  induction m with
  |nil=>intro i;rfl
  |cons z m ih=>
   intro i;simp only [Om,List.zipIdx_cons,EG]
   cases p i z with
   |false=>rfl
   |true=>simp only [Ae,C8];exact ih _
 rw [a]
theorem Yw {γ:Type} {body:Int×List γ->Option ((Int×List γ)⊕List γ)} (l:List α) (f:α->γ)
  (h1:∀(i:Nat) x (out:List γ),l[i]?=some x->out.length=i->body ((i:Nat),out)=some (.inl (((i+1:Nat):Int),out++ [f x]))) (h2:∀out,body ((l.length:Nat),out)=some (.inr out)):
  Av body (0,[])=some (l.map f):=by
 have:=Pa (body:=body) (λ(s:List γ) i=>(i,s)) l (λout _ x=>(.inl (out++ [f x]):List γ⊕List γ)) (λout=>out) (λi out=>out.length=i)
  (λs i x hx hi=>by
   refine⟨h1 i x s hx hi,λs' hs=>?_⟩
   injection hs with hs
   rw [<-hs,Ag,Aj,hi])
  (λs _=>h2 s) (s:=[]) rfl
 rw [this];have a:∀(m:List α) (i:Nat) (out:List γ),Om (λout _ x=>(.inl (out++ [f x]):List γ⊕List γ)) (λout=>out) m i out=out++m.map f:=by
  intro m
  induction m with
  |nil=>intro i out;simp [Om]
  |cons z m ih=>
   intro i out;simp only [Om,ih,BV,Aq,Cq]
 rw [a,A7]
theorem wH {γ:Type} {body:Int×List γ->Option ((Int×List γ)⊕List γ)} (n:Nat) (f:Nat->γ)
  (h1:∀(i:Nat) (out:List γ),i<n->out.length=i->body ((i:Nat),out)=some (.inl (((i+1:Nat):Int),out++ [f i]))) (h2:∀out,body ((n:Nat),out)=some (.inr out)):
  Av body (0,[])=some ((List.range n).map f):=
 Yw (List.range n) f (λi x out hx ho=>by
  obtain⟨a,hx⟩:=Ah.1 hx;rw [List.getElem_range]at hx;rw [<-hx]
  exact h1 i out (by simpa using a) ho) (λout=>by rw [Cj];exact h2 out)
theorem Ys {by_:Nat} {z:α} {n:Nat} (h:by_*n<=281474976710656) (h2:n<=9223372036854775807):mk by_ z (n:Int)=some (List.replicate n z):=by
 unfold mk;have:((by_*n:Nat):Int)<=281474976710656:=by omega
 rw [Int.natCast_mul]at this;rw [A4 ⟨by omega,this,by omega⟩,BA]
theorem C6 {by_:Nat} {l m:List α} (h:(l.length+m.length)*by_<=140737488355328):ap by_ l m=some (l++m):=A4 h
theorem Kh {l:List α} {i:Int} (h1:0<=i) (h2:i<l.length):gi l i=some (l[i.toNat]'(by omega)):=by
 unfold gi;rw [A4 h1];exact Ab _
theorem Cf {l:List α}:ln l=(l.length:Int):=rfl
end
end Go.TI
namespace Go.TI
open Go
def L (s:ByteArray):List UInt8:=s.data.toList
theorem HY {a b:ByteArray} (h:L a=L b):a=b:=by
 cases a;cases b;simp only [L]at h;simp only [ByteArray.mk.injEq];exact tT h
theorem Zt (s:ByteArray):(L s).length=s.size:=by cases s;rfl
theorem DB (a b:ByteArray):L (a++b)=L a++L b:=by simp [L]
theorem Eg (l:List UInt8):L (bs l)=l:=by simp [L,bs]
theorem IW (l:List Int):L (E9 l)=l.map λn=>UInt8.ofNat n.toNat:=strOfNums_data l
theorem HZ (s:ByteArray) (i j:Nat):L (s.extract i j)=((L s).drop i).take (j-i):=by
 have:s=ByteArray.mk (L s).toArray:=by cases s;simp [L]
 rw [this,ByteArray.extract_mk];simp [L]
theorem BO (s:ByteArray):FJ s=((L s).length:Int):=by rw [Zt];rfl
theorem Fo (s:ByteArray) {i:Nat} (h:i<(L s).length):sx s (i:Int)=some (((L s)[i]).toNat:Int):=by
 have h':i<s.size:=by rw [<-Zt];exact h
 unfold sx;rw [A4 ⟨by omega,by omega⟩];unfold Bl.bt;rw [dif_pos (by simpa using h')];rfl
theorem F8 (s:ByteArray) {i j:Nat} (h1:i<=j) (h2:j<=(L s).length):sub s (i:Int) (j:Int)=some (s.extract i j):=by
 rw [Zt]at h2;unfold sub;rw [A4 ⟨by omega,by omega,by omega⟩,BA,BA]
theorem Gn (a b:ByteArray) (h:(L a).length+(L b).length<=9223372036854775807):HU a b=some (a++b):=by
 rw [Zt,Zt]at h;unfold HU;rw [A5 (by omega)]
theorem PS (a b:ByteArray):seq a b=decide (L a=L b):=by
 rw [J9,DG,A9,A9];exact⟨λh=>by rw [h],HY⟩
def Cy (n:Nat):List UInt8:=if h:n<=127 then [UInt8.ofNat n]else UInt8.ofNat (n %128+128)::Cy (n/128)
termination_by n
decreasing_by omega
def Fe:List UInt8->Nat
 |[]=>0
 |d::ds=>d.toNat %128+128*Fe ds
theorem Nd:∀(ds es:List UInt8),Fe (ds++es)=Fe ds+128^ds.length*Fe es
 |[],es=>by simp [Fe]
 |d::ds,es=>by
  simp only [BB,Fe,Nd ds es,Ay,We];rw [Nat.mul_add,F7];congr 2;rw [<-Nat.mul_assoc,yL 128]
theorem nW (d:UInt8):d.toNat<256:=d.toNat_lt
theorem IU {n:Nat} (h:n<=127):Cy n=[UInt8.ofNat n]:=by rw [Cy,dif_pos h]
theorem Qz {n:Nat} (h:¬n<=127):Cy n=UInt8.ofNat (n %128+128)::Cy (n/128):=by rw [Cy,dif_neg h]
theorem cS:∀{ds:List UInt8} {x:UInt8},Fe (ds++ [x])=0->x.toNat<128->x.toNat=0
 |[],x,h,hx=>by simp [Fe]at h;omega
 |d::ds,x,h,hx=>by
  simp only [BB,Fe]at h;exact cS (ds:=ds) (by omega) hx
theorem eP:∀(ds:List UInt8) (x:UInt8),(∀d∈ds,128<=d.toNat)->x.toNat<128->(Cy (Fe (ds++ [x]))=ds++ [x]↔¬(x.toNat=0/\ds≠ []))
 |[],x,_,hx=>by
  have:Fe ([]++ [x])=x.toNat:=by simp [Fe];omega
  rw [this,IU (by omega)];simp
 |d::ds,x,hd,hx=>by
  have ih:=eP ds x (λe he=>hd e (DE _ he)) hx;have h1:=hd d CD;have h2:=nW d;have hv:Fe (d::ds++ [x])=d.toNat-128+128*Fe (ds++ [x]):=by
   simp only [BB,Fe];omega
  rw [hv];by_cases h0:Fe (ds++ [x])=0
  ·have a:=cS h0 hx;rw [h0,IU (by omega)];refine iff_of_false ?_ (by simp [a]);intro e;have:=BH List.length e;simp at this
  rw [Qz (by omega)];have e1:UInt8.ofNat ((d.toNat-128+128*Fe (ds++ [x])) %128+128)=d:=by
   have:(d.toNat-128+128*Fe (ds++ [x])) %128+128=d.toNat:=by omega
   rw [this,UInt8.ofNat_toNat]
  have e2:(d.toNat-128+128*Fe (ds++ [x]))/128=Fe (ds++ [x]):=by omega
  rw [e1,e2,BB,PC];rw [ih];constructor
  ·rintro⟨_,h⟩ ⟨h3,_⟩;refine h ⟨h3,?_⟩;rintro rfl;apply h0;simp [Fe,h3]
  intro h;exact⟨rfl,λh3=>h ⟨h3.1,by simp⟩⟩
theorem sO:∀(n:Nat),(Cy n).length<=n+1
 |n=>by
  by_cases h:n<=127
  ·rw [IU h];simp
  have:=sO (n/128);rw [Qz h,Ay];omega
termination_by n=>n
decreasing_by omega
theorem eQ {body:Int×List Int->Option ((Int×List Int)⊕(Int×List Int))}
  (hb:∀n out,body (n,out)=bif decide (n>127)then((ap 1 out [(IntKind.u8.wrap (ad (Int.tmod n 128) 128))]).bind λc=>some (.inl ((qu n 128),c)))else some (.inr (n,out))):
  ∀(n:Nat) (out:List Int),out.length+n<=1099511627776->∃(m:Nat) (o:List Int),Av body ((n:Int),out)=some ((m:Int),o)/\m<=127/\o.length<=out.length+n/\(o++ [(m:Int)]).map (λn=>UInt8.ofNat n.toNat)=out.map (λn=>UInt8.ofNat n.toNat)++Cy n
 |n,out,h=>by
  rw [A6,hb];by_cases hn:n<=127
  ·rw [Af (by omega),Ac];exact⟨n,out,rfl,hn,by omega,by rw [IU hn];simp⟩
  rw [Ad (by omega),Ae,C6 (by simp only [Aj];omega),Aa];have e1:Int.tmod (n:Int) 128=((n %128:Nat):Int):=rfl;have e2:qu (n:Int) 128=((n/128:Nat):Int):=by
   unfold qu;rw [show Int.tdiv (n:Int) 128=((n/128:Nat):Int)from Int.ofNat_tdiv n 128|>.symm,NM (by omega) (by omega)]
  have e3:IntKind.u8.wrap (ad (Int.tmod (n:Int) 128) 128)=((n %128+128:Nat):Int):=by
   rw [e1,CC (by omega) (by omega),IntKind.wrap_u8];omega
  obtain⟨m,o,h1,h2,h3,h4⟩:=eQ hb (n/128) (out++ [((n %128+128:Nat):Int)]) (by simp only [Ag,Aj];omega);rw [e2,e3];refine⟨m,o,h1,h2,by simp only [Ag,Aj]at h3;omega,?_⟩;rw [h4,Qz hn,CA,Aq];rfl
termination_by n=>n
decreasing_by omega
theorem AFT {s:Int} (h0:0<=s) (h1:s<4294967296):IntKind.u32.wrap (Int.tdiv s 2)=Int.fdiv s (2^(min (1:Int).toNat IntKind.u32.bits)):=by
 have e:(2:Int)^(min (1:Int).toNat IntKind.u32.bits)=2:=by decide
 rw [e,IntKind.wrap_u32,Int.tdiv_eq_ediv_of_nonneg h0,Int.fdiv_eq_ediv_of_nonneg _ (by omega)];omega
theorem an1 {s:Int} (h0:0<=s) (h1:s<4294967296):an s 1=Int.tmod s 2:=by
 unfold an;obtain⟨n,rfl⟩:=CZ h0;have:(BitVec.ofInt 32 (n:Int)&&&BitVec.ofInt 32 1).toNat=n %2:=by
  rw [BitVec.toNat_and,BitVec.ofInt_natCast,BitVec.toNat_ofNat];have e1:(BitVec.ofInt 32 1).toNat=1:=by decide
  rw [e1,Nat.and_one_is_mod];omega
 rw [this,IntKind.wrap_u32,JV (by omega)];omega
theorem AEw (a b:Int):0<=xr a b/\xr a b<4294967296:=by
 unfold xr;rw [IntKind.wrap_u32];omega
end Go.TI
