/- What walks of Go code need. No condition. -/
import Derived.Test.YtpafpcbnmplkfaaGreatCCT2
import Derived.KernelRfl
import Derived.Laws.StructEq
import Derived.Laws.Strings
import Derived.Laws.BitsLemmas
set_option linter.unusedVariables false
namespace Go.TI
open Go Go.RowKit
def oA (ops:Array Oper) (i:Nat):Oper:=match ops[i]? with
 |some o=>o
 | none => { dst := none, op := .load 0 (.tmp 0), type := 0, pos := "", after := #[], guard := none }
variable {E E' E1 X:St} {P:Program} {N i sz m j by_ sz' e' d:Nat} {ops:Array Oper} {α β S V γ σ α' W A:Type} {Q:Exit->St->Prop} {dn ls FA UA:List Nat} {n n':Int} {w:World} {s:SV} {K:St->Prop} {as:List AV} {blk:Root->Nat} {b:Bool} {rs:List ResultVar} {fn:Func} {w0:Base} {FS US:Root->List Nat} {row row':List TV} {k:IntKind} {t':TV} {y:Code} {r:β} {l:List α} {f:α->List TV} {kk:α->Option β} {H:V->St} {tx:Option β} {ty:Option β} {f':α'->List TV} {l':List α'} {x':α'} {u:List α} {Am:List γ->JG} {fin:α->List TV} {s0:S} {xl:List γ}
theorem I1 {ops:Array Oper} (h:Nat.blt i ops.size=true):ops[i]?=some (oA ops i):=by
 have:i<ops.size:=by simpa [BC]using h
 unfold oA;rw [Array.getElem?_eq_getElem this]
theorem I9 {ops:Array Oper} (h:Nat.blt i ops.size=true):ops.toList.drop i=oA ops i::ops.toList.drop (i+1):=by
 have hi:i<ops.toList.length:=by simpa [BC]using h
 have h1:=I1 h;rw [<-Array.getElem?_toList,Ab hi]at h1
 injection h1 with h1
 rw [Bh hi,h1]
def SX (P:Program) (ops:Array Oper) (E:St) (i:Nat):Bool:=Nat.blt i ops.size&&(match BJ P ops E (oA ops i)with|some b=>b|none=>false)
theorem H8 {ops:Array Oper} (h:SX P ops E i=true):Nat.blt i ops.size=true/\BJ P ops E (oA ops i)=some true:=by
 simp only [SX,An]at h;refine⟨h.1,?_⟩;have h2:=h.2;split at h2
 ·rename_i b hb;rw [hb,h2]
 cases h2
def Gz (N:Nat) (o:Oper):Bool:=match o.dst with
 |some d=>Nat.blt d N
 |none=>false
theorem EV {o:Oper} (h:Gz N o=true):∃d,o.dst=some d/\Nat.blt d N=true/\d<N:=by
 unfold Gz at h;split at h
 ·rename_i d hd;exact⟨d,hd,h,by simpa [BC]using h⟩
 cases h
def ADp (P:Program) (N:Nat) (ops:Array Oper) (mv:Bool) (E:St) (i:Nat):Option St:=bif Nat.blt i ops.size then
  match BJ P ops E (oA ops i)with
  |some true=>CF P N mv E (oA ops i)
  |some false=>bif Gz N (oA ops i)then some (E.put (oA ops i).dst (.tup []))else none
  |none=>none
 else none
def tQ (P:Program) (N:Nat) (ops:Array Oper):Nat->Nat->Nat->St->Option St
 |0,_,_,E=>some E
 |k+1,m,i,E=>match ADp P N ops (Nat.beq (m %2) 1) E i with
  |some E'=>tQ P N ops k (m/2) (i+1) E'
  |none=>none
def AGY (P:Program) (N:Nat) (ops:Array Oper) (k m i:Nat) (E:St):St:=(tQ P N ops k m i E).getD E
theorem getD_some {α:Type _} {x:Option α} {a:α} (h:x.isSome=true):x=some (x.getD a):=by
 cases x with
 |none=>cases h
 |some y=>rfl
def RW (P:Program) (N:Nat) (ops:Array Oper) (i:Nat) (E:St) (Q:Exit->St->Prop):Prop:=H5 P N ops (ops.toList.drop i) E Q
def SW (P:Program) (N:Nat) (ops:Array Oper) (m i:Nat) (E:St) (K:St->Prop):Prop:=If P N ops ((ops.toList.take m).drop i) E K
theorem bd {k:α->Option β} {G:Prop} {x:Option α} (h:x.bind k=some r) (hk:∀a,x=some a->k a=some r->G):G:=by
 obtain⟨a,ha,h⟩:=Au.1 h;exact hk a ha h
theorem RW.nil (h:Q .normal E) (hi:Nat.ble ops.size i=true:=by kernel_rfl):RW P N ops i E Q:=by
 have:ops.size<=i:=by simpa [RT]using hi
 unfold RW;rw [CU (by simpa using this)];exact H5.nil h
theorem CI {mv:Bool} (hs:CF P N mv E (oA ops i)=some E') (h:RW P N ops (i+1) E' Q) (hk:SX P ops E i=true:=by kernel_rfl):RW P N ops i E Q:=by
 obtain⟨h1,h2⟩:=H8 hk;unfold RW;rw [I9 h1];exact H5.op mv h2 hs h
theorem RW.st {mv:Bool} (hs:ADp P N ops mv E i=some E') (h:RW P N ops (i+1) E' Q):RW P N ops i E Q:=by
 unfold ADp at hs
 cases hi:Nat.blt i ops.size with
 |false=>rw [hi]at hs;cases hs
 |true=>
  rw [hi]at hs;simp only [Ae]at hs;unfold RW;rw [I9 hi];split at hs
  ·rename_i hg;exact H5.op mv hg hs h
  ·rename_i hg
   cases hd:Gz N (oA ops i)with
   |false=>rw [hd]at hs;cases hs
   |true=>
    rw [hd]at hs;simp only [Ae]at hs
    injection hs with hs
    subst hs;obtain⟨d,h1,_,h2⟩:=EV hd;rw [h1]at h;exact AEX h1 h2 hg h
  cases hs
theorem RW.run:∀{k m i:Nat} {E E':St},tQ P N ops k m i E=some E'->RW P N ops (i+k) E' Q->RW P N ops i E Q
 |0,m,i,E,E',h,hw=>by
  simp only [tQ]at h
  injection h with h
  subst h;exact hw
 |k+1,m,i,E,E',h,hw=>by
  simp only [tQ]at h;split at h
  ·rename_i E1 h1;exact RW.st h1 (RW.run h (by rw [FI,Ng 1 k];exact hw))
  cases h
theorem Ah (k m:Nat) (h:RW P N ops (i+k) (AGY P N ops k m i E) Q) (hk:(tQ P N ops k m i E).isSome=true:=by kernel_rfl):RW P N ops i E Q:=RW.run (getD_some hk) h
def qok (P:Program) (N:Nat) (ops:Array Oper) (i:Nat) (E:St):Bool:=SX P ops E i&&pk (oA ops i)&&Gz N (oA ops i)
theorem zX (h:qok P N ops i E=true):SX P ops E i=true/\pk (oA ops i)=true/\∃d,(oA ops i).dst=some d/\Nat.blt d N=true/\d<N:=by
 simp only [qok,An]at h;exact⟨h.1.1,h.1.2,EV h.2⟩
theorem RW.q (hp:Bm P E (oA ops i)=some s) (h:RW P N ops (i+1) (E.put (oA ops i).dst s) Q) (hk:qok P N ops i E=true:=by kernel_rfl):RW P N ops i E Q:=by
 obtain⟨h1,h2,d,h3,h4,_⟩:=zX hk;rw [h3]at h;exact CI (ABm hp h3 h4 h2) h h1
theorem AK (t:Nat) (h:(bif b then tx else ty)=some r) (ht:tx=some r->RW P N ops i (E.rs t true) Q) (hf:ty=some r->RW P N ops i (E.rs t false) Q) (hc:E.slots t=B b:=by kernel_rfl):RW P N ops i E Q:=AHu h t ht hf hc
theorem Pz (h:Nat.blt i ops.size=true) (hm:Nat.blt i m=true):(ops.toList.take m).drop i=oA ops i::(ops.toList.take m).drop (i+1):=by
 have hi:i<ops.size:=by simpa [BC]using h
 have a:i<m:=by simpa [BC]using hm
 have hl:i<(ops.toList.take m).length:=by simp;omega
 have h1:=I1 h;rw [Bh hl];congr 1;rw [EM];rw [<-Array.getElem?_toList,Ab (by simpa using hi)]at h1;injection h1
theorem SW.nil (h:K E) (hi:(Nat.ble ops.size i||Nat.ble m i)=true:=by kernel_rfl):SW P N ops m i E K:=by
 unfold SW
 rw [CU (by
  rw [CT]at hi
  rcases hi with hi|hi
  ·have:ops.size<=i:=by simpa [RT]using hi
   simp;omega
  have:m<=i:=by simpa [RT]using hi
  simp;omega)]
 exact If.nil h
def yG (P:Program) (N:Nat) (ops:Array Oper) (m:Nat) (E:St) (i:Nat):Option St:=bif Nat.blt i ops.size&&Nat.blt i m&&Gz N (oA ops i)then
  match BJ P ops E (oA ops i)with
  |some true=>match Ja P E (oA ops i)with
   |some s=>some (E.put (oA ops i).dst s)
   |none=>none
  |some false=>some (E.put (oA ops i).dst (.tup []))
  |none=>none
 else none
def fZ (P:Program) (N:Nat) (ops:Array Oper) (m:Nat):Nat->Nat->St->Option St
 |0,_,E=>some E
 |k+1,i,E=>match yG P N ops m E i with
  |some E'=>fZ P N ops m k (i+1) E'
  |none=>none
theorem SW.st (hs:yG P N ops m E i=some E') (h:SW P N ops m (i+1) E' K):SW P N ops m i E K:=by
 unfold yG at hs
 cases hb:(Nat.blt i ops.size&&Nat.blt i m&&Gz N (oA ops i))with
 |false=>rw [hb]at hs;cases hs
 |true=>
  rw [hb]at hs;simp only [Ae]at hs;simp only [An]at hb;obtain⟨d,h1,_,h2⟩:=EV hb.2;unfold SW;rw [Pz hb.1.1 hb.1.2];split at hs
  ·rename_i hg;split at hs
   ·rename_i s a
    injection hs with hs
    subst hs;rw [h1]at h;exact If.op s hg h1 h2 a h
   cases hs
  ·rename_i hg
   injection hs with hs
   subst hs;rw [h1]at h;exact AEU h1 h2 hg h
  cases hs
theorem SW.run:∀{k i:Nat} {E E':St},fZ P N ops m k i E=some E'->SW P N ops m (i+k) E' K->SW P N ops m i E K
 |0,i,E,E',h,hw=>by
  simp only [fZ]at h
  injection h with h
  subst h;exact hw
 |k+1,i,E,E',h,hw=>by
  simp only [fZ]at h;split at h
  ·rename_i E1 h1;exact SW.st h1 (SW.run h (by rw [FI,Ng 1 k];exact hw))
  cases h
theorem D3 (k:Nat) (h:SW P N ops m (i+k) ((fZ P N ops m k i E).getD E) K) (hk:(fZ P N ops m k i E).isSome=true:=by kernel_rfl):SW P N ops m i E K:=SW.run (getD_some hk) h
theorem SW.q (hp:Bm P E (oA ops i)=some s) (h:SW P N ops m (i+1) (E.put (oA ops i).dst s) K) (hk:(qok P N ops i E&&Nat.blt i m)=true:=by kernel_rfl):SW P N ops m i E K:=by
 rw [An]at hk;obtain⟨h1,h2,d,h3,h4,h5⟩:=zX hk.1;obtain⟨h6,h7⟩:=H8 h1;rw [h3]at h;unfold SW;rw [Pz h6 hk.2];exact If.op s h7 h3 h5 (ABn hp h2) h
theorem iX (t:Nat) (h:(bif b then tx else ty)=some r) (ht:tx=some r->SW P N ops m i (E.rs t true) K) (hf:ty=some r->SW P N ops m i (E.rs t false) K) (hc:E.slots t=B b:=by kernel_rfl):SW P N ops m i E K:=AHn h t ht hf hc
def lsd (n:Nat):List Nat->Array Bool
 |[]=>Array.replicate n false
 |i::l=>(lsd n l).setIfInBounds i true
def KW (P:Program) (N:Nat) (ops:Array Oper) (ts:List Nat) (dn:List Nat) (E:St) (Q:Exit->St->Prop):Prop:=Ww P N ops ts (ops.size-dn.length) (lsd ops.size dn) E Q
def KB (P:Program) (N:Nat) (ops:Array Oper) (ts:List Nat) (dn:List Nat) (i:Nat) (E:St) (Q:Exit->St->Prop):Prop:=i9 P N ops ts i E (λE'=>KW P N ops ts (i::dn) E' Q) Q
theorem Bc {ts:List Nat} (h:Q .normal E) (hr:(Region.ready .any ops (lsd ops.size dn)).isEmpty=true:=by kernel_rfl):KW P N ops ts dn E Q:=AEY h (by simpa using hr)
def rdy (ops:Array Oper) (dn l:List Nat):Bool:=(Region.ready .any ops (lsd ops.size dn)==l)&&Nat.blt dn.length ops.size
theorem TQ (h:Nat.blt dn.length ops.size=true):ops.size-dn.length=(ops.size-(i::dn).length)+1:=by
 have:dn.length<ops.size:=by simpa [BC]using h
 simp only [Ay];omega
theorem KW.all {ts:List Nat} (l:List Nat) (h:∀i∈l,KB P N ops ts dn i E Q) (a:l≠ []) (hr:rdy ops dn l=true):KW P N ops ts dn E Q:=by
 simp only [rdy,An,Cj]at hr;unfold KW;rw [TQ (i:=0) hr.2];exact Ww.all l (λi hi=>h i hi) hr.1 a
theorem Bp {ts:List Nat} (i:Nat) (h:KB P N ops ts dn i E Q) (hr:rdy ops dn [i]=true:=by kernel_rfl):KW P N ops ts dn E Q:=KW.all [i] (λj hj=>by simp only [Az]at hj;subst hj;exact h) (by simp) hr
theorem Dj {ts:List Nat} (i j:Nat) (h:KB P N ops ts dn i E Q) (h2:KB P N ops ts dn j E Q) (hr:rdy ops dn [i,j]=true:=by kernel_rfl):KW P N ops ts dn E Q:=KW.all [i,j] (λm hm=>by
 simp only [BE,List.not_mem_nil,or_false]at hm
 rcases hm with rfl|rfl<;>assumption) (by simp) hr
theorem Wx {ts:List Nat} (i j k:Nat) (h:KB P N ops ts dn i E Q) (h2:KB P N ops ts dn j E Q) (h3:KB P N ops ts dn k E Q) (hr:rdy ops dn [i,j,k]=true:=by kernel_rfl):KW P N ops ts dn E Q:=KW.all [i,j,k] (λm hm=>by
 simp only [BE,List.not_mem_nil,or_false]at hm
 rcases hm with rfl|rfl|rfl<;>assumption) (by simp) hr
theorem AGN {ts:List Nat} (i j k l:Nat) (h:KB P N ops ts dn i E Q) (h2:KB P N ops ts dn j E Q) (h3:KB P N ops ts dn k E Q) (h4:KB P N ops ts dn l E Q) (hr:rdy ops dn [i,j,k,l]=true:=by kernel_rfl):KW P N ops ts dn E Q:=KW.all [i,j,k,l] (λm hm=>by
 simp only [BE,List.not_mem_nil,or_false]at hm
 rcases hm with rfl|rfl|rfl|rfl<;>assumption) (by simp) hr
theorem L5 {ts:List Nat} {mv:Bool} (hs:CF P N mv E (oA ops i)=some E') (h:KW P N ops ts (i::dn) E' Q) (hk:(SX P ops E i&&(kp (oA ops i)||ts.contains i))=true:=by kernel_rfl):KB P N ops ts dn i E Q:=by
 rw [An]at hk;obtain⟨h1,h2⟩:=H8 hk.1;exact i9.op i mv h hs (I1 h1) h2 hk.2
theorem KB.q {ts:List Nat} (hp:Bm P E (oA ops i)=some s) (h:KW P N ops ts (i::dn) (E.put (oA ops i).dst s) Q) (hk:(qok P N ops i E&&(kp (oA ops i)||ts.contains i))=true:=by kernel_rfl):KB P N ops ts dn i E Q:=by
 rw [An]at hk;obtain⟨h1,h2,d,h3,h4,h5⟩:=zX hk.1;rw [h3]at h;exact L5 (ABm hp h3 h4 h2) h (by rw [h1,hk.2];rfl)
def xV (ops:Array Oper) (ts dn:List Nat) (i:Nat):Bool:=Nat.blt dn.length ops.size&&R8 ops ts ops.size i (lsd ops.size dn)
theorem AHz {ts:List Nat} (i:Nat) (hp:Ja P E (oA ops i)=some s) (h:KW P N ops ts (i::dn) (E.put (oA ops i).dst s) Q) (hk:(SX P ops E i&&Gz N (oA ops i)&&xV ops ts dn i)=true):KW P N ops ts dn E Q:=by
 simp only [An,xV]at hk;obtain⟨⟨h1,h2⟩,h3,h4⟩:=hk;obtain⟨h5,h6⟩:=H8 h1;obtain⟨d,h7,h8,_⟩:=EV h2;unfold KW at h⊢;rw [TQ (i:=i) h3];rw [h7]at h;exact Ww.take ops.size i d s h hp (I1 h5) h4 h6 h7 h8
theorem KW.q {ts:List Nat} (i:Nat) (hp:Bm P E (oA ops i)=some s) (h:KW P N ops ts (i::dn) (E.put (oA ops i).dst s) Q) (hk:(qok P N ops i E&&xV ops ts dn i)=true:=by kernel_rfl):KW P N ops ts dn E Q:=by
 rw [An]at hk;have h0:=hk.1;simp only [qok,An]at h0;exact AHz i (ABn hp h0.1.2) h (by rw [h0.1.1,h0.2,hk.2];rfl)
theorem AIf {ts:List Nat} (i:Nat) (h:KW P N ops ts (i::dn) (E.put (oA ops i).dst (.tup [])) Q) (hg:BJ P ops E (oA ops i)=some false) (hk:(Nat.blt i ops.size&&Gz N (oA ops i)&&xV ops ts dn i)=true):KW P N ops ts dn E Q:=by
 simp only [An,xV]at hk;obtain⟨⟨h1,h2⟩,h3,h4⟩:=hk;obtain⟨d,h7,h8,_⟩:=EV h2;unfold KW at h⊢;rw [TQ (i:=i) h3];rw [h7]at h;exact qL ops.size i d h (I1 h1) h4 hg h7 h8
def AEg (P:Program) (N:Nat) (ops:Array Oper) (ts:List Nat) (mv:Bool) (dn:List Nat) (E:St) (i:Nat):Option St:=match BJ P ops E (oA ops i)with
 |some false=>bif Nat.blt i ops.size&&Gz N (oA ops i)&&xV ops ts dn i then some (E.put (oA ops i).dst (.tup []))else none
 |some true=>bif Nat.blt i ops.size&&Gz N (oA ops i)&&xV ops ts dn i&&!mv then
   (match Ja P E (oA ops i)with
   |some s=>some (E.put (oA ops i).dst s)
   |none=>bif rdy ops dn [i]&&(kp (oA ops i)||ts.contains i)then CF P N mv E (oA ops i)else none)
  else bif Nat.blt i ops.size&&rdy ops dn [i]&&(kp (oA ops i)||ts.contains i)then CF P N mv E (oA ops i)else none
 |none=>none
def ACD (P:Program) (N:Nat) (ops:Array Oper) (ts:List Nat):List Nat->Nat->List Nat->St->Option St
 |[],_,_,E=>some E
 |i::l,m,dn,E=>match AEg P N ops ts (Nat.beq (m %2) 1) dn E i with
  |some E'=>ACD P N ops ts l (m/2) (i::dn) E'
  |none=>none
def nK:List Nat->List Nat->List Nat
 |[],dn=>dn
 |i::l,dn=>nK l (i::dn)
section
variable {ts:List Nat}
theorem KW.st {mv:Bool} (hs:AEg P N ops ts mv dn E i=some E') (h:KW P N ops ts (i::dn) E' Q):KW P N ops ts dn E Q:=by
 unfold AEg at hs;split at hs
 ·rename_i hg
  cases hb:(Nat.blt i ops.size&&Gz N (oA ops i)&&xV ops ts dn i)with
  |false=>rw [hb]at hs;cases hs
  |true=>
   rw [hb]at hs;simp only [Ae]at hs
   injection hs with hs
   subst hs;exact AIf i h hg hb
 ·rename_i hg;have one:(Nat.blt i ops.size&&rdy ops dn [i]&&(kp (oA ops i)||ts.contains i))=true->CF P N mv E (oA ops i)=some E'->KW P N ops ts dn E Q:=by
   intro hb hs;simp only [An]at hb;refine Bp i (L5 hs h ?_) hb.1.2;simp only [SX,hb.1.1,hg,hb.2,JF]
  cases hb:(Nat.blt i ops.size&&Gz N (oA ops i)&&xV ops ts dn i&&!mv)with
  |false=>
   rw [hb]at hs;simp only [Ac]at hs
   cases a:(Nat.blt i ops.size&&rdy ops dn [i]&&(kp (oA ops i)||ts.contains i))with
   |false=>rw [a]at hs;cases hs
   |true=>rw [a]at hs;exact one a hs
  |true=>
   rw [hb]at hs;simp only [Ae]at hs;simp only [An]at hb;split at hs
   ·rename_i s b
    injection hs with hs
    subst hs;refine AHz i b h ?_;simp only [SX,hb.1.1.1,hb.1.1.2,hb.1.2,hg,JF]
   cases a:(rdy ops dn [i]&&(kp (oA ops i)||ts.contains i))with
   |false=>rw [a]at hs;cases hs
   |true=>rw [a]at hs;exact one (by rw [hb.1.1.1,C4];exact a) hs
 cases hs
end
theorem KW.run {ts:List Nat}:∀{l:List Nat} {m:Nat} {dn:List Nat} {E E':St},ACD P N ops ts l m dn E=some E'->KW P N ops ts (nK l dn) E' Q->KW P N ops ts dn E Q
 |[],m,dn,E,E',h,hw=>by
  simp only [ACD]at h
  injection h with h
  subst h;exact hw
 |i::l,m,dn,E,E',h,hw=>by
  simp only [ACD]at h;split at h
  ·rename_i E1 h1;exact KW.st h1 (KW.run h hw)
  cases h
theorem Bf {ts:List Nat} (l:List Nat) (m:Nat) (h:KW P N ops ts (nK l dn) ((ACD P N ops ts l m dn E).getD E) Q) (hk:(ACD P N ops ts l m dn E).isSome=true:=by kernel_rfl):KW P N ops ts dn E Q:=KW.run (getD_some hk) h
theorem Sk {ts:List Nat} (t:Nat) (h:(bif b then tx else ty)=some r) (ht:tx=some r->KW P N ops ts dn (E.rs t true) Q) (hf:ty=some r->KW P N ops ts dn (E.rs t false) Q) (hc:E.slots t=B b:=by kernel_rfl):KW P N ops ts dn E Q:=AHy h t ht hf hc
theorem Ap {id:Nat} (h:RW P N ops 0 E Q):Wp P N (.region id ops false) E Q:=by
 have:=Wp.region (id:=id) (l:=ops.toList) (P:=P) (N:=N) (E:=E) (Q:=Q) (by simpa [RW]using h);simpa using this
theorem Kt {id:Nat} (hm:P.follows .mixedOrders=true) (h:SW P N ops ops.size 0 E (λE'=>Q .normal E')) (hB:Region.lexB .any ops=true:=by kernel_rfl):Wp P N (.region id ops true) E Q:=by
 have:=SP (id:=id) (l:=ops.toList) (P:=P) (N:=N) (E:=E) (Q:=Q) hm (by simpa using hB) (by
  have h2:=h;unfold SW at h2;rw [Ba (by simp)]at h2
  simpa using h2)
 simpa using this
theorem Sh {id:Nat} (n:Nat) (hm:P.follows .mixedOrders=true) (h:SW P N ops n 0 E (λE'=>RW P N ops n E' Q)) (hB:Region.lexTailB .any ops n=true:=by kernel_rfl):Wp P N (.region id ops true) E Q:=by
 have:=AAT (id:=id) (l:=ops.toList) (P:=P) (N:=N) (E:=E) (Q:=Q) n hm (by simpa using hB) (by simpa [SW,RW]using h);simpa using this
theorem Dr {id:Nat} (ts:List Nat) (hm:P.follows .mixedOrders=true) (hQ:∀c E,Q (.panic c) E->False) (h:KW P N ops ts [] E Q):Wp P N (.region id ops true) E Q:=
 AAU ops.size ts hm hQ (by simpa [KW,lsd]using h) rfl
def gI (E:St) (x:Operand) (sz:Nat):Option (List TV):=match E.ref x with
 |some (r,q,j)=>match E.place r q j with
  |some (.sl _ _ s cells)=>bif Nat.beq s sz then some cells else none
  |_=>none
 |none=>none
theorem OX {x:Operand} {a:List TV} (h:gI E x sz=some a):∃r q j b e,E.ref x=some (r,q,j)/\E.place r q j=some (.sl b e sz a):=by
 unfold gI at h;split at h
 ·rename_i r q j hr;split at h
  ·rename_i b e s cells' hp
   cases hs:Nat.beq s sz with
   |false=>rw [hs]at h;cases h
   |true=>
    rw [hs]at h;simp only [Ae]at h
    injection h with h
    have:=Bx hs;subst h this;exact⟨r,q,j,b,e,hr,hp⟩
  cases h
 cases h
def ZT (P:Program) (t:TypeId):TypeId:=match P.underlying t with
 |some (.slice e)=>e
 |_=>0
def W2 (P:Program) (t:TypeId) (sz:Nat):Bool:=match P.underlying t with
 |some (.slice e)=>Nat.beq (P.cellsOf e) sz&&Nat.blt 0 sz
 |_=>false
theorem LM {t:TypeId} (h:W2 P t sz=true):∃e,P.underlying t=some (.slice e)/\P.cellsOf e=sz/\Nat.blt 0 sz=true:=by
 unfold W2 at h;split at h
 ·rename_i e he;rw [An]at h;exact⟨e,he,Bx h.1,h.2⟩
 cases h
def Hn (E:St) (x:Operand):Root×List Nat×Nat:=(E.ptr? x).getD (.hand,[],0)
def Kp (E:St) (x:Operand):Root×List Nat×Nat:=(E.ref x).getD (.hand,[],0)
def Q7 (E:St) (x:Operand):Option (List TV×Nat):=match E.ptr? x with
 |some (r,q,j)=>match(E.root r).bind λcs=>Cb cs q with
  |some row=>some (row,j)
  |none=>none
 |none=>none
theorem Q6 {x:Operand} {a:List TV} (h:Q7 E x=some (a,j)):E.ptr? x=some ((Hn E x).1,(Hn E x).2.1,j)/\(E.root (Hn E x).1).bind (λcs=>Cb cs (Hn E x).2.1)=some a:=by
 unfold Q7 at h;split at h
 ·rename_i r q j' hp;split at h
  ·rename_i row' hr
   injection h with h
   injection h with h1 h2
   subst h1 h2;simp only [Hn,hp,Be];exact⟨trivial,hr⟩
  cases h
 cases h
theorem ACp {r:Root} {x:Operand} {q:List Nat} {a:List TV} (h1:E.ptr? x=some (r,q,j)) (h2:(E.root r).bind (λcs=>Cb cs q)=some a):Q7 E x=some (a,j):=by
 unfold Q7;rw [h1];simp only [h2]
def FO (o:Oper):TypeId×Operand×Operand:=match o.op with
 | .indexAddr t a i=>(t,a,i)
 |_=>(0,.tmp 0,.tmp 0)
def ACG (o:Oper):Bool:=match o.op with
 | .indexAddr .. =>true
 |_=>false
theorem nX {o:Oper} (h:ACG o=true):o.op= .indexAddr (FO o).1 (FO o).2.1 (FO o).2.2:=by
 unfold ACG at h;unfold FO;split at h
 ·rename_i h1;simp only [h1]
 cases h
def Sc (P:Program) (E:St) (x:Operand):Option Int:=match E.cell1 P 0 x with
 |some (.int _ n)=>some n
 |_=>none
theorem HX {x:Operand} (h:Sc P E x=some n):∃k,E.cell1 P 0 x=some (.int k n):=by
 unfold Sc at h;split at h
 ·rename_i k m hc
  injection h with h
  subst h;exact⟨k,hc⟩
 cases h
def AEi (P:Program) (E:St) (o:Oper) (sz:Nat):Option (List TV×Int):=bif ACG o&&W2 P (FO o).1 sz then(match gI E (FO o).2.1 sz,Sc P E (FO o).2.2 with
 |some c,some n=>some (c,n)
 |_,_=>none)else none
def uM (E:St) (o:Oper) (m:Nat):SV:= .one (.ptr (Kp E (FO o).2.1).1 (E.ver (Kp E (FO o).2.1).1) ((Kp E (FO o).2.1).2.1++ [(Kp E (FO o).2.1).2.2]) m)
section
variable {o:Oper} {x:α}
theorem Iz (hf:∀x,(f x).length=sz) (hx:gi l n=some x) (hc:AEi P E o sz=some (AU f l,n):=by kernel_rfl):Bm P E o=some (uM E o (n.toNat*sz+0)):=by
 unfold AEi at hc
 cases hb:(ACG o&&W2 P (FO o).1 sz)with
 |false=>rw [hb]at hc;cases hc
 |true=>
  rw [hb]at hc;simp only [Ae]at hc;rw [An]at hb;split at hc
  ·rename_i c n' h1 h2
   injection hc with hc
   injection hc with a b
   subst a b;obtain⟨r,q,j,d,e',h3,h4⟩:=OX h1;obtain⟨k,h5⟩:=HX h2;obtain⟨e,h6,h7,h8⟩:=LM hb.2;have:=AHW hf r q j hx h4 (nX hb.1) h6 h5 h3 h7 h8;rw [this];simp only [uM,Kp,h3,Be]
  cases hc
end
section
variable {o:Oper} {x:α}
theorem ADP (hf:∀x,(f x).length=sz) (hx:gi l n=some x) (hf':∀x,(f' x).length=sz') (hx':gi l' n'=some x') (k:Nat) (hi:(ACG o&&W2 P (FO o).1 sz&&Nat.blt k sz')=true:=by kernel_rfl) (hn:Sc P E (FO o).2.2=some n:=by kernel_rfl) (hr:E.ref (FO o).2.1=some ((Kp E (FO o).2.1).1,(Kp E (FO o).2.1).2.1,n'.toNat*sz'+k):=by kernel_rfl) (hp:(E.root (Kp E (FO o).2.1).1).bind (λcs=>Cb cs (Kp E (FO o).2.1).2.1)=some (AU f' l'):=by kernel_rfl) {a:Bool} (hc:(f' x')[k]?=some (.sl a e' sz (AU f l)):=by rfl):Bm P E o=some (uM E o (n.toNat*sz+0)):=by
 simp only [An]at hi;obtain⟨k',h5⟩:=HX hn;obtain⟨e,h6,h7,h8⟩:=LM hi.1.2;have b:E.place (Kp E (FO o).2.1).1 (Kp E (FO o).2.1).2.1 (n'.toNat*sz'+k)=some (.sl a e' sz (AU f l)):=by
  obtain⟨cs,h1,h2⟩:=Au.1 hp;simp only [St.place,h1,Aa,h2];rw [N6 hf' hx' (by simpa [BC]using hi.2),hc]
 have:=AHW hf _ _ _ hx b (nX hi.1.1) h6 h5 hr h7 h8;have hj:(Kp E (FO o).2.1).2.2=n'.toNat*sz'+k:=Ca (λz:Option (Root×List Nat×Nat)=>(z.getD (Root.hand,[],0)).2.2) hr;rw [this,uM,hj]
end
section
variable {x:α}
theorem pr2 {a:Operand} {c:List TV} (q0:Nat) (hf':∀x,(f' x).length=sz') (hx':gi l' n'=some x') (k:Nat) (h1:E.ptr? a=some ((Hn E a).1,[q0,n'.toNat*sz'+k],j):=by kernel_rfl) (hc:(E.root (Hn E a).1).bind (λcs=>Cb cs [q0])=some (AU f' l'):=by kernel_rfl) (b:Cb (f' x') [k]=some c:=by kernel_rfl) (hk:Nat.blt k sz'=true:=by kernel_rfl):Q7 E a=some (c,j):=by
 refine ACp h1 ?_;obtain⟨cs,h2,h3⟩:=Au.1 hc;have h4:=ABU hf' hx' (q:=[]) (show k<sz' by simpa [BC]using hk);rw [h2];simp only [Aa];simp only [Cb]at h3;split at h3
 ·rename_i o' e' s' d e
  injection h3 with h3
  subst h3;simp only [Cb,e];simp only [Cb]at h4 b;rw [h4];exact b
 cases h3
end
def QT (o:Oper):TypeId×Operand×Nat:=match o.op with
 | .fieldAddr t a i=>(t,a,i)
 |_=>(0,.tmp 0,0)
def AHd (o:Oper):Bool:=match o.op with
 | .fieldAddr .. =>true
 |_=>false
theorem AFN {o:Oper} (h:AHd o=true):o.op= .fieldAddr (QT o).1 (QT o).2.1 (QT o).2.2:=by
 unfold AHd at h;unfold QT;split at h
 ·rename_i h1;simp only [h1]
 cases h
def AGD (P:Program) (o:Oper):Option Nat:=match P.underlying (QT o).1 with
 |some (.struct fs)=>match fs[(QT o).2.2]? with
  |some fd=>bif Nat.beq (P.cellsOf fd.type) 0 then none else some fd.offset
  |none=>none
 |_=>none
def AH9 (E:St) (o:Oper) (m:Nat):SV:= .one (.ptr (Hn E (QT o).2.1).1 (E.stamp (Hn E (QT o).2.1).1 (Hn E (QT o).2.1).2.1) (Hn E (QT o).2.1).2.1 m)
section
variable {o:Oper} {x:α}
theorem DB (hf:∀x,(f x).length=sz) (hx:gi l n=some x) (k m:Nat) (hr:Q7 E (QT o).2.1=some (AU f l,n.toNat*sz+k):=by kernel_rfl) (ho:(AHd o&&Nat.blt m sz)=true:=by kernel_rfl) (a:AGD P o=some (m-k):=by kernel_rfl) (b:Nat.ble k m=true:=by kernel_rfl):Bm P E o=some (AH9 E o (n.toNat*sz+m)):=by
 rw [An]at ho;obtain⟨h1,h2⟩:=Q6 hr;have d:k<=m:=by simpa [RT]using b
 unfold AGD at a;split at a
 ·rename_i fs hs;split at a
  ·rename_i fd c
   cases hb:Nat.beq (P.cellsOf fd.type) 0 with
   |true=>rw [hb]at a;cases a
   |false=>
    rw [hb]at a;simp only [Ac]at a
    injection a with a
    have hm:k+fd.offset=m:=by omega
    exact AIG hf _ _ k hx h2 (AFN ho.1) hs h1 c hb hm (by rw [hm];exact ho.2)
  cases a
 cases a
end
def Nz (o:Oper):TypeId×Operand:=match o.op with
 | .load t a=>(t,a)
 |_=>(0,.tmp 0)
def AFM (o:Oper):Bool:=match o.op with
 | .load .. =>true
 |_=>false
theorem ABK {o:Oper} (h:AFM o=true):o.op= .load (Nz o).1 (Nz o).2:=by
 unfold AFM at h;unfold Nz;split at h
 ·rename_i h1;simp only [h1]
 cases h
def AGz (P:Program) (o:Oper) (k sz:Nat):Bool:=AFM o&&!fC P (Nz o).1&&Nat.beq (P.cellsOf (Nz o).1) 1&&(P.underlying (Nz o).1).isSome&&Nat.blt k sz
def AGA (P:Program) (o:Oper) (k m sz:Nat):Bool:=AFM o&&fC P (Nz o).1&&Nat.beq (P.cellsOf (Nz o).1) m&&Nat.ble (k+m) sz
def ldC (E:St) (o:Oper) (j:Nat) (u:TV):SV:= .one (see E (Hn E (Nz o).2).1 (Hn E (Nz o).2).2.1 j u)
def ldA (E:St) (o:Oper) (j:Nat) (us:List TV):SV:= .agg (Tu E (Hn E (Nz o).2).1 (Hn E (Nz o).2).2.1 j us)
section
variable {o:Oper} {x:α}
theorem CB (hf:∀x,(f x).length=sz) (hx:gi l n=some x) (k:Nat) (hr:Q7 E (Nz o).2=some (AU f l,n.toNat*sz+k):=by kernel_rfl) (ho:AGz P o k sz=true:=by kernel_rfl):Bm P E o=some (ldC E o (n.toNat*sz+k) (((f x)[k]?).getD .junk)):=by
 simp only [AGz,An,CV]at ho;obtain⟨⟨⟨⟨h3,h4⟩,h5⟩,h6⟩,h7⟩:=ho;obtain⟨h1,h2⟩:=Q6 hr;have hk:k<(f x).length:=by rw [hf];simpa [BC]using h7
 refine AIF hf _ _ k _ hx h2 (ABK h3) h1 h4 (Bx h5) h6 h7 ?_;rw [Ab hk];rfl
end
section
variable {o:Oper} {x:α}
theorem L9 (hf:∀x,(f x).length=sz) (hx:gi l n=some x) (k m:Nat) (hr:Q7 E (Nz o).2=some (AU f l,n.toNat*sz+k):=by kernel_rfl) (ho:AGA P o k m sz=true:=by kernel_rfl):Bm P E o=some (ldA E o (n.toNat*sz+k) (((f x).drop k).take m)):=by
 simp only [AGA,An]at ho;obtain⟨⟨⟨h3,h4⟩,h5⟩,h6⟩:=ho;obtain⟨h1,h2⟩:=Q6 hr;exact AIE hf _ _ k m hx h2 (ABK h3) h1 h4 (Bx h5) h6
end
section
variable {x:α}
def Oi (o:Oper):TypeId×Operand:=match o.op with
 | .call c=>match c.callee,c.args.toList,c.argTypes.toList with
  | .builtin .len,[x],[t]=>(t,x)
  |_,_,_=>(0,.tmp 0)
 |_=>(0,.tmp 0)
end
section
variable {x:α}
def AFL (o:Oper):Bool:=match o.op with
 | .call c=>match c.callee,c.args.toList,c.argTypes.toList with
  | .builtin .len,[x],[t]=>true
  |_,_,_=>false
 |_=>false
end
theorem ABJ {o:Oper} (h:AFL o=true):o.op= .call {callee:= .builtin .len,args:= #[(Oi o).2],argTypes:= #[(Oi o).1]}:=by
 unfold AFL at h;unfold Oi;split at h
 ·rename_i c hc;split at h
  ·rename_i x t h1 h2 h3;obtain⟨callee,args,types⟩:=c;simp only at h1 h2 h3;subst h1;obtain rfl:args= #[x]:=by cases args;simp_all
   obtain rfl:types= #[t]:=by cases types;simp_all
   rw [hc]
  cases h
 cases h
section
variable {o:Oper} {x:α}
theorem CR (hf:∀x,(f x).length=sz) (l:List α) (hr:gI E (Oi o).2 sz=some (AU f l):=by kernel_rfl) (ho:(AFL o&&W2 P (Oi o).1 sz)=true:=by kernel_rfl):Bm P E o=some (.one (.int .i64 (ln l))):=by
 rw [An]at ho;obtain⟨r,q,j,a,e',h3,h4⟩:=OX hr;obtain⟨e,h6,h7,h8⟩:=LM ho.2;exact AHV hf l (ABJ ho.1) h6 h3 h4 h8
end
section
variable {o:Oper} {x:α}
theorem AHQ (hf:∀x,(f x).length=sz) (l:List α) (hf':∀x,(f' x).length=sz') (hx':gi l' n'=some x') (k:Nat) (ho:(AFL o&&W2 P (Oi o).1 sz&&Nat.blt k sz')=true:=by kernel_rfl) (hr:E.ref (Oi o).2=some ((Kp E (Oi o).2).1,(Kp E (Oi o).2).2.1,n'.toNat*sz'+k):=by kernel_rfl) (hp:(E.root (Kp E (Oi o).2).1).bind (λcs=>Cb cs (Kp E (Oi o).2).2.1)=some (AU f' l'):=by kernel_rfl) {a:Bool} (hc:(f' x')[k]?=some (.sl a e' sz (AU f l)):=by rfl):Bm P E o=some (.one (.int .i64 (ln l))):=by
 simp only [An]at ho;obtain⟨e,h6,h7,h8⟩:=LM ho.1.2;have b:E.place (Kp E (Oi o).2).1 (Kp E (Oi o).2).2.1 (n'.toNat*sz'+k)=some (.sl a e' sz (AU f l)):=by
  obtain⟨cs,h1,h2⟩:=Au.1 hp;simp only [St.place,h1,Aa,h2];rw [N6 hf' hx' (by simpa [BC]using ho.2),hc]
 exact AHV hf l (ABJ ho.1.1) h6 hr b h8
end
def XU (P:Program) (E:St) (t:TypeId) (x:Operand):Option ByteArray:=match E.cell1 P t x with
 |some (.str s)=>some s
 |_=>none
theorem Mz {s:ByteArray} {t:TypeId} {x:Operand} (h:XU P E t x=some s):E.cell1 P t x=some (.str s):=by
 unfold XU at h;split at h
 ·rename_i u hu
  injection h with h
  rw [hu,h]
 cases h
def uO (P:Program) (t:TypeId):Bool:=match P.underlying t with
 |some .string=>true
 |_=>false
theorem Zw {t:TypeId} (h:uO P t=true):P.underlying t=some .string:=by
 unfold uO at h;split at h
 ·assumption
 cases h
def AGp (P:Program) (E:St) (o:Oper):Option (ByteArray×Int):=match o.op with
 | .index t a i=>match uO P t,XU P E t a,Sc P E i with
  |true,some s,some n=>some (s,n)
  |_,_,_=>none
 |_=>none
theorem xK {o:Oper} {s:ByteArray} {b:Int} (h:sx s n=some b) (hc:AGp P E o=some (s,n):=by kernel_rfl):Bm P E o=some (.one (.int .u8 b)):=by
 unfold AGp at hc;split at hc
 ·rename_i t a i ho;split at hc
  ·rename_i s' n' h1 h2 h3
   injection hc with hc
   injection hc with c d
   subst c d;obtain⟨k,h3⟩:=HX h3;exact AID h ho (Zw h1) (Mz h2) h3
  cases hc
 cases hc
section
variable {x:α}
def iJ (P:Program) (E:St) (d:Int):Option Operand->Option Int
 |none=>some d
 |some x=>Sc P E x
end
def ADn (P:Program) (E:St) (o:Oper):Option (ByteArray×Int×Int):=match o.op with
 | .slice t a lo hi none=>match uO P t,XU P E t a with
  |true,some s=>match iJ P E 0 lo,iJ P E (s.size:Nat) hi with
   |some l,some h=>some (s,l,h)
   |_,_=>none
  |_,_=>none
 |_=>none
section
variable {o:Oper}
theorem Px {d:Int} {x:Option Operand} (h:iJ P E d x=some n):∃k,(match x with|some o=>E.cell1 P 0 o|none=>some (.int .i64 d))=some (.int k n):=by
 cases x with
 |none=>
  simp only [iJ]at h
  injection h with h
  exact⟨.i64,by rw [h]⟩
 |some x=>exact HX h
end
theorem Vk {o:Oper} {s u:ByteArray} {l h:Int} (hx:sub s l h=some u) (hc:ADn P E o=some (s,l,h):=by kernel_rfl):Bm P E o=some (.one (.str u)):=by
 unfold ADn at hc;split at hc
 ·rename_i t a lo hi ho;split at hc
  ·rename_i s' h1 h2;split at hc
   ·rename_i l' h' h3 h4
    injection hc with hc
    injection hc with c b
    injection b with b d
    subst c b d;obtain⟨k1,h3⟩:=Px h3;obtain⟨k2,h4⟩:=Px h4;exact AHT hx ho (Zw h1) (Mz h2) h3 h4
   cases hc
  cases hc
 cases hc
section
variable {x:α}
def AEE (P:Program) (E:St) (o:Oper):Option (ByteArray×ByteArray):=match o.op with
 | .binOp .add t x y _=>match XU P E t x,XU P E t y with
  |some a,some b=>some (a,b)
  |_,_=>none
 |_=>none
end
theorem Ff {o:Oper} {a b u:ByteArray} (hx:HH a b=some u) (hc:AEE P E o=some (a,b):=by kernel_rfl):Bm P E o=some (.one (.str u)):=by
 unfold AEE at hc;split at hc
 ·rename_i t x y t' ho;split at hc
  ·rename_i a' b' h1 h2
   injection hc with hc
   injection hc with c d
   subst c d;exact AHY hx ho (Mz h1) (Mz h2)
  cases hc
 cases hc
section
variable {x:α}
def PH (o:Oper):TypeId×TypeId×Operand:=match o.op with
 | .convert s d x=>(s,d,x)
 |_=>(0,0,.tmp 0)
end
section
variable {x:α}
def AIa (P:Program) (o:Oper):Bool:=match o.op with
 | .convert s d x=>(match P.underlying s,P.underlying d with
  |some (.slice e),some .string=>(match P.underlying e with
   |some (.int .u8)=>true
   |_=>false)
  |_,_=>false)
 |_=>false
end
theorem xO {o:Oper} {f:Int->List TV} (hf:∀n,f n=[.int .u8 n]) (l:List Int) (hr:gI E (PH o).2.2 1=some (AU f l):=by kernel_rfl) (ho:AIa P o=true:=by kernel_rfl):Bm P E o=some (.one (.str (EI l))):=by
 obtain⟨r,q,j,b,e',h3,h4⟩:=OX hr;unfold AIa at ho;split at ho
 ·rename_i s d x a;split at ho
  ·rename_i e hs hd;split at ho
   ·rename_i he;simp only [PH,a]at h3;exact AII hf l a hs hd he h3 h4
   cases ho
  cases ho
 cases ho
section
variable {x:α}
def ADv (P:Program) (E:St) (o:Oper) (k:IntKind):Option (Int×Int):=match o.op with
 | .binOp .shl t x y _=>match E.cell1 P t x,E.cell1 P t y with
  |some (.int k' a),some (.int _ b)=>bif decide (k'=k)then some (a,b)else none
  |_,_=>none
 |_=>none
end
theorem AIz {o:Oper} {a b v:Int} (hx:shl k a b=some v) (hc:ADv P E o k=some (a,b):=by kernel_rfl):Bm P E o=some (.one (.int k v)):=by
 unfold ADv at hc;split at hc
 ·rename_i t x y t' ho;split at hc
  ·rename_i k' a' k2 b' h1 h2
   cases hk:decide (k'=k)with
   |false=>rw [hk]at hc;cases hc
   |true=>
    rw [hk]at hc;simp only [Ae]at hc
    injection hc with hc
    injection hc with hc1 hc2
    have:=H9 hk;subst hc1 hc2 this;exact AHU hx ho h1 h2
  cases hc
 cases hc
section
variable {x:α}
def Ov (o:Oper):TypeId×Operand×Option Operand×Option Operand:=match o.op with
 | .slice t x lo hi none=>(t,x,lo,hi)
 |_=>(0,.tmp 0,none,none)
end
section
variable {x:α}
def AFO (o:Oper):Bool:=match o.op with
 | .slice t x lo hi none=>true
 |_=>false
end
theorem ABL {o:Oper} (h:AFO o=true):o.op= .slice (Ov o).1 (Ov o).2.1 (Ov o).2.2.1 (Ov o).2.2.2 none:=by
 unfold AFO at h;unfold Ov;split at h
 ·rename_i h1;simp only [h1]
 cases h
def ABs (E:St) (x:Operand) (sz:Nat):Option (Nat×List TV):=match E.ref x with
 |some (r,q,j)=>match E.place r q j with
  |some (.sl false e s cells)=>bif Nat.beq s sz then some (e,cells)else none
  |_=>none
 |none=>none
theorem YV {x:Operand} {a:List TV} {e:Nat} (h:ABs E x sz=some (e,a)):∃r q j,E.ref x=some (r,q,j)/\E.place r q j=some (.sl false e sz a):=by
 unfold ABs at h;split at h
 ·rename_i r q j hr;split at h
  ·rename_i e' s cells' hp
   cases hs:Nat.beq s sz with
   |false=>rw [hs]at h;cases h
   |true=>
    rw [hs]at h;simp only [Ae]at h
    injection h with h
    injection h with h1 h2
    have:=Bx hs;subst h1 h2 this;exact⟨r,q,j,hr,hp⟩
  cases h
 cases h
section
variable {o:Oper} {x:α}
theorem pdr (hf:∀x,(f x).length=sz) {v:List α} {a b:Int} (e:Nat) (hx:dr l a b=some v) (hr:ABs E (Ov o).2.1 sz=some (e,AU f l):=by kernel_rfl) (ha:iJ P E 0 (Ov o).2.2.1=some a:=by kernel_rfl) (hb:((Ov o).2.2.2.bind (Sc P E))=some b:=by kernel_rfl) (ho:(AFO o&&W2 P (Ov o).1 sz)=true:=by kernel_rfl):Bm P E o=some (.one (.sl false e sz (AU f v))):=by
 rw [An]at ho;obtain⟨r,q,j,h1,h2⟩:=YV hr;obtain⟨e1,h6,h7,h8⟩:=LM ho.2;obtain⟨k1,h3⟩:=Px ha;obtain⟨oh,h4,h5⟩:=Au.1 hb;obtain⟨k2,h5⟩:=HX h5;have:=ABL ho.1;rw [h4]at this;exact AIH hf hx this h6 h1 h2 h3 h5 h7 h8
end
section
variable {o:Oper} {x:α}
theorem AIB (hf:∀x,(f x).length=sz) {v:List α} {a:Int} (e:Nat) (hx:dr l a (ln l)=some v) (hr:ABs E (Ov o).2.1 sz=some (e,AU f l):=by kernel_rfl) (ha:iJ P E 0 (Ov o).2.2.1=some a:=by kernel_rfl) (ho:(AFO o&&W2 P (Ov o).1 sz&&(Ov o).2.2.2.isNone)=true:=by kernel_rfl):Bm P E o=some (.one (.sl false e sz (AU f v))):=by
 simp only [An]at ho;obtain⟨r,q,j,h1,h2⟩:=YV hr;obtain⟨e1,h6,h7,h8⟩:=LM ho.1.2;obtain⟨k1,h3⟩:=Px ha;have:=ABL ho.1.1;rw [Option.isNone_iff_eq_none.1 ho.2]at this;exact AHX hf hx this h6 h1 h2 h3 h7 h8
end
def AHJ (P:Program) (E:St) (o:Oper) (m:Nat):Bool:=match P.underlying (FO o).1 with
 |some (.array len e)=>ACG o&&Nat.beq (P.cellsOf e) 1&&Nat.blt m len&&(match E.ptr? (FO o).2.1 with
  |some (r,q,j)=>(E.place r q (j+m)).isSome
  |none=>false)
 |_=>false
def AGn (E:St) (o:Oper) (m:Nat):SV:= .one (.ptr (Hn E (FO o).2.1).1 (E.stamp (Hn E (FO o).2.1).1 (Hn E (FO o).2.1).2.1) (Hn E (FO o).2.1).2.1 ((Hn E (FO o).2.1).2.2+m))
theorem pxa {o:Oper} (m:Nat) (hn:n=(m:Int)) (hi:Sc P E (FO o).2.2=some n:=by kernel_rfl) (ho:AHJ P E o m=true:=by kernel_rfl):Bm P E o=some (AGn E o m):=by
 unfold AHJ at ho;split at ho
 ·rename_i len e ht;simp only [An]at ho;obtain⟨⟨⟨h1,h2⟩,h3⟩,h4⟩:=ho;obtain⟨k,hi⟩:=HX hi;split at h4
  ·rename_i r q j hp;have:=AIC r q j hn (nX h1) ht hi hp (Bx h2) h3 h4;rw [this];simp only [AGn,Hn,hp,Be]
  cases h4
 cases ho
section
variable {x:α}
def GZ (o:Oper):TypeId×TypeId×Operand×Operand:=match o.op with
 | .call c=>match c.callee,c.args.toList,c.argTypes.toList with
  | .builtin .append,[s,x],[t,t']=>(t,t',s,x)
  |_,_,_=>(0,0,.tmp 0,.tmp 0)
 |_=>(0,0,.tmp 0,.tmp 0)
end
section
variable {x:α}
def AFQ (o:Oper):Bool:=match o.op with
 | .call c=>match c.callee,c.args.toList,c.argTypes.toList with
  | .builtin .append,[s,x],[t,t']=>true
  |_,_,_=>false
 |_=>false
end
theorem ABM {o:Oper} (h:AFQ o=true):o.op= .call {callee:= .builtin .append,args:= #[(GZ o).2.2.1,(GZ o).2.2.2],argTypes:= #[(GZ o).1,(GZ o).2.1]}:=by
 unfold AFQ at h;unfold GZ;split at h
 ·rename_i c hc;split at h
  ·rename_i s x t t' h1 h2 h3;obtain⟨callee,args,types⟩:=c;simp only at h1 h2 h3;subst h1;obtain rfl:args= #[s,x]:=by cases args;simp_all
   obtain rfl:types= #[t,t']:=by cases types;simp_all
   rw [hc]
  cases h
 cases h
def AGb (P:Program) (N:Nat) (o:Oper) (sz by_:Nat):Bool:=AFQ o&&Nat.beq (GZ o).1 (GZ o).2.1&&W2 P (GZ o).1 sz&&(KP P (ZT P (GZ o).1)).isSome&&Nat.beq (P.bytesOf (ZT P (GZ o).1)) by_&&Nat.blt 0 by_&&Gz N o
def Wq (P:Program) (E:St) (o:Oper) (sz:Nat):Option (List TV×St):=match E.cell1 P (GZ o).1 (GZ o).2.2.1 with
 |some sv=>match DF E sv with
  |some (.sl true e s cells,E1)=>bif Nat.beq e (ZT P (GZ o).1)&&Nat.beq s sz then some (cells,E1)else none
  |_=>none
 |none=>none
def apE (P:Program) (E:St) (o:Oper) (sz:Nat):St:=((Wq P E o sz).map Prod.snd).getD E
def apV (P:Program) (o:Oper) (sz:Nat) (a:List TV):SV:= .one (.sl true (ZT P (GZ o).1) sz a)
def AEQ (P:Program) (E1:St) (o:Oper) (sz:Nat):Option (Nat×List TV×St):=match E1.ref (GZ o).2.2.2 with
 |some (r,q,j)=>match E1.place r q j with
  |some (.sl _ _ s cells)=>bif Nat.beq s sz then(match Fu E1 (Tu E1 r (q++ [j]) 0 cells)with
   |some (news,E2)=>some (cells.length,news,E2)
   |none=>none)else none
  |_=>none
 |none=>none
theorem pY {t:TypeId} {e:TypeId} (h:P.underlying t=some (.slice e)):ZT P t=e:=by unfold ZT;rw [h]
section
variable {o:Oper} {x:α}
theorem AH8 {E2:St} {r:Root} {e2:Nat} {cells2:List TV} (hf:∀x,(f x).length=sz) (l m:List α) (h:ap by_ l m=some u) (hd:Wq P E o sz=some (AU f l,E1)) {q:List Nat} {g:Bool} (hr:E1.ref (GZ o).2.2.2=some (r,q,j)) (hp:E1.place r q j=some (.sl g e2 sz cells2)) (hn:Fu E1 (Tu E1 r (q++ [j]) 0 cells2)=some (AU f m,E2)) (hl:cells2.length=m.length*sz) (ho:AGb P N o sz by_=true):CF P N false E o=some (E2.put o.dst (apV P o sz (AU f u))):=by
 obtain⟨rfl,i⟩:=AGa h;simp only [AGb,An]at ho;obtain⟨⟨⟨⟨⟨⟨a1,a2⟩,a3⟩,a4⟩,a5⟩,a6⟩,a7⟩:=ho;obtain⟨d,a8,_,a9⟩:=EV a7;obtain⟨e,b1,b2,b3⟩:=LM a3;have a:=pY b1;rw [a]at a4 a5;have h0':0<sz:=by simpa [BC]using b3
 have hb0':0<by_:=by simpa [BC]using a6
 have hb:=Bx a5;have k:=Bx a2;unfold Wq at hd;rw [a]at hd;split at hd
 ·rename_i sv hs;split at hd
  ·rename_i e1 s n E1' h1
   cases hc:(Nat.beq e1 e&&Nat.beq s sz)with
   |false=>rw [hc]at hd;cases hd
   |true=>
    rw [hc]at hd;simp only [Ae]at hd
    injection hd with hd
    injection hd with hd1 hd2
    rw [An]at hc;have c1:=Bx hc.1;have c2:=Bx hc.2;subst hd1 hd2 c1 c2;have b:(AU f l).length/s=l.length:=by rw [Gm hf];exact Fx _ h0'
    have c:cells2.length/s=m.length:=by rw [hl];exact Fx _ h0'
    have p:l.length+m.length<=(l.length+m.length)*by_:=Nat.le_mul_of_pos_right _ hb0';unfold CF;rw [a8];simp only [A3 a9,ABM a1,A3 k,Ms,b1,hs,h1,hr,hp,hn];rw [A3 ⟨trivial,b2.symm,trivial,h0',a4,by rw [b,c];omega,by rw [b,c,hb];exact i⟩,Wj,apV,a]
  cases hd
 cases hd
end
theorem aJ {o:Oper} {a:List TV} (h:(Wq P E o sz).map Prod.fst=some a):Wq P E o sz=some (a,apE P E o sz):=by
 unfold apE
 cases hx:Wq P E o sz with
 |none=>rw [hx]at h;cases h
 |some z=>
  rw [hx]at h;simp only [B3]at h
  injection h with h
  subst h;rfl
section
variable {o:Oper} {x:α}
theorem Dk {m:List α} (hf:∀x,(f x).length=sz) (hg:∀x,IQ (f x)=true) (l:List α) (h:ap by_ l m=some u) (hd:(Wq P E o sz).map Prod.fst=some (AU f l):=by kernel_rfl) (hm:gI (apE P E o sz) (GZ o).2.2.2 sz=some (AU f m):=by kernel_rfl) (ho:AGb P N o sz by_=true:=by kernel_rfl):
  CF P N false E o=some ((apE P E o sz).put o.dst (apV P o sz (AU f u))):=by
 obtain⟨r,q,j,a,e,h1,h2⟩:=OX hm;exact AH8 hf l m h (aJ hd) h1 h2 (by rw [XX _ (S4 hg m),PC (S4 hg m)]) (Gm hf m) ho
end
section
variable {o:Oper} {x:α}
theorem pX (hf:∀x,(f x).length=sz) (l m:List α) (h:ap by_ l m=some u) (hd:(Wq P E o sz).map Prod.fst=some (AU f l):=by kernel_rfl) (hm:(AEQ P (apE P E o sz) o sz).map (λz=>(z.1,z.2.1))=some (m.length*sz,AU f m):=by kernel_rfl) (ho:AGb P N o sz by_=true:=by kernel_rfl):
  CF P N false E o=some ((((AEQ P (apE P E o sz) o sz).map (λz=>z.2.2)).getD E).put o.dst (apV P o sz (AU f u))):=by
 have hd':=aJ hd;generalize hE:apE P E o sz=E1 at hm hd'⊢;unfold AEQ at hm⊢
 cases hr:E1.ref (GZ o).2.2.2 with
 |none=>simp only [hr]at hm;cases hm
 |some z=>
  obtain⟨r,q,j⟩:=z;simp only [hr]at hm⊢
  cases hp:E1.place r q j with
  |none=>simp only [hp]at hm;cases hm
  |some t=>
   simp only [hp]at hm⊢
   cases t with
   |sl own e2 s cells=>
    simp only at hm⊢
    cases hb:Nat.beq s sz with
    |false=>rw [hb]at hm;cases hm
    |true=>
     rw [hb]at hm;simp only [Ae]at hm⊢;have:=Bx hb;subst this
     cases hn:Fu E1 (Tu E1 r (q++ [j]) 0 cells)with
     |none=>simp only [hn]at hm;cases hm
     |some y=>
      obtain⟨news,E2⟩:=y;simp only [hn,B3]at hm⊢
      injection hm with hm
      injection hm with hm1 hm2
      subst hm2;exact AH8 hf l m h hd' hr hp hn hm1 ho
   |_=>simp only at hm;cases hm
end
def Sb (o:Oper):TypeId×Operand×Operand:=match o.op with
 | .makeSlice t l c=>(t,l,c)
 |_=>(0,.tmp 0,.tmp 0)
def AHc (o:Oper):Bool:=match o.op with
 | .makeSlice .. =>true
 |_=>false
theorem AFK {o:Oper} (h:AHc o=true):o.op= .makeSlice (Sb o).1 (Sb o).2.1 (Sb o).2.2:=by
 unfold AHc at h;unfold Sb;split at h
 ·rename_i h1;simp only [h1]
 cases h
def AH2 (P:Program) (N:Nat) (o:Oper) (sz by_:Nat):Bool:=AHc o&&W2 P (Sb o).1 sz&&Nat.beq (P.bytesOf (ZT P (Sb o).1)) by_&&Gz N o
section
variable {o:Oper} {x:α}
theorem fmk (hf:∀x,(f x).length=sz) (z:α) (h:mk by_ z n=some u) (hl:Sc P E (Sb o).2.1=some n:=by kernel_rfl) (hc:Sc P E (Sb o).2.2=some n:=by kernel_rfl) (hz:KP P (ZT P (Sb o).1)=some (f z):=by kernel_rfl) (ho:AH2 P N o sz by_=true:=by kernel_rfl):
  CF P N false E o=some (E.put o.dst (.one (.sl true (ZT P (Sb o).1) sz (AU f u)))):=by
 simp only [AH2,An]at ho;obtain⟨⟨⟨a1,a2⟩,a3⟩,a4⟩:=ho;obtain⟨d,a5,a6,_⟩:=EV a4;obtain⟨e,b1,b2,b3⟩:=LM a2;have a:=pY b1;rw [a]at hz a3⊢;obtain⟨k1,hl⟩:=HX hl;obtain⟨k2,hc⟩:=HX hc;rw [a5];exact AIy z h (AFK a1) a5 a6 b1 hl hc hz rfl (Bx a3) b2
end
def AHb (o:Oper):Bool:=match o.op with
 | .convert .. =>true
 |_=>false
theorem AFJ {o:Oper} (h:AHb o=true):o.op= .convert (PH o).1 (PH o).2.1 (PH o).2.2:=by
 unfold AHb at h;unfold PH;split at h
 ·rename_i h1;simp only [h1]
 cases h
def AHO (P:Program) (N:Nat) (o:Oper):Bool:=AHb o&&uO P (PH o).1&&W2 P (PH o).2.1 1&&uN P (ZT P (PH o).2.1)&&Gz N o
theorem fsb {o:Oper} {f:Int->List TV} {b:ByteArray} (hf:∀n,f n=[.int .u8 n]) (hx:XU P E (PH o).1 (PH o).2.2=some b) (ho:AHO P N o=true:=by kernel_rfl):CF P N false E o=some (E.put o.dst (.one (.sl false (ZT P (PH o).2.1) 1 (AU f (yL b))))):=by
 simp only [AHO,An]at ho;obtain⟨⟨⟨⟨a1,a2⟩,a3⟩,a4⟩,a5⟩:=ho;obtain⟨d,a6,a7,_⟩:=EV a5;obtain⟨e,b1,b2,b3⟩:=LM a3;have a:=pY b1;rw [a]at a4⊢;rw [a6];exact AIx hf (AFJ a1) a6 a7 (Zw a2) b1 (Mz hx) a4
section
variable {x:α}
def Qj (o:Oper):TypeId×Operand×Operand:=match o.op with
 | .store t a x=>(t,a,x)
 |_=>(0,.tmp 0,.tmp 0)
end
def AHa (o:Oper):Bool:=match o.op with
 | .store .. =>o.dst.isNone
 |_=>false
theorem AFI {o:Oper} (h:AHa o=true):o.op= .store (Qj o).1 (Qj o).2.1 (Qj o).2.2/\o.dst=none:=by
 unfold AHa at h;unfold Qj;split at h
 ·rename_i h1;simp only [h1];exact⟨trivial,Option.isNone_iff_eq_none.1 h⟩
 cases h
def UP (P:Program) (E:St) (o:Oper):Option (List TV×St):=match E.val P (Qj o).1 (Qj o).2.2 with
 |some s=>L6 E s
 |none=>none
def stX (P:Program) (E:St) (o:Oper):List TV:=((UP P E o).map Prod.fst).getD []
def yF (P:Program) (E:St) (o:Oper):St:=((UP P E o).map Prod.snd).getD E
def stP (P:Program) (E:St) (o:Oper):Root×List Nat×Nat:=Hn (yF P E o) (Qj o).2.1
def AB7 (P:Program) (E:St) (o:Oper) (k sz:Nat):Bool:=AHa o&&(UP P E o).isSome&&Nat.beq (stX P E o).length (P.cellsOf (Qj o).1)&&Nat.blt 0 (stX P E o).length&&Nat.ble (k+(stX P E o).length) sz
section
variable {o:Oper} {x:α}
theorem AH5 {r:Root} (hf:∀x,(f x).length=sz) (hx:gi l n=some x) (k:Nat) {c:Nat} {q:List Nat} {cs cs':List TV} (ho:AB7 P E o k sz=true) (hp:(yF P E o).ptr? (Qj o).2.1=some (r,c::q,n.toNat*sz+k)) (hr:(yF P E o).root r=some cs) (A:At cs (c::q) (AU f l) (λa=>setRow a (n.toNat*sz+k) (stX P E o)) cs'):CF P N false E o=some (((yF P E o).setRoot r cs').bump r):=by
 simp only [AB7,An]at ho;obtain⟨⟨⟨⟨a1,a2⟩,a3⟩,a4⟩,a5⟩:=ho;obtain⟨b1,b2⟩:=AFI a1;have ht:UP P E o=some (stX P E o,yF P E o):=by
  unfold stX yF
  cases hh:UP P E o with
  |none=>rw [hh]at a2;cases a2
  |some z=>rfl
 generalize hX:stX P E o=xs at*;generalize hE:yF P E o=E1 at*;unfold UP at ht;split at ht
 ·rename_i s hs;have h0':0<xs.length:=by simpa [BC]using a4
  simp only [CF,b2,b1,Un,hs,ht,hp,hr,A.c];rw [A3 ⟨A.o,Bx a3,h0',AHg hf hx a5⟩,A5 (by simp),A.u]
 cases ht
end
section
variable {o:Oper}
def AFo (E:St) (r:Root) (c:Nat) (a:List TV):List TV:=match E.root r with
 |some cs=>match cs[c]? with
  |some (.sl o e s _)=>cs.set c (.sl o e s a)
  |_=>cs
 |none=>[]
end
def QB (E:St) (r:Root) (c:Nat):Option (List TV):=match E.root r with
 |some cs=>match cs[c]? with
  |some (.sl true e s row)=>some row
  |_=>none
 |none=>none
theorem QA {r:Root} {c:Nat} {a:List TV} (h:QB E r c=some a):∃cs e s,E.root r=some cs/\cs[c]?=some (.sl true e s a)/\∀row',AFo E r c row'=cs.set c (.sl true e s row'):=by
 unfold QB at h;unfold AFo;split at h
 ·rename_i cs hr;split at h
  ·rename_i e s row' hc
   injection h with h
   subst h;exact⟨cs,e,s,hr,hc,λrow''=>by simp only [hc]⟩
  cases h
 cases h
section
variable {o:Oper} {x:α}
theorem Nd (hf:∀x,(f x).length=sz) (hx:gi l n=some x) (k c:Nat) (z:α) (ho:AB7 P E o k sz=true:=by kernel_rfl) (hp:(yF P E o).ptr? (Qj o).2.1=some ((stP P E o).1,[c],n.toNat*sz+k):=by kernel_rfl) (hr:QB (yF P E o) (stP P E o).1 c=some (AU f l):=by kernel_rfl) (hz:setRow (f x) k (stX P E o)=f z:=by kernel_rfl):CF P N false E o=some (((yF P E o).setRoot (stP P E o).1 (AFo (yF P E o) (stP P E o).1 c (AU f (si l n z)))).bump (stP P E o).1):=by
 obtain⟨cs,e,s,h1,h2,h3⟩:=QA hr;refine AH5 hf hx k ho hp h1 ?_;rw [h3];have hk:Nat.ble (k+(stX P E o).length) sz=true:=by
  simp only [AB7,An]at ho;exact ho.2
 exact At.one (UR hf hx hk hz) h2 rfl
end
section
variable {o:Oper} {x:α}
theorem AFV (hf:∀x,(f x).length=sz) (hx:gi l n=some x) (k c:Nat) (z:α) (hf':∀x,(f' x).length=sz') (hx':gi l' n'=some x') (k':Nat) (z':α') (ho:(AB7 P E o k sz&&Nat.blt k' sz')=true:=by kernel_rfl) (hp:(yF P E o).ptr? (Qj o).2.1=some ((stP P E o).1,[c,n'.toNat*sz'+k'],n.toNat*sz+k):=by kernel_rfl) (hr:QB (yF P E o) (stP P E o).1 c=some (AU f' l'):=by kernel_rfl) (hz:setRow (f x) k (stX P E o)=f z:=by kernel_rfl) {e s:Nat} (hc:(f' x')[k']?=some (.sl true e s (AU f l)):=by rfl) (hc':(f' x').set k' (.sl true e s (AU f (si l n z)))=f' z':=by rfl):CF P N false E o=some (((yF P E o).setRoot (stP P E o).1 (AFo (yF P E o) (stP P E o).1 c (AU f' (si l' n' z')))).bump (stP P E o).1):=by
 obtain⟨cs,e1,s1,h1,h2,h3⟩:=QA hr;rw [An]at ho;refine AH5 hf hx k ho.1 hp h1 ?_;rw [h3];have hk:Nat.ble (k+(stX P E o).length) sz=true:=by
  have:=ho.1;simp only [AB7,An]at this;exact this.2
 exact AIg hf' hx' (At.one (UR hf hx hk hz) hc hc') ho.2 h2 rfl
end
theorem KB.o {ops:Array Oper} {ts dn:List Nat} (mv:Bool) (h:KW P N ops ts (i::dn) ((CF P N mv E (oA ops i)).getD E) Q) (hs:(CF P N mv E (oA ops i)).isSome=true:=by kernel_rfl) (hk:(SX P ops E i&&(kp (oA ops i)||ts.contains i))=true:=by kernel_rfl):KB P N ops ts dn i E Q:=L5 (getD_some hs) h hk
def bits:Nat->List (TypeId×Operand)->List (Bool×TypeId×Operand)
 |_,[]=>[]
 |m,(t,x)::l=>(Nat.beq (m %2) 1,t,x)::bits (m/2) l
def Xl (o:Oper):Nat:=match o.op with
 | .call c=>match c.callee with
  | .value (.func f)=>f
  |_=>0
 |_=>0
def GK (o:Oper):List (TypeId×Operand):=match o.op with
 | .call c=>c.argTypes.toList.zip c.args.toList
 |_=>[]
def p9 (P:Program) (N:Nat) (o:Oper):Bool:=(match o.op with
 | .call c=>match c.callee with
  | .value (.func f)=>Nat.beq c.argTypes.size c.args.size&&(match P.funcs[f]? with
   | some fn => !(fn.name == "runtime.NumGoroutine") && !fn.body.isNone
   |none=>false)
  |_=>false
 |_=>false)&&(match o.dst with
 |some d=>Nat.blt d N
 |none=>true)
theorem Oy:∀{l:List (TypeId×Operand)} {m:Nat},(bits m l).map (λx=>x.2.2)=l.map Prod.snd
 |[],m=>rfl
 |(t,x)::l,m=>by simp only [bits,BF,Oy]
theorem P2 {o:Oper} (h:p9 P N o=true):∃args tys,o.op= .call {callee:= .value (.func (Xl o)),args:=args,argTypes:=tys}/\pO P (Xl o)/\(∀d,o.dst=some d->d<N)/\(GK o).map Prod.snd=args.toList:=by
 simp only [p9,An]at h;obtain⟨h1,h2⟩:=h;have hN:∀d,o.dst=some d->d<N:=by
  intro d hd;rw [hd]at h2;simpa [BC]using h2
 unfold Xl GK;split at h1
 ·rename_i c hc;split at h1
  ·rename_i f a;rw [An]at h1;obtain⟨h3,h4⟩:=h1;split at h4
   ·rename_i fn b;simp only [An,CV]at h4;obtain⟨callee,args,types⟩:=c;simp only at a h3;subst a;have hz:=Bx h3;refine⟨args,types,by simp only [hc],?_,hN,?_⟩
    ·exact⟨fn,b,by intro e;rw [e]at h4;simp at h4,h4.2⟩
    exact List.map_snd_zip (by simp [hz])
   cases h4
  cases h1
 cases h1
def mvA (P:Program) (E:St) (o:Oper) (m:Nat):Option (List (Option SV)×St):=LB P E (bits m (GK o))
def clE (P:Program) (E:St) (o:Oper) (m:Nat):St:=((mvA P E o m).map Prod.snd).getD E
def shA (P:Program) (E:St) (o:Oper) (m:Nat):Option (List AV×Bool):=match mvA P E o m with
 |some (ss,E1)=>IG P E1 (bits m (GK o)) ss
 |none=>none
def ACb (P:Program) (E:St) (o:Oper) (m:Nat):Option (List AV):=(shA P E o m).map Prod.fst
def shB (P:Program) (E:St) (o:Oper) (m:Nat):Bool:=match shA P E o m with
 |some (_,b)=>b
 |none=>false
theorem AEz {o:Oper} {a:SV} (h:ACb P E o m=some as) (hc:shB P E o m=true\/BA a=false):X6 P E o.dst (bits m (GK o)) as a ((clE P E o m).put o.dst a):=by
 unfold ACb shB shA at*;unfold clE
 cases hm:mvA P E o m with
 |none=>rw [hm]at h;cases h
 |some z=>
  obtain⟨ss,E1⟩:=z;rw [hm]at h hc;simp only at h hc
  cases hs:IG P E1 (bits m (GK o)) ss with
  |none=>rw [hs]at h;cases h
  |some y=>
   obtain⟨as',c⟩:=y;rw [hs]at h hc;simp only [B3]at h hc
   injection h with h
   subst h;exact⟨ss,E1,c,hm,hs,hc,rfl⟩
theorem ca {γ:Type _} {l l':List γ} {a b:γ} (h:a=b) (k:l=l'):a::l=b::l':=by rw [h,k]
theorem cs {e sz:Nat} {a b:List TV} (h:BP a=b):TV.sl false e sz (BP a)= .sl false e sz b:=by rw [h]
theorem co {a b:TV} (h:a=b):AV.sv (.one a)= .sv (.one b):=by rw [h]
theorem ZX {a b:List TV} (h:a=b):AV.sv (.agg a)= .sv (.agg b):=by rw [h]
theorem RW.c {l:List AV} {n:Nat} {x:Option α} (m:Nat) (h:x.bind kk=some r) {enc:α->SV} (a:∀v,x=some v->AM P (Xl (oA ops i)) l (enc v) (List.replicate n .gone)) (hk:∀v,x=some v->kk v=some r->RW P N ops (i+1) ((clE P E (oA ops i) m).put (oA ops i).dst (enc v)) Q) (b:ACb P E (oA ops i) m=some l:=by kernel_rfl) (hc:shB P E (oA ops i) m=true\/∀v,BA (enc v)=false:=by exact .inl (by kernel_rfl)) (ho:(SX P ops E i&&p9 P N (oA ops i))=true:=by kernel_rfl):RW P N ops i E Q:=by
 obtain⟨v,hv,h⟩:=Au.1 h;rw [An]at ho;obtain⟨h1,h2⟩:=H8 ho.1;obtain⟨args,tys,h3,h4,h5,h6⟩:=P2 ho.2;unfold RW;rw [I9 h1];exact H5.call h3 h4 h2 h5 (bits m (GK (oA ops i))) (by rw [Oy,h6]) (a v hv) (AEz b (hc.imp id (λh=>h v))) (hk v hv h)
section
variable {ts:List Nat}
theorem KB.c {l:List AV} {n:Nat} {x:Option α} (m:Nat) (h:x.bind kk=some r) {enc:α->SV} (a:∀v,x=some v->AM P (Xl (oA ops i)) l (enc v) (List.replicate n .gone)) (hk:∀v,x=some v->kk v=some r->KW P N ops ts (i::dn) ((clE P E (oA ops i) m).put (oA ops i).dst (enc v)) Q) (b:ACb P E (oA ops i) m=some l:=by kernel_rfl) (hc:shB P E (oA ops i) m=true\/∀v,BA (enc v)=false:=by exact .inl (by kernel_rfl)) (ho:(SX P ops E i&&p9 P N (oA ops i)&&((bits m (GK (oA ops i))).all (λx=>!x.1)||ts.contains i))=true:=by kernel_rfl):KB P N ops ts dn i E Q:=by
 obtain⟨v,hv,h⟩:=Au.1 h;simp only [An]at ho;obtain⟨h1,h2⟩:=H8 ho.1.1;obtain⟨args,tys,h3,h4,h5,h6⟩:=P2 ho.1.2;exact i9.call i (I1 h1) h3 h4 h2 h5 (bits m (GK (oA ops i))) (by rw [Oy,h6]) ho.2 (a v hv) (AEz b (hc.imp id (λh=>h v))) (hk v hv h)
end
theorem gs {f:FuncId} {l l':List AV} {n:Nat} {x:Option α} {enc:α->SV} (e:l=l') (h:∀v,x=some v->AM P f l' (enc v) (List.replicate n .gone)):∀v,x=some v->AM P f l (enc v) (List.replicate n .gone):=e▸h
def cxR (E:St) (o:Oper):Root:=match GK o with
 |(_,x)::_=>(Hn E x).1
 |[]=> .hand
def AF0 (E:St) (o:Oper):Bool:=match GK o with
 |(_,x)::_=>(match E.ptr? x with
  |some (r,[],0)=>r.mem
  |_=>false)
 |[]=>false
def cxA (P:Program) (E:St) (o:Oper):Option (List AV×Bool):=IG P (E.without (cxR E o)) (bits 0 (GK o).tail) (List.replicate (bits 0 (GK o).tail).length none)
def AF1 (P:Program) (E:St) (o:Oper):Option (List AV):=(cxA P E o).map Prod.fst
def cxB (P:Program) (E:St) (o:Oper):Bool:=match cxA P E o with
 |some (_,b)=>b
 |none=>false
theorem AGF {o:Oper} (h:AF0 E o=true):∃t x l,GK o=(t,x)::l/\E.ptr? x=some (cxR E o,[],0)/\(cxR E o).mem=true:=by
 unfold AF0 at h;unfold cxR;split at h
 ·rename_i t x l hl;split at h
  ·rename_i r hp;refine⟨t,x,l,hl,?_,?_⟩
   ·simp only [Hn,hp,Be]
   simpa only [Hn,hp,Be]using h
  cases h
 cases h
theorem AEB {p:Prop} {o:Oper} (h:AF1 P E o=some as) (hc:cxB P E o=true\/p):∃c,IG P (E.without (cxR E o)) (bits 0 (GK o).tail) (List.replicate (bits 0 (GK o).tail).length none)=some (as,c)/\(c=true\/p):=by
 unfold AF1 cxB at*
 cases hs:cxA P E o with
 |none=>rw [hs]at h;cases h
 |some y=>
  obtain⟨as',c⟩:=y;rw [hs]at h hc;simp only [B3]at h hc
  injection h with h
  subst h;exact⟨c,hs,hc⟩
theorem FG {l:List AV} {n:Nat} {x:Option α} (h:x.bind kk=some r) {enc:α->SV} {b:List TV} (e:∀v,x=some v->AM P (Xl (oA ops i)) (.ext b::l) (enc v) (.ext (fin v)::List.replicate n .gone)) (d:∀v,(fin v).length=b.length) (hk:∀v,x=some v->kk v=some r->RW P N ops (i+1) (((E.setRoot (cxR E (oA ops i)) (fin v)).bump (cxR E (oA ops i))).put (oA ops i).dst (enc v)) Q) (f:AF1 P E (oA ops i)=some l:=by kernel_rfl) (hb:E.boxes (cxR E (oA ops i))=some b:=by kernel_rfl) (hc:cxB P E (oA ops i)=true\/∀v,BA (enc v)=false/\AO (fin v)=false:=by exact .inl (by kernel_rfl)) (ho:(SX P ops E i&&p9 P N (oA ops i)&&AF0 E (oA ops i))=true:=by kernel_rfl):RW P N ops i E Q:=by
 obtain⟨v,hv,h⟩:=Au.1 h;simp only [An]at ho;obtain⟨h1,h2⟩:=H8 ho.1.1;obtain⟨args,tys,h3,h4,h5,h6⟩:=P2 ho.1.2;obtain⟨t,x0,l0,h7,h8,h9⟩:=AGF ho.2;obtain⟨c,h10,h11⟩:=AEB f hc;unfold RW;rw [I9 h1];intro w0 FA UA w a blk FS US hr hF hU;simp only [wpList,C8 hr h2,BX];refine .inl (wH hr hF hU h3 h4 h5 (x:=x0) (l:=bits 0 (GK (oA ops i)).tail) ?_ h9 h8 hb (d v) h10 (h11.imp id (λh=>h v)) (e v hv) λw' v' blk' FS' US' k1 k2 k3=>hk v hv h _ _ _ _ _ _ _ _ k1 k2 k3);rw [Oy,<-h6,h7];rfl
theorem jA {ts:List Nat} {l:List AV} {n:Nat} {x:Option α} (h:x.bind kk=some r) {enc:α->SV} {b:List TV} (e:∀v,x=some v->AM P (Xl (oA ops i)) (.ext b::l) (enc v) (.ext (fin v)::List.replicate n .gone)) (d:∀v,(fin v).length=b.length) (hk:∀v,x=some v->kk v=some r->KW P N ops ts (i::dn) (((E.setRoot (cxR E (oA ops i)) (fin v)).bump (cxR E (oA ops i))).put (oA ops i).dst (enc v)) Q) (f:AF1 P E (oA ops i)=some l:=by kernel_rfl) (hb:E.boxes (cxR E (oA ops i))=some b:=by kernel_rfl) (hc:cxB P E (oA ops i)=true\/∀v,BA (enc v)=false/\AO (fin v)=false:=by exact .inl (by kernel_rfl)) (ho:(SX P ops E i&&p9 P N (oA ops i)&&AF0 E (oA ops i)&&ts.contains i)=true:=by kernel_rfl):KB P N ops ts dn i E Q:=by
 obtain⟨v,hv,h⟩:=Au.1 h;simp only [An]at ho;obtain⟨h1,h2⟩:=H8 ho.1.1.1;obtain⟨args,tys,h3,h4,h5,h6⟩:=P2 ho.1.1.2;obtain⟨t,x0,l0,h7,h8,h9⟩:=AGF ho.1.2;obtain⟨c,h10,h11⟩:=AEB f hc;intro w0 FA UA w a blk FS US hr hF hU;unfold wpOp;simp only [I1 h1,C8 hr h2,BX];refine .inl (wH hr hF hU h3 h4 h5 (x:=x0) (l:=bits 0 (GK (oA ops i)).tail) ?_ h9 h8 hb (d v) h10 (h11.imp id (λh=>h v)) (e v hv) λw' v' blk' FS' US' k1 k2 k3=>⟨λht=>(by rw [ho.2]at ht;cases ht),_,_,_,_,hk v hv h,k1,k2,k3⟩);rw [Oy,<-h6,h7];rfl
section
variable {bs:List Root}
theorem DM (hb:bs.all (λr=>r.mem&&(E.boxes r).isSome)=true:=by kernel_rfl) (hn:FR E ls bs=E':=by kernel_rfl):nt ls bs E E':=⟨hb,hn⟩
end
theorem wc {c:Operand} {x y:Code} (h:(bif b then tx else ty)=some r) (ht:tx=some r->Wp P N x E Q) (hf:ty=some r->Wp P N y E Q) (hc:E.cell1 P 0 c=some (.bool b):=by kernel_rfl):Wp P N (.cond c x y) E Q:=Wp.c h ht hf hc
theorem wt {c:Operand} {x y:Code} (ht:Wp P N x E Q) (hc:E.cell1 P 0 c=some (.bool true):=by kernel_rfl):Wp P N (.cond c x y) E Q:=AId ht hc
theorem wf {c:Operand} {x y:Code} (hf:Wp P N y E Q) (hc:E.cell1 P 0 c=some (.bool false):=by kernel_rfl):Wp P N (.cond c x y) E Q:=AIe hf hc
theorem rsz {a:SV} (h:(EQ P E rs).map (λz=>Gj z.1)=some a):∃ss E',EQ P E rs=some (ss,E')/\Gj ss=a:=by
 obtain⟨z,h1,h2⟩:=AZ.1 h;exact⟨z.1,z.2,h1,h2⟩
theorem rsx {rt:Root} {b:SV} {a:List TV} (h:(EQ P E rs).map (λz=>(Gj z.1,z.2.boxes rt))=some (b,some a)):∃ss E',EQ P E rs=some (ss,E')/\Gj ss=b/\E'.boxes rt=some a:=by
 obtain⟨z,h1,h2⟩:=AZ.1 h
 injection h2 with h3 h4
 exact⟨z.1,z.2,h1,h3,h4⟩
theorem gkx {f:FuncId} {c:Code} {a cells':List TV} {b:SV} (hf:P.funcs[f]?=some fn) (hb:fn.body=some c) (hN:fn.ntmps=N) (h:Wp P N c (En (.ext a::as)) λe E=>(e= .normal\/e= .ret)/\∃ss E',EQ P E fn.results.toList=some (ss,E')/\Gj ss=b/\E'.boxes (.ext 0)=some cells') (d:cells'.isEmpty=false:=by rfl):AM P f (.ext a::as) b (.ext cells'::List.replicate as.length .gone):=ACP hf hb (by rw [hN];exact h) d
theorem gk {f:FuncId} {c:Code} {a:SV} (hf:P.funcs[f]?=some fn) (hb:fn.body=some c) (hN:fn.ntmps=N) (h:Wp P N c (En as) λe E=>(e= .normal\/e= .ret)/\∃ss E',EQ P E fn.results.toList=some (ss,E')/\Gj ss=a):AM P f as a (List.replicate as.length .gone):=AEo hf hb (by rw [hN];exact h)
theorem yI:∀t:TV,(LG t).isSl=t.isSl:=by intro t;cases t<;>rfl
theorem JO:∀(cs:List TV) (j:Nat),(BP cs)[j]?=cs[j]?.map LG
 |[],j=>by simp [BP]
 |t::ts,0=>by simp [BP]
 |t::ts,j+1=>by simpa [BP]using JO ts j
theorem Wk:∀(q:List Nat) (cs:List TV),Cb (BP cs) q=(Cb cs q).map BP
 |[],cs=>rfl
 |c::q,cs=>by
  simp only [Cb,JO]
  cases cs[c]? with
  |none=>rfl
  |some t=>
   cases t with
   |sl o e sz cells=>exact Wk q cells
   |_=>rfl
def AAG:TV->List TV->TV
 | .sl _ e s _,row=> .sl false e s row
 |t,_=>t
def ZL (cs:List TV) (j:Nat) (a:List TV):List TV:=match cs[j]? with
 |some t=>cs.set j (AAG t a)
 |none=>cs
theorem pT {cs:List TV} {j e s:Nat} {a:List TV} (h:cs[j]?=some (.sl true e s a)) (c:Nat):(ZL cs j (BP a))[c]?=if c=j then some (.sl false e s (BP a))else cs[c]? :=by
 have hj:=(Ai.1 h).1;simp only [ZL,h,AAG];rw [Cd];by_cases hc:j=c
 ·subst hc;simp [hj]
 rw [A5 hc,A5 (λe=>hc e.symm)]
theorem AEt {r1:List TV} {cs:List TV} {j e s:Nat} {a:List TV} (h:cs[j]?=some (.sl true e s a)) {q:List Nat} (hq:Cb cs q=some r1) (i:Nat):
  ∃r2,Cb (ZL cs j (BP a)) q=some r2/\(r1[i]?.isSome=true->r2[i]?.isSome=true)/\(Kq r1[i]?=true->Kq r2[i]?=true):=by
 cases q with
 |nil=>
  simp only [Cb]at hq
  injection hq with hq
  subst hq;refine⟨_,rfl,?_,?_⟩
  ·rw [pT h];split
   ·intro _;rfl
   exact id
  rw [pT h];split
  ·intro _;rfl
  exact id
 |cons c q=>
  simp only [Cb,pT h];simp only [Cb]at hq;by_cases hc:c=j
  ·subst hc;rw [h]at hq;simp only at hq;rw [A3 rfl];simp only [Wk,hq,B3];refine⟨_,rfl,?_,?_⟩
   ·rw [JO];simp
   rw [JO]
   cases r1[i]? with
   |none=>exact id
   |some t=>simp only [Kq,B3,yI];exact id
  rw [A5 hc];exact⟨r1,hq,id,id⟩
theorem YZ:∀{ts:List TV} {vs:List Value} {F U:List Nat} {j:Nat} {t:TV},B7 w ts vs F U->ts[j]?=some t->F.Nodup->(∀v F1 U1,CG w t v F1 U1->∃F2 U2,CG w t' v F2 U2/\ID F1 U1 F2 U2)->
  ∃F' U',B7 w (ts.set j t') vs F' U'/\ID F U F' U'
 |[],vs,F,U,j,t,h,hj,_,_=>by simp at hj
 |x::ts,vs,F,U,0,t,h,hj,hn,hk=>by
  simp at hj;subst hj;simp only [B7]at h;obtain⟨v,a,F1,F2,U1,U2,rfl,rfl,rfl,h1,h2⟩:=h;obtain⟨F1',U1',a1,a2⟩:=hk v F1 U1 h1;exact⟨F1'++F2,U1'++U2,by simp only [DN,B7];exact⟨v,a,F1',F2,U1',U2,rfl,rfl,rfl,a1,h2⟩,Ry hn a2 ID.refl⟩
 |x::ts,vs,F,U,j+1,t,h,hj,hn,hk=>by
  simp only [B7]at h;obtain⟨v,a,F1,F2,U1,U2,rfl,rfl,rfl,h1,h2⟩:=h;obtain⟨F2',U2',a1,a2⟩:=YZ h2 (by simpa using hj) (Bs.1 hn).2.1 hk;exact⟨F1++F2',U1++U2',by simp only [Mk,B7];exact⟨v,a,F1,F2',U1,U2',rfl,rfl,rfl,h1,a1⟩,Ry hn ID.refl a2⟩
theorem ZY {a:Act} {blk:Root->Nat}:∀{ts:List TV} {vs:List Value} {F U:List Nat} {j:Nat} {t:TV},CP w a E blk ts vs F U->ts[j]?=some t->F.Nodup->(∀v F1 U1,CS w a E blk t v F1 U1->∃F2 U2,CS w a E blk t' v F2 U2/\ID F1 U1 F2 U2)->
  ∃F' U',CP w a E blk (ts.set j t') vs F' U'/\ID F U F' U'
 |[],vs,F,U,j,t,h,hj,_,_=>by simp at hj
 |x::ts,vs,F,U,0,t,h,hj,hn,hk=>by
  simp at hj;subst hj;obtain⟨v,b,F1,F2,U1,U2,rfl,rfl,rfl,h1,h2⟩:=h;obtain⟨F1',U1',a1,a2⟩:=hk v F1 U1 h1;exact⟨F1'++F2,U1'++U2,by rw [DN];exact⟨v,b,F1',F2,U1',U2,rfl,rfl,rfl,a1,h2⟩,Ry hn a2 ID.refl⟩
 |x::ts,vs,F,U,j+1,t,h,hj,hn,hk=>by
  obtain⟨v,b,F1,F2,U1,U2,rfl,rfl,rfl,h1,h2⟩:=h;obtain⟨F2',U2',a1,a2⟩:=ZY h2 (by simpa using hj) (Bs.1 hn).2.1 hk;exact⟨F1++F2',U1++U2',by rw [Mk];exact⟨v,b,F1,F2',U1,U2',rfl,rfl,rfl,h1,a1⟩,Ry hn ID.refl a2⟩
def frE (E:St) (r:Root) (j:Nat) (a:List TV):St:=match E.root r with
 |some cs=>E.setRoot r (ZL cs j a)
 |none=>E
theorem AAF {a:Act} {r:Root} {cs:List TV} {j e s:Nat} {b:List TV} (hr:E.root r=some cs) (hj:cs[j]?=some (.sl true e s b)) (hh:r≠ .hand) (R:Root):Cx w w a a E (E.setRoot r (ZL cs j (BP b))) blk blk R:=by
 have d:(E.setRoot r (ZL cs j (BP b))).ver=E.ver:=by cases r<;>rfl
 have f:(E.setRoot r (ZL cs j (BP b))).gen=E.gen:=by cases r<;>rfl
 have g:(ZL cs j (BP b)).length=cs.length:=by simp [ZL,hj]
 have c:∀cs0,E.root R=some cs0->∃cs1,(E.setRoot r (ZL cs j (BP b))).root R=some cs1/\∀q r1,Cb cs0 q=some r1->∀i:Nat,∃r2,Cb cs1 q=some r2/\(r1[i]?.isSome=true->r2[i]?.isSome=true)/\(Kq r1[i]?=true->Kq r2[i]?=true):=by
  intro cs0 h0;by_cases hR:R=r
  ·subst hR;rw [hr]at h0
   injection h0 with h0
   subst h0;refine⟨ZL cs j (BP b),?_,λq r1 hq i=>AEt hj hq i⟩
   cases R with
   |slot n=>
    simp only [St.root,St.setRoot,Cp,BX]at hr⊢
    injection hr with hr
    congr 1
    cases hs:E.slots n with
    |one t=>
     rw [hs]at hr;simp only [SV.cells]at hr;subst hr;have:(ZL [t] j (BP b)).length=1:=g
     match hf:ZL [t] j (BP b),this with
     |[x],_=>rfl
    |agg ts=>rfl
    |tup ss=>
     rw [hs]at hr;simp only [SV.cells]at hr;subst hr;simp at hj
   |box n=>simp [St.root,St.setRoot,Cp]
   |ext n=>simp [St.root,St.setRoot,Cp]
   |hand=>exact absurd rfl hh
  refine⟨cs0,?_,λq r1 hq i=>⟨r1,hq,id,id⟩⟩;rw [<-h0];cases r<;>cases R<;>simp only [St.root,St.setRoot,Cp]<;>first
   |exact absurd rfl hh
   |rfl
   |(rw [A5];intro e;exact hR (by rw [e]))
   |(rw [A5];intro e;injection e with e;exact hR (by rw [e]))
   |(rw [A5];intro e;cases e)
 constructor
 ·refine .inr ⟨by rw [d],λq i v h1 h2=>⟨h1,?_⟩,λq i ad hq h1 h2=>⟨h1,?_⟩⟩
  ·unfold St.place at h2⊢
   cases h0:E.root R with
   |none=>rw [h0]at h2;cases h2
   |some cs0=>
    rw [h0]at h2;obtain⟨cs1,k1,k2⟩:=c cs0 h0;simp only [Aa]at h2
    cases hc:Cb cs0 q with
    |none=>rw [hc]at h2;cases h2
    |some r1=>
     rw [hc]at h2;obtain⟨r2,k3,_,k4⟩:=k2 q r1 hc i;rw [k1];simp only [Aa,k3];exact k4 h2
  unfold St.place at h2⊢
  cases h0:E.root R with
  |none=>rw [h0]at h2;cases h2
  |some cs0=>
   rw [h0]at h2;obtain⟨cs1,k1,k2⟩:=c cs0 h0;simp only [Aa]at h2
   cases hc:Cb cs0 q with
   |none=>rw [hc]at h2;cases h2
   |some r1=>
    rw [hc]at h2;obtain⟨r2,k3,k4,_⟩:=k2 q r1 hc i;rw [k1];simp only [Aa,k3];exact k4 h2
 refine .inr ⟨by rw [f],λi ad h1 h2=>⟨h1,?_⟩⟩;unfold St.place at h2⊢
 cases h0:E.root R with
 |none=>rw [h0]at h2;cases h2
 |some cs0=>
  rw [h0]at h2;obtain⟨cs1,k1,k2⟩:=c cs0 h0;simp only [Aa]at h2;obtain⟨r2,k3,k4,_⟩:=k2 [] cs0 rfl i;rw [k1];simp only [Aa,k3];exact k4 h2
section
variable {a:Act}
theorem CY.freeze {r:Root} (h:CY w0 FA UA N w a E blk FS US) {cs:List TV} {j e s:Nat} {c:List TV} (hr:E.root r=some cs) (hj:cs[j]?=some (.sl true e s c)) (hh:r≠ .hand):
  ∃FS' US',CY w0 FA UA N w a (E.setRoot r (ZL cs j (BP c))) blk FS' US'/\FS' .hand=FS .hand/\US' .hand=US .hand:=by
 have x:=AAF (w:=w) (a:=a) (blk:=blk) hr hj hh;have f:ZL cs j (BP c)=cs.set j (.sl false e s (BP c)):=by simp only [ZL,hj,AAG]
 have l:∀v F1 U1,CG w (.sl true e s c) v F1 U1->∃F2 U2,CG w (.sl false e s (BP c)) v F2 U2/\ID F1 U1 F2 U2:=λv F1 U1 h1=>AG0 h1 (le1.s rfl)
 have y:∃F' U',ID (FS r) (US r) F' U'/\(∀n,r= .slot n->EH w a (E.setRoot r (ZL cs j (BP c))) blk ((E.slots n).withCells (ZL cs j (BP c))) (a.eval (.tmp n)) F' U')/\
   (r.mem=true->∃d T F,w.heap[blk r]?=some (.cells d T (0,0))/\B7 w (ZL cs j (BP c)) d.toList F U'/\F'=blk r::F):=by
  cases r with
  |slot n=>
   simp only [St.root]at hr
   injection hr with hr
   have hs:=HI x (h.slot n) (λ_ _=>rfl) (λ_ _=>rfl)
   cases g:E.slots n with
   |one t=>
    rw [g]at hr hs;simp only [SV.cells]at hr;subst hr;have z:j=0:=by
     have:=(Ai.1 hj).1;simpa using this
    subst z;simp at hj;subst hj;simp only [EH]at hs;obtain⟨F2,U2,k1,k2⟩:=l _ _ _ hs.1;refine⟨F2,U2,k2,λm hm=>?_,λhm=>(by cases hm)⟩
    injection hm with hm
    subst hm;rw [g,f];simp only [DN,SV.withCells,EH];exact⟨k1,λ_=>hs.2 rfl⟩
   |agg ts=>
    rw [g]at hr hs;simp only [SV.cells]at hr;subst hr;simp only [EH]at hs;obtain⟨vs,k0,k1⟩:=hs;obtain⟨F2,U2,k2,k3⟩:=ZY (t':= .sl false e s (BP c)) k1 hj (h.nodup _) l;refine⟨F2,U2,k3,λm hm=>?_,λhm=>(by cases hm)⟩
    injection hm with hm
    subst hm;rw [g,f];simp only [SV.withCells,EH];rw [f]at k2;exact⟨vs,k0,k2⟩
   |tup ss=>
    rw [g]at hr;simp only [SV.cells]at hr;subst hr;simp at hj
  |hand=>exact absurd rfl hh
  |box n=>
   rcases h.box (.box n) rfl with⟨k,_⟩|⟨cs0,d,T,F,k1,k2,k3,k4⟩
   ·simp only [St.root]at hr;rw [k]at hr;cases hr
   simp only [St.root]at hr;rw [k1]at hr
   injection hr with hr
   subst hr;have i:=h.nodup (.box n);rw [k4]at i;obtain⟨o,p⟩:=Dy.1 i;obtain⟨F2,U2,k5,k6⟩:=YZ (t':= .sl false e s (BP c)) k3 hj p l;refine⟨blk (.box n)::F2,U2,?_,λm hm=>(by cases hm),λ_=>⟨d,T,F2,k2,by rw [f];exact k5,rfl⟩⟩;rw [k4];refine⟨k6.1.cons_cons _,λb hb=>?_⟩
   rcases k6.2 b hb with q|⟨q1,q2⟩
   ·exact .inl q
   refine .inr ⟨by simp [q1],λhc=>?_⟩
   rcases BE.1 hc with rfl|hc
   ·exact o q1
   exact q2 hc
  |ext n=>
   rcases h.box (.ext n) rfl with⟨k,_⟩|⟨cs0,d,T,F,k1,k2,k3,k4⟩
   ·simp only [St.root]at hr;rw [k]at hr;cases hr
   simp only [St.root]at hr;rw [k1]at hr
   injection hr with hr
   subst hr;have i:=h.nodup (.ext n);rw [k4]at i;obtain⟨o,p⟩:=Dy.1 i;obtain⟨F2,U2,k5,k6⟩:=YZ (t':= .sl false e s (BP c)) k3 hj p l;refine⟨blk (.ext n)::F2,U2,?_,λm hm=>(by cases hm),λ_=>⟨d,T,F2,k2,by rw [f];exact k5,rfl⟩⟩;rw [k4];refine⟨k6.1.cons_cons _,λb hb=>?_⟩
   rcases k6.2 b hb with q|⟨q1,q2⟩
   ·exact .inl q
   refine .inr ⟨by simp [q1],λhc=>?_⟩
   rcases BE.1 hc with rfl|hc
   ·exact o q1
   exact q2 hc
 obtain⟨F',U',hl,h0,h2⟩:=y
 have u:∀b∈F',b∈FS r:=λb hb=>hl.1.subset hb
 refine⟨Cp FS r F',Cp US r U',?_,by rw [Bw (λe=>hh e.symm)],by rw [Bw (λe=>hh e.symm)]⟩;have hF:∀R b,b∈Cp FS r F' R->b∈FS R:=by
  intro R b hb;by_cases hR:R=r
  ·subst hR;rw [BV]at hb;exact u b hb
  rw [Bw hR]at hb;exact hb
 have hU:∀R b,b∈Cp US r U' R->b∈US R\/(R=r/\b∈FS r/\b∉F'):=by
  intro R b hb;by_cases hR:R=r
  ·subst hR;rw [BV]at hb
   rcases hl.2 b hb with q|⟨q1,q2⟩
   ·exact .inl q
   exact .inr ⟨rfl,q1,q2⟩
  rw [Bw hR]at hb;exact .inl hb
 constructor
 ·intro n;by_cases hn:r= .slot n
  ·subst hn;rw [BV,BV];have:=h0 n rfl;simpa only [St.setRoot,Cp,BX]using this
  rw [Bw (λe=>hn e.symm),Bw (λe=>hn e.symm)];have h1:(E.setRoot r (ZL cs j (BP c))).slots n=E.slots n:=by
   cases r with
   |slot m=>
    simp only [St.setRoot,Cp];rw [A5];intro e;exact hn (by rw [e])
   |_=>rfl
  rw [h1];exact HI x (h.slot n) (λ_ _=>rfl) (λ_ _=>rfl)
 ·intro R hm;by_cases hR:R=r
  ·subst hR;right;obtain⟨d,T,F,k1,k2,k3⟩:=h2 hm;refine⟨_,d,T,F,?_,k1,by rw [BV];exact k2,by rw [BV,k3]⟩
   cases R with
   |slot n=>cases hm
   |hand=>cases hm
   |box n=>simp [St.setRoot,Cp]
   |ext n=>simp [St.setRoot,Cp]
  rw [Bw hR,Bw hR];have h1:(E.setRoot r (ZL cs j (BP c))).boxes R=E.boxes R:=by
   cases r<;>simp only [St.setRoot,Cp]<;>first
    |rfl
    |(rw [A5 hR])
  rw [h1];exact h.box R hm
 ·have:(E.setRoot r (ZL cs j (BP c))).boxes .hand=E.boxes .hand:=by
   cases r<;>simp only [St.setRoot,Cp]<;>first
    |exact absurd rfl hh
    |rfl
    |(rw [A5 (by simp)])
  rw [this];exact h.nohand
 ·intro R;by_cases hR:R=r
  ·subst hR;rw [BV];exact hl.1.nodup (h.nodup R)
  rw [Bw hR];exact h.nodup R
 ·exact λR S h3 b hb hb'=>h.dis R S h3 b (hF R b hb) (hF S b hb')
 ·intro R S b hb hb'
  rcases hU S b hb' with q|⟨rfl,q1,q2⟩
  ·exact h.disU R S b (hF R b hb) q
  by_cases hR:R=S
  ·subst hR;rw [BV]at hb;exact q2 hb
  exact h.dis R S hR b (hF R b hb) q1
 ·exact λR b hb=>h.inF R b (hF R b hb)
 ·intro R b hb
  rcases hU R b hb with q|⟨rfl,q1,_⟩
  ·exact h.inU R b q
  obtain⟨q2,q3⟩:=h.inF R b q1;exact⟨.inr q2,q3⟩
 ·exact h.disA
 ·exact h.os
 ·exact h.tape
 ·exact h.output
 ·exact h.size
 ·exact h.keep
 ·exact h.len
 ·exact h.nodef
 ·exact h.xblk
 ·rw [Ep];exact h.ambB
 ·rw [Ep];exact h.ambI
 ·rw [HL];exact h.frz
 ·exact h.ambF
 rw [Ep];exact h.pin
end
theorem AEv {r:Root} (h:QB E r j=some row):∃cs e s,E.root r=some cs/\cs[j]?=some (.sl true e s row)/\frE E r j (BP row)=E.setRoot r (ZL cs j (BP row)):=by
 obtain⟨cs,e,s,h1,h2,_⟩:=QA h;exact⟨cs,e,s,h1,h2,by unfold frE;rw [h1]⟩
def X1:Root->Bool
 | .hand=>false
 |_=>true
theorem S7 {r:Root} (h:X1 r=true):r≠ .hand:=by rintro rfl;cases h
theorem RW.fz (r:Root) (j:Nat) (hs:BP row=row') (h:RW P N ops i (frE E r j row') Q) (ho:QB E r j=some row:=by kernel_rfl) (hh:X1 r=true:=by rfl):RW P N ops i E Q:=by
 intro w0 FA UA w a blk FS US hr hF hU;obtain⟨cs,e,s,h1,h2,h3⟩:=AEv ho;obtain⟨FS',US',k1,k2,k3⟩:=hr.freeze h1 h2 (S7 hh);rw [<-hs,h3]at h;exact h _ _ _ _ _ _ _ _ k1 (by rw [k2,hF]) (by rw [k3,hU])
theorem KW.fz {ts:List Nat} (r:Root) (j:Nat) (hs:BP row=row') (h:KW P N ops ts dn (frE E r j row') Q) (ho:QB E r j=some row:=by kernel_rfl) (hh:X1 r=true:=by rfl):KW P N ops ts dn E Q:=by
 intro hq hc w0 FA UA w a blk FS US hr hF hU;obtain⟨cs,e,s,h1,h2,h3⟩:=AEv ho;obtain⟨FS',US',k1,k2,k3⟩:=hr.freeze h1 h2 (S7 hh);rw [<-hs,h3]at h;exact h hq hc _ _ _ _ _ _ _ _ k1 (by rw [k2,hF]) (by rw [k3,hU])
theorem Wp.fz {c:Code} (r:Root) (j:Nat) (hs:BP row=row') (h:Wp P N c (frE E r j row') Q) (ho:QB E r j=some row:=by kernel_rfl) (hh:X1 r=true:=by rfl):Wp P N c E Q:=by
 intro w0 FA UA w a blk FS US hr hF hU;obtain⟨cs,e,s,h1,h2,h3⟩:=AEv ho;obtain⟨FS',US',k1,k2,k3⟩:=hr.freeze h1 h2 (S7 hh);rw [<-hs,h3]at h;exact h _ _ _ _ _ _ _ _ k1 (by rw [k2,hF]) (by rw [k3,hU])
def St.fzs (E:St) (f:Option Nat):St:={E with fz:=f}
theorem yE {a:Act} {f:Option Nat} (r:Root):Cx w w a a E (E.fzs f) blk blk r:=by
 have hp:∀q j,(E.fzs f).place r q j=E.place r q j:=λq j=>by cases r<;>rfl
 exact⟨.inr ⟨rfl,λq j v h1 h2=>⟨h1,by rw [hp];exact h2⟩,λq j ad _ h1 h2=>⟨h1,by rw [hp];exact h2⟩⟩,.inr ⟨rfl,λj ad h1 h2=>⟨h1,by rw [hp];exact h2⟩⟩⟩
theorem CY.fzs {a:Act} (h:CY w0 FA UA N w a E blk FS US) (f:Option Nat) (hf:∀n,f=some n->Frz w0 a n):CY w0 FA UA N w a (E.fzs f) blk FS US where
 slot:=λn=>HI yE (h.slot n) (λ_ _=>rfl) (λ_ _=>rfl)
 box:=h.box
 nohand:=h.nohand
 nodup:=h.nodup
 dis:=h.dis
 disU:=h.disU
 inF:=h.inF
 inU:=h.inU
 disA:=h.disA
 os:=h.os
 tape:=h.tape
 output:=h.output
 size:=h.size
 keep:=h.keep
 len:=h.len
 nodef:=h.nodef
 xblk:=h.xblk
 ambB:=h.ambB
 ambI:=h.ambI
 frz:=hf
 ambF:=h.ambF
 pin:=h.pin
theorem ABD (n:Nat):(2*n+1)/2=n:=by omega
theorem ABC (n:Nat):¬(2*n+1) %2=0:=by omega
def AFP (o:Oper):Bool:=match o.op with
 | .buildSlice t len parts=>Nat.beq len 0&&Nat.beq parts.size 0
 |_=>false
theorem AGX {a:Act} {nx:Next} {w':World} {o:Oper} (hb:AFP o=true) (hd:o.dst=some d) (hN:d<N) (hs:CF P N false E o=some E') (hr:(execOp a.eval o).run P w= .ok nx w'):∃B,nx= .value (.slice B 0 0):=by
 unfold AFP at hb;split at hb
 ·rename_i t len parts ho;rw [An]at hb;have h1:=Bx hb.1;have h2:=Bx hb.2;subst h1;have h3:parts= #[]:=Array.eq_empty_of_size_eq_zero h2;subst h3;simp only [CF,hd,A3 hN,ho,Lb]at hs;split at hs
  ·rename_i e hu;split at hs
   ·rename_i zs ss hz b;obtain⟨i,z,hi,c,f,g⟩:=Jo (w:=w) hz;simp [execOp,ho,Instr.buildSlice,run_underlying hu,sizeOf,typeInfo,hi,newRow,Instr.fill]at hr;obtain⟨hr,_⟩:=hr;exact⟨_,hr.symm⟩
   cases hs
  cases hs
 cases hb
def ADt (x:Operand):Nat:=match x with
 | .tmp n=>n
 |_=>0
theorem AA6 {ts:List Nat} (h:KW P N ops ts (i::dn) (((CF P N false E (oA ops i)).getD E).fzs (some (2*((oA ops i).dst.getD 0)+1))) Q) (hs:(CF P N false E (oA ops i)).isSome=true:=by kernel_rfl) (hk:(SX P ops E i&&AFP (oA ops i)&&Gz N (oA ops i))=true:=by kernel_rfl):KB P N ops ts dn i E Q:=by
 have hs':=getD_some (a:=E) hs;generalize hE:(CF P N false E (oA ops i)).getD E=E' at h hs';simp only [An]at hk;obtain⟨h1,h2⟩:=H8 hk.1.1;obtain⟨d,h3,_,h4⟩:=EV hk.2;rw [h3]at h;simp only [Be]at h;have b:kp (oA ops i)=true:=by
  have:=hk.1.2;unfold AFP at this;unfold kp;split at this
  ·rename_i ho;rw [ho]
  cases this
 intro w0 FA UA w a blk FS US hr hF hU;unfold wpOp;simp only [I1 h1,C8 hr h2,BX];obtain⟨nx,w',v,blk',FS',US',k1,k2,k3,k4,k5,k6⟩:=Qh hr hF hU hs';obtain⟨B,hB⟩:=AGX (N:=N) hk.1.2 h3 h4 hs' k1;have hv:v= .slice B 0 0:=by
  rcases k2 with k2|⟨k2,_⟩
  ·rw [hB]at k2;injection k2 with k2;exact k2.symm
  rw [hB]at k2;cases k2
 refine .inl ?_;unfold Oper.wp;rw [k1,hB];refine⟨λ_=>k6 b,_,blk',FS',US',h,?_,k4,k5⟩;rw [hv]at k3;refine k3.fzs _ (λn hn=>?_)
 injection hn with hn
 subst hn;unfold Frz;rw [A5 (ABC d),ABD d,h3];refine⟨B,?_⟩;have:=k3.len;simp only [Act.eval,Act.put];rw [E9];have hl:=hr.len;have c:d<a.tmps.size:=Bj h4 hl;simp [Array.getElem?_setIfInBounds_self,c]
theorem qM {ts:List Nat} (hs:CF P N false E (oA ops i)=some E') (h:KW P N ops ts (i::dn) (E'.fzs none) Q) (hk:(SX P ops E i&&AFQ (oA ops i)&&Nat.beq (GZ (oA ops i)).1 (GZ (oA ops i)).2.1&&Gz N (oA ops i))=true:=by kernel_rfl) (hx:(GZ (oA ops i)).2.2.1= .tmp (ADt (GZ (oA ops i)).2.2.1):=by kernel_rfl) (hz:E.fz=some (2*ADt (GZ (oA ops i)).2.2.1+1):=by kernel_rfl):KB P N ops ts dn i E Q:=by
 simp only [An]at hk;obtain⟨⟨⟨h0,h5⟩,h6⟩,h7⟩:=hk;obtain⟨h1,h2⟩:=H8 h0;obtain⟨d,h3,_,h4⟩:=EV h7;have c:=Bx h6;have ho:=ABM h5;rw [<-c]at ho;intro w0 FA UA w a blk FS US hr hF hU;unfold wpOp;simp only [I1 h1,C8 hr h2,BX];have he:Ms P E d (GZ (oA ops i)).1 (GZ (oA ops i)).2.2.1 (GZ (oA ops i)).2.2.2=some E':=by
  unfold CF at hs;rw [h3]at hs;simpa only [A3 h4,ho,BX]using hs
 obtain⟨nx,w',v,blk',FS',US',k1,k2,k3,k4,k5,_,k6⟩:=U7 hr hF hU ho h3 h4 he;have b:=hr.frz _ hz;unfold Frz at b;rw [A5 (ABC _),ABD,<-hx]at b;obtain⟨B,hB⟩:=b;refine .inl ?_;unfold Oper.wp;rw [k1]
 rcases k2 with rfl|⟨rfl,rfl⟩
 ·exact⟨λ_=>k6 B hB,_,blk',FS',US',h,k3.fzs none (λn hn=>by cases hn),k4,k5⟩
 exact⟨λ_=>k6 B hB,_,blk',FS',US',h,k3.fzs none (λn hn=>by cases hn),k4,k5⟩
def rm (k:IntKind) (a b:Int):Option Int:=if b=0 then none else some (a.tmod b)
def ban (k:IntKind) (a b:Int):Int:=k.wrap (BitVec.ofInt k.bits a&&&BitVec.ofInt k.bits b).toNat
def bxo (k:IntKind) (a b:Int):Int:=k.wrap (BitVec.ofInt k.bits a^^^BitVec.ofInt k.bits b).toNat
def AGq (P:Program) (E:St) (o:Oper) (k:IntKind) (q:Bool):Option (Int×Int):=match o.op with
 | .binOp op t x y _=>bif(match op with| .rem=>!q| .quo=>q|_=>false)then(match E.cell1 P t x,E.cell1 P t y with
  |some (.int k' a),some (.int k'' b)=>bif decide (k'=k)&&decide (k''=k)then some (a,b)else none
  |_,_=>none)else none
 |_=>none
theorem prm {o:Oper} {a b v:Int} (hx:rm k a b=some v) (hc:AGq P E o k false=some (a,b):=by kernel_rfl):Bm P E o=some (.one (.int k v)):=by
 unfold AGq at hc;split at hc
 ·rename_i op t x y t' ho;cases op<;>simp only [AJ,Ae,Ac,reduceCtorEq]at hc;split at hc
  ·rename_i k' a' k2 b' h1 h2
   cases hk:(decide (k'=k)&&decide (k2=k))with
   |false=>rw [hk]at hc;cases hc
   |true=>
    rw [hk]at hc;simp only [Ae]at hc
    injection hc with hc
    injection hc with hc1 hc2
    rw [An]at hk;have e1:=H9 hk.1;have e2:=H9 hk.2;subst hc1 hc2 e1 e2;unfold rm at hx;split at hx
    ·cases hx
    rename_i hb
    injection hx with hx
    subst hx;simp only [Bm,ho,h1,h2,V6,BX,Wo,AEk,A5 hb,B3]
  cases hc
 cases hc
def qO (P:Program) (f:FuncId) (as:List AV) (a:List TV):Prop:=
 ∀(w:World) (vs:List Value) (FA UA:List Nat),Ki w as vs FA UA->FA.Nodup->(∀b∈FA,b∉UA)->(∀b∈FA++UA,b<w.heap.size)->
  Calls P f vs.toArray w λe w'=>∃v F U G V,e= .returned v/\AEW w w' FA UA (.tup []) [.ext a] [v] (.tuple #[]) F U G V
theorem gkp {f:FuncId} {c:Code} {cells:List TV} (hf:P.funcs[f]?=some fn) (hb:fn.body=some c) (hN:fn.ntmps=N) (h:Wp P N c (En as) λe E=>(e= .normal\/e= .ret)/\∃t r,fn.results.toList=[.tmp t]/\E.ptr? (.tmp t)=some (r,[],0)/\r.mem=true/\E.boxes r=some cells) (l:cells.isEmpty=false:=by rfl):qO P f as cells:=by
 subst hN;intro w vs FA UA ha m j o;obtain⟨blk,FS,US,hr,hF,hU⟩:=Rc (N:=fn.ntmps) ha m j o (A:=JG.none) (fz:=none) trivial (λb hb=>by cases hb);refine calls_of_wp hf hb (wp_mono (h _ _ _ _ _ _ _ _ hr hF hU) ?_);rintro e a w' ⟨E,blk',FS',US',⟨he,t,r,h1,h2,h3,h4⟩,k3,h5,h6⟩;obtain⟨u,ad,d,p⟩:=LY k3 h2;have s:ad=⟨blk' r,0,none⟩:=by
  cases r with
  |slot n=>cases h3
  |hand=>cases h3
  |box n=>simp only [pa]at d;injection d with d;rw [<-d];simp [Addr.add]
  |ext n=>simp only [pa]at d;injection d with d;rw [<-d];simp [Addr.add]
 obtain⟨g,T,F3,b2,b3,b4⟩:∃g T F3,w'.heap[blk' r]?=some (.cells g T (0,0))/\B7 w' cells g.toList F3 (US' r)/\FS' r=blk' r::F3:=by
  rcases k3.box r h3 with⟨q,_⟩|⟨cs,g,T,F3,q1,q2,q3,q4⟩
  ·rw [h4]at q;cases q
  rw [h4]at q1
  injection q1 with q1
  subst q1;exact⟨g,T,F3,q2,q3,q4⟩
 have hne':cells≠ []:=by rintro rfl;cases l
 have k:(fn.results.toList.mapM (NI P a.tmps)).run P w'= .ok [a.eval (.tmp t)] w':=by
  rw [h1,List.mapM_cons];simp [NI,Act.eval]
 have i:a.defers=[]/\∃v,(results fn a.tmps).run P w'= .ok v w'/\∃v' F U G V,Ending.returned v= .returned v'/\AEW w w' FA UA (.tup []) [.ext cells] [v'] (.tuple #[]) F U G V:=by
  refine⟨k3.nodef,_,Nw k,a.eval (.tmp t),[],[],FS' r,US' r,by simp,?_⟩
  exact{
   res:=by simp only [W1];exact⟨[],rfl,by simp [O4]⟩
   fin:=⟨_,[],FS' r,[],US' r,[],rfl,by simp,by simp,⟨blk' r,g,T,F3,by rw [p,s],b2,b3,b4,hne'⟩,⟨rfl,rfl,rfl⟩⟩
   nodup:=by simpa using k3.nodup r
   dis:=λb hb hb'=>k3.disU r r b (by simpa using hb) (by simpa using hb')
   inF:=λb hb=>k3.inF r b (by simpa using hb)
   inU:=λb hb=>k3.inU r b (by simpa using hb)
   os:=k3.os
   tape:=k3.tape
   output:=k3.output
   size:=k3.size
   keep:=λb hb hF=>k3.keep b hb hF (λe=>by cases e)}
 rcases he with rfl|rfl
 ·exact i
 exact i
section
variable {a:Act}
theorem AEG {f:FuncId} {l:List (Bool×TypeId×Operand)} {ss:List (Option SV)} {K:Act->World->Prop} {Q:Exit->Act->World->Prop} (h:CY w0 FA UA N w a E blk FS US) (hF:FS .hand=[]) (hU:US .hand=[]) {o:Oper} {args:Array Operand} {tys:Array TypeId} (ho:o.op= .call {callee:= .value (.func f),args:=args,argTypes:=tys}) (hf:pO P f) (hd:o.dst=some d) (hN:d<N) (hl:l.map (λx=>x.2.2)=args.toList) {i:List TV} (hg:qO P f as i) {c:Bool} (h1:LB P E l=some (ss,E1)) (h2:IG P E1 l ss=some (as,c)) (h3:c=true\/AO i=false) (hK:∀w' v blk' FS' US',CY w0 FA UA N w' (a.put (some d) v) (E1.newBox d i) blk' FS' US'->FS' .hand=[]->US' .hand=[]->K (a.put (some d) v) w'):o.wp P a w K Q:=by
 obtain⟨FS1,US1,F,U,k1,k2,k3,k4,_⟩:=Pe h h1;rw [hF,AA]at k3;rw [hU,AA]at k4;obtain⟨U',k5,k6⟩:=Kw k2 k1 h2;have a0:l.map (λx=>a.eval x.2.2)=(args.map a.eval).toList:=by
  rw [O0,<-hl,FK];rfl
 rw [a0]at k5;have p:∀b∈F,b∉U':=by
  intro b hb hb';rw [<-k3]at hb
  rcases k6 b hb' with h4|⟨r,h4⟩|⟨_,r,h5,h4⟩
  ·rw [<-k4]at h4;exact k2.disU .hand .hand b hb h4
  ·exact k2.disU .hand r b hb h4
  exact k2.dis .hand r (EW h5) b hb h4
 have k:=hg w _ F U' k5 (by rw [<-k3];exact k2.nodup .hand) p (by
  intro b hb
  rcases Ak.1 hb with hb|hb
  ·exact(k2.inF .hand b (by rw [k3];exact hb)).2
  rcases k6 b hb with h4|⟨r,h4⟩|⟨_,r,h5,h4⟩
  ·exact(k2.inU .hand b (by rw [k4];exact h4)).2
  ·exact(k2.inU r b h4).2
  exact(k2.inF r b h4).2)
 unfold Oper.wp;rw [J4 ho hf];simp only [Oper.upon];rw [PA]at k;refine Calls.mono k ?_;rintro e w' ⟨v,Fr,Ur,G,V,rfl,g⟩;obtain⟨v0,vs0,G1,G2,V1,V2,t,rfl,rfl,⟨b0,a1,T,F0,rfl,e1,e2,rfl,e3⟩,⟨rfl,rfl,rfl⟩⟩:=g.fin
 injection t with t _
 subst t;have y:=g.res;simp only [W1,O4]at y;obtain⟨_,_,_,rfl,rfl⟩:=y;have z:=g.nodup;simp only [AA,A0]at z;have a2:∀b∈b0::F0,(b∈FS1 .hand\/w.heap.size<=b)/\b<w'.heap.size:=by
  intro b hb;have:=g.inF b (by simpa using hb);rw [k3];exact this
 have h0:∀b∈V1,(∃s,b∈US1 s)\/((b∈FS1 .hand\/w.heap.size<=b)/\b∉b0::F0/\b<w'.heap.size):=by
  intro b hb;obtain⟨h4,h5⟩:=g.inU b (by simpa using hb)
  have m:b∉b0::F0:=λe=>g.dis b (by simpa using e) (by simpa using hb)
  rcases h4 with h4|h4|h4
  ·rcases k6 b h4 with h6|h6|⟨h6,r,h7,h8⟩
   ·exact .inl ⟨.hand,by rw [k4];exact h6⟩
   ·exact .inl h6
   rcases h3 with h3|h3
   ·rw [h3]at h6;cases h6
   have:=JY e2 h3;subst this;cases hb
  ·exact .inr ⟨.inl (by rw [k3];exact h4),m,h5⟩
  exact .inr ⟨.inr h4,m,h5⟩
 have j:∀b,b<w.heap.size->b∉FS1 .hand->w'.heap[b]?=w.heap[b]? :=λb hb u=>g.keep b hb (by rw [<-k3];exact u)
 let E2:St:={E1 with boxes:=Cp E1.boxes (.box d) (some i),ver:=Cp E1.ver (.box d) (E1.ver (.box d)+1),gen:=Cp E1.gen (.box d) (E1.gen (.box d)+1)}
 let blk1:=Cp blk (.box d) b0
 have a3:Root.box d≠Root.hand:=by simp
 have a4:∀s,Cx w w' a a E1 E2 blk blk1 s:=by
  intro s;by_cases hs:s= .box d
  ·subst hs;exact⟨.inl (by simp [E2,Cp]),.inl (by simp [E2,Cp])⟩
  have hv:E2.ver s=E1.ver s:=by simp [E2,Cp,hs]
  have hg:E2.gen s=E1.gen s:=by simp [E2,Cp,hs]
  by_cases hh:s= .hand
  ·subst hh;exact Ge hv hg (by simp [St.root,k2.nohand])
  refine DZ k2 hv hg ?_ (λ_ _=>rfl) (λ_=>by simp [blk1,Cp,hs]) (λb hb=>j b (k2.inF s b hb).2 (k2.dis s .hand hh b hb)) (λb hb=>j b (k2.inU s b hb).2 (λe=>k2.disU .hand s b e hb));cases s<;>simp_all [E2,St.root,Cp]
 have g1:=k2.two (w':=w') (a':=a) (E':=E2) (blk':=blk1) (r1:= .box d) (r2:= .hand) (L1:=b0::F0) (L2:=[]) (V1:=V1) (V2:=[]) a3
  (by simpa using z)
  (λb hb=>by
   have hb':b∈b0::F0:=by simpa using hb
   obtain⟨q1,q2⟩:=a2 b hb'
   exact⟨.inr q1,q2⟩)
  (λb hb=>by
   have hb':b∈V1:=by simpa using hb
   rcases h0 b hb' with q|⟨q1,q2,q3⟩
   ·exact .inl q
   exact .inr ⟨.inr q1,by simpa using q2,q3⟩)
  g.size g.os g.tape g.output (λb hb _ u=>j b hb u) a4
  (λn _ _=>⟨rfl,rfl⟩)
  (λs _ hs _=>⟨by simp [E2,Cp,hs],by simp [blk1,Cp,hs]⟩)
  (.inr ⟨i,a1,T,F0,by simp [E2,Cp],by simp [blk1,Cp,e1],e2,by simp [blk1,Cp]⟩)
  trivial (by simp [E2,Cp,k2.nohand]) k2.len k2.nodef (hfz:=λn hn=>k2.frz n hn)
 have a5:EH w' a E2 blk1 (.one (.ptr (.box d) (E2.gen (.box d)) [] 0)) (.pointer (some ⟨b0,0,none⟩)) [] []:=by
  have h9:E2.stamp (.box d) []=E2.gen (.box d):=rfl;rw [<-h9];refine TJ ?_ ?_
  ·cases hc:i with
   |nil=>exact absurd hc e3
   |cons x xs=>simp [St.place,St.root,E2,Cp,Cb,hc]
  simp [pa,blk1,Cp,Addr.add]
 have g2:=g1.put (d:=d) hN a5 fH.none;have:=hK w' _ blk1 _ _ g2 (by rw [Bw (by simp),BV]) (by rw [Bw (by simp),BV]);rw [hd];exact this
end
theorem AGL {l:List AV} {x:Option α} (h:x.bind kk=some r) {f:α->List TV} (g:∀v,x=some v->qO P (Xl (oA ops i)) l (f v)) (hk:∀v,x=some v->kk v=some r->RW P N ops (i+1) ((clE P E (oA ops i) 0).newBox ((oA ops i).dst.getD 0) (f v)) Q) (b:ACb P E (oA ops i) 0=some l:=by kernel_rfl) (hc:shB P E (oA ops i) 0=true:=by kernel_rfl) (ho:(SX P ops E i&&p9 P N (oA ops i)&&Gz N (oA ops i))=true:=by kernel_rfl):RW P N ops i E Q:=by
 obtain⟨v,hv,h⟩:=Au.1 h;simp only [An]at ho;obtain⟨h1,h2⟩:=H8 ho.1.1;obtain⟨args,tys,h3,h4,h5,h6⟩:=P2 ho.1.2;obtain⟨d,h7,_,h8⟩:=EV ho.2;have e:=hk v hv h;rw [h7]at e;simp only [Be]at e;unfold RW;rw [I9 h1];intro w0 FA UA w a blk FS US hr hF hU;simp only [wpList,C8 hr h2,BX];unfold ACb shB shA at*;unfold clE at e
 cases hm:mvA P E (oA ops i) 0 with
 |none=>rw [hm]at b;cases b
 |some z=>
  obtain⟨ss,E1⟩:=z;rw [hm]at b hc e;simp only at b hc e
  cases hs:IG P E1 (bits 0 (GK (oA ops i))) ss with
  |none=>rw [hs]at b;cases b
  |some y=>
   obtain⟨as',c⟩:=y;rw [hs]at b hc;simp only [B3]at b hc
   injection b with b
   subst b;refine .inl (AEG hr hF hU h3 h4 h7 h8 (l:=bits 0 (GK (oA ops i))) (by rw [Oy,h6]) (g v hv) hm hs (.inl hc) λw' v' blk' FS' US' k1 k2 k3=>e _ _ _ _ _ _ _ _ k1 k2 k3)
theorem rsp {a:List TV} (t:Nat) (h1:rs=[.tmp t]) (h:(match E.ptr? (.tmp t)with
  |some (r,[],0)=>bif r.mem then E.boxes r else none
  |_=>none)=some a):∃t r,rs=[.tmp t]/\E.ptr? (.tmp t)=some (r,[],0)/\r.mem=true/\E.boxes r=some a:=by
 split at h
 ·rename_i r hr
  cases hm:r.mem with
  |false=>rw [hm]at h;cases h
  |true=>rw [hm]at h;exact⟨t,r,h1,hr,hm,h⟩
 cases h
def xtE (N:Nat) (E:St) (o:Oper):Option St:=match o.op,o.dst with
 | .extract t ix,some d=>bif Nat.blt d N then MW E d t ix else none
 |_,_=>none
theorem AGP {a:Act} (h:CY w0 FA UA N w a E blk FS US) (hF:FS .hand=[]) (hU:US .hand=[]) {o:Oper} (he:xtE N E o=some E'):
  ∃v blk' FS' US',(∀w2,(execOp a.eval o).run P w2= .ok (.value v) w2)/\CY w0 FA UA N w (a.put o.dst v) E' blk' FS' US'/\FS' .hand=[]/\US' .hand=[]:=by
 unfold xtE at he;split at he
 ·rename_i t ix d ho hd
  cases hN:Nat.blt d N with
  |false=>rw [hN]at he;cases he
  |true=>
   rw [hN]at he;simp only [Ae]at he;have hN':d<N:=by simpa [BC]using hN
   obtain⟨nx,w',v,blk',FS',US',k1,k2,k3,k4,k5,_⟩:=EG.extract (P:=P) h hF hU ho hd hN' he;have b:∃x,∀w2,(execOp a.eval o).run P w2= .ok (.value x) w2:=by
    unfold MW at he;split at he
    ·rename_i n;split at he
     ·rename_i ss c;split at he
      ·rename_i s e;have hs:=h.slot n;rw [c]at hs;simp only [EH]at hs;obtain⟨vs,f,hx⟩:=hs;obtain⟨v,A,B,C,D,F1,U1,h1,h2,h3,h4,h5⟩:=XN ix hx e;exact⟨v,λw2=>by simp [execOp,ho,Instr.extract,f,h1]⟩
      cases he
     cases he
    cases he
   obtain⟨x,hx⟩:=b;rw [hx w]at k1
   injection k1 with q1 q2
   subst q1 q2
   rcases k2 with k2|⟨k2,_⟩
   ·injection k2 with k2
    subst k2;exact⟨_,blk',FS',US',hx,k3,k4,k5⟩
   cases k2
 cases he
theorem Hs {ts:List Nat} (i:Nat) (h:KW P N ops ts (i::dn) ((xtE N E (oA ops i)).getD E) Q) (hs:(xtE N E (oA ops i)).isSome=true:=by kernel_rfl) (hk:(SX P ops E i&&xV ops ts dn i)=true:=by kernel_rfl):KW P N ops ts dn E Q:=by
 have hs':=getD_some (a:=E) hs;generalize hE:(xtE N E (oA ops i)).getD E=E' at h hs';simp only [An,xV]at hk;obtain⟨h1,h3,h4⟩:=hk;obtain⟨h5,h6⟩:=H8 h1;unfold KW at h⊢;rw [TQ (i:=i) h3];intro hQ hc w0 FA UA w a blk FS US k1 k2 k3;obtain⟨e1,e2,e3,e4,e5⟩:=Uj h4;obtain⟨v,blk',FS',US',g1,g2,g3,g4⟩:=AGP (P:=P) k1 k2 k3 hs';refine LK (v:=v) (n:=ops.size) (I1 h5) (Region.noSelect_spec e1) (λc a w hx=>?_) e4 e5 _ _ a w hc (Region.free_spec (I1 h5) e2) e3 (.inl ⟨C8 k1 h6,λw2 _=>g1 w2⟩) ?_
 ·obtain⟨E',blk',FS',US',m1,_⟩:=hx;exact(hQ c E' m1).elim
 exact h hQ (KJ hc e3) _ _ _ _ _ _ _ _ g2 g3 g4
def aP (P:Program) (E:St) (o:Oper) (s:SV):Prop:=∀(N:Nat) (w0:Base) (FA UA:List Nat) (w:World) (a:Act) (blk:Root->Nat) (FS US:Root->List Nat),CY w0 FA UA N w a E blk FS US->Fg P w a E blk FS US o s
theorem AIR (hp:aP P E (oA ops i) s) (h:RW P N ops (i+1) (E.put (oA ops i).dst s) Q) (hk:(SX P ops E i&&Gz N (oA ops i))=true:=by kernel_rfl):RW P N ops i E Q:=by
 rw [An]at hk;obtain⟨h1,h2⟩:=H8 hk.1;obtain⟨d,h3,_,h4⟩:=EV hk.2;rw [h3]at h;unfold RW;rw [I9 h1];intro w0 FA UA w a blk FS US hr hF hU;simp only [wpList,C8 hr h2,BX];exact .inl ((KN hr hF hU (hp _ _ _ _ _ _ _ _ _ hr) h3 h4).wp λw' v blk' FS' US' k1 k2 k3 _=>h _ _ _ _ _ _ _ _ k1 k2 k3)
theorem AIO (hp:aP P E (oA ops i) s) (h:SW P N ops m (i+1) (E.put (oA ops i).dst s) K) (hk:(SX P ops E i&&Gz N (oA ops i)&&Nat.blt i m)=true:=by kernel_rfl):SW P N ops m i E K:=by
 simp only [An]at hk;obtain⟨h1,h2⟩:=H8 hk.1.1;obtain⟨d,h3,_,h4⟩:=EV hk.1.2;rw [h3]at h;unfold SW;rw [Pz h1 hk.2];intro w0 FA UA w a blk FS US k1 k2 k3;obtain⟨v,U,g1,g2,g3⟩:=hp _ _ _ _ _ _ _ _ _ k1;have hr:=g1 w (λr _=>⟨λ_ _=>rfl,λ_ _=>rfl⟩);simp only [wpStill,C8 k1 h2,BX,Oper.still,hr,Oper.stillUpon_value];rw [h3];refine h _ _ _ _ _ _ _ _ (k1.put h4 g2 (Ot k1 g3 _)) ?_ ?_
 ·rw [Bw (by simp),k2]
 rw [Bw (by simp),k3]
theorem AJm {ts:List Nat} (i:Nat) (hp:aP P E (oA ops i) s) (h:KW P N ops ts (i::dn) (E.put (oA ops i).dst s) Q) (hk:(SX P ops E i&&Gz N (oA ops i)&&xV ops ts dn i)=true:=by kernel_rfl):KW P N ops ts dn E Q:=by
 simp only [An,xV]at hk;obtain⟨⟨h1,h2⟩,h3,h4⟩:=hk;obtain⟨h5,h6⟩:=H8 h1;obtain⟨d,h7,_,h8⟩:=EV h2;unfold KW at h⊢;rw [TQ (i:=i) h3];rw [h7]at h;intro hQ hc w0 FA UA w a blk FS US k1 k2 k3;obtain⟨e1,e2,e3,e4,e5⟩:=Uj h4;obtain⟨v,U,g1,g2,g3⟩:=hp _ _ _ _ _ _ _ _ _ k1;refine LK (v:=v) (n:=ops.size) (I1 h5) (Region.noSelect_spec e1) (λc a w hx=>?_) e4 e5 _ _ a w hc (Region.free_spec (I1 h5) e2) e3 (.inl ⟨C8 k1 h6,λw2 e=>?_⟩) ?_
 ·obtain⟨E',blk',FS',US',m1,_⟩:=hx;exact(hQ c E' m1).elim
 ·exact g1 w2 (λr hr=>⟨λb hb=>e.2 b (k1.inF r b hb).2,λb hb=>e.2 b (k1.inU r b hb).2⟩)
 rw [h7];refine h hQ (KJ hc e3) _ _ _ _ _ _ _ _ (k1.put h8 g2 (Ot k1 g3 _)) ?_ ?_
 ·rw [Bw (by simp),k2]
 rw [Bw (by simp),k3]
def AH3 (o:Oper):Bool:=match o.op with
 | .assign (.const _)| .move (.const _)=>true
 |_=>false
theorem pjk {o:Oper} (h:AH3 o=true:=by kernel_rfl):aP P E o (.one .junk):=by
 intro N w0 FA UA w a blk FS US hr;unfold AH3 at h;split at h
 ·rename_i v ho;exact⟨v,[],λw2 _=>by simp [execOp,ho,Act.eval],by simp [EH,CS,TV.isJunk],by simp⟩
 ·rename_i v ho;exact⟨v,[],λw2 _=>by simp [execOp,ho,Act.eval],by simp [EH,CS,TV.isJunk],by simp⟩
 cases h
def AEx (P : Program) (f : Field) (j : Nat) (x y : TV) : Option Bool := bif (f.name != "_") && Nat.beq f.offset j then (match P.underlying f.type, x, y with
 |some (.int _),.int k a,.int k' b=>bif decide (k=k')then some (a==b)else none
 |some .bool,.bool a,.bool b=>some (a==b)
 |some .string,.str a,.str b=>some (a.toList==b.toList)
 |_,_,_=>none)else none
def YW (P:Program):List Field->Nat->List TV->List TV->Option Bool
 |[],_,[],[]=>some true
 |f::fs,j,x::xs,y::ys=>match AEx P f j x y,YW P fs (j+1) xs ys with
  |some b,some c=>some (b&&c)
  |_,_=>none
 |_,_,_,_=>none
def N7 (o:Oper):Bool×TypeId×Operand×Operand:=match o.op with
 | .binOp .eql t x y _=>(false,t,x,y)
 | .binOp .neq t x y _=>(true,t,x,y)
 |_=>(false,0,.tmp 0,.tmp 0)
def AEj (o:Oper):Bool:=match o.op with
 | .binOp .eql .. | .binOp .neq .. =>true
 |_=>false
def ADr (P:Program) (t:TypeId):Bool:=(match P.underlying t with
 |some (.struct _)=>true
 |_=>false)&&!P.stoodInHeld t&&!P.eqGuardType P.depth t
def AGE (P:Program) (E:St) (o:Oper):Option Bool:=bif AEj o&&ADr P (N7 o).2.1 then(match E.val P (N7 o).2.1 (N7 o).2.2.1,E.val P (N7 o).2.1 (N7 o).2.2.2 with
 |some (.agg xs),some (.agg ys)=>YW P (P.fieldsOf (N7 o).2.1).toList 0 xs ys
 |_,_=>none)else none
theorem AFY {f:Field} {r:Bool} {vx vy:Value} {F U F' U':List Nat} {a:Act} {blk:Root->Nat} {X Y:Array Value} (d:Nat) {x y:TV} (h:AEx P f j x y=some r) (hx:CS w a E blk x vx F U) (hy:CS w a E blk y vy F' U') (kx:X[j]?=some vx) (ky:Y[j]?=some vy):
  f.name ≠ "_" ∧ ∃ a b, (∀ w2 : World, (part f.type X f.offset).run P w2 = .ok a w2) ∧ (∀ w2 : World, (part f.type Y f.offset).run P w2 = .ok b w2) ∧ ∀ w2 : World, (Op.equalIn (d + 1) f.type a b).run P w2 = .ok r w2 := by
 unfold AEx at h
 cases hb : (f.name != "_" && Nat.beq f.offset j) with
 |false=>rw [hb]at h;cases h
 |true=>
  rw [hb]at h;simp only [Ae]at h;rw [An]at hb;have hj:=Bx hb.2;subst hj;refine⟨by simpa using hb.1,?_⟩;split at h
  ·rename_i k k1 n1 k2 n2 hu
   cases hk:decide (k1=k2)with
   |false=>rw [hk]at h;cases h
   |true=>
   rw [hk]at h;have c:=H9 hk;subst c;simp only [Ae]at h
   injection h with h
   subst h;obtain⟨rfl,_,_⟩:=hx;obtain⟨rfl,_,_⟩:=hy;exact⟨_,_,λw2=>run_part_plain w2 (e:=f.type) (by simp [Program.plainKey,hu]) kx,λw2=>run_part_plain w2 (e:=f.type) (by simp [Program.plainKey,hu]) ky,λw2=>run_equalIn_int w2 d f.type k1 k n1 n2 hu⟩
  ·rename_i b1 b2 hu
   injection h with h
   subst h;obtain⟨rfl,_,_⟩:=hx;obtain⟨rfl,_,_⟩:=hy;exact⟨_,_,λw2=>run_part_plain w2 (e:=f.type) (by simp [Program.plainKey,hu]) kx,λw2=>run_part_plain w2 (e:=f.type) (by simp [Program.plainKey,hu]) ky,λw2=>run_equalIn_bool' w2 d f.type b1 b2 hu⟩
  ·rename_i s1 s2 hu
   injection h with h
   subst h;obtain⟨rfl,_,_⟩:=hx;obtain⟨rfl,_,_⟩:=hy;exact⟨_,_,λw2=>run_part_plain w2 (e:=f.type) (by simp [Program.plainKey,hu]) kx,λw2=>run_part_plain w2 (e:=f.type) (by simp [Program.plainKey,hu]) ky,λw2=>run_equalIn_string w2 d f.type s1 s2 hu⟩
  cases h
theorem gJ {a:Act} {blk:Root->Nat} {X Y:Array Value} (d:Nat):∀{fs:List Field} {j:Nat} {xs ys:List TV} {vx vy:List Value} {F U F' U':List Nat} {r:Bool},YW P fs j xs ys=some r->CP w a E blk xs vx F U->CP w a E blk ys vy F' U'->
  (∀i v,vx[i]?=some v->X[j+i]?=some v)->(∀i v,vy[i]?=some v->Y[j+i]?=some v)->∀w2:World,(Op.eqFields (d+1) X Y fs).run P w2= .ok r w2
 |[],j,xs,ys,vx,vy,F,U,F',U',r,h,hx,hy,kx,ky,w2=>by
  cases xs<;>cases ys<;>simp only [YW,reduceCtorEq,Ao]at h;subst h;rfl
 |f::fs,j,xs,ys,vx,vy,F,U,F',U',r,h,hx,hy,kx,ky,w2=>by
  cases xs with
  |nil=>simp [YW]at h
  |cons x xs=>
   cases ys with
   |nil=>simp [YW]at h
   |cons y ys=>
    simp only [YW]at h;split at h
    ·rename_i b c h1 h2
     injection h with h
     subst h;obtain⟨v,vs,F1,F2,U1,U2,rfl,_,_,e1,e2⟩:=hx;obtain⟨v',e,F1',F2',U1',U2',rfl,_,_,e1',e2'⟩:=hy;obtain⟨g1,A,B,g2,g3,g4⟩:=AFY (X:=X) (Y:=Y) d h1 e1 e1' (kx 0 v rfl) (ky 0 v' rfl);have ih:=gJ d h2 e2 e2' (λi u hu=>by rw [FI,Ng 1 i];exact kx (i+1) u (by simpa using hu)) (λi u hu=>by rw [FI,Ng 1 i];exact ky (i+1) u (by simpa using hu)) w2;simp only [Op.eqFields,A3 g1,Sem.run_bind,g2,g3,g4,Result.andThen_ok];cases b
     ·simp
     simpa using ih
    cases h
theorem peq {o:Oper} (h:AGE P E o=some b):aP P E o (.one (.bool (bif(N7 o).1 then !b else b))):=by
 intro N w0 FA UA w a blk FS US hr;unfold AGE at h
 cases hb:(AEj o&&ADr P (N7 o).2.1)with
 |false=>rw [hb]at h;cases h
 |true=>
  rw [hb]at h;simp only [Ae]at h;rw [An]at hb;split at h
  ·rename_i xs ys hx hy;obtain⟨U1,k1,_⟩:=JM hr hx;obtain⟨U2,k2,_⟩:=JM hr hy;simp only [EH]at k1 k2;obtain⟨vx,e1,c1⟩:=k1;obtain⟨vy,e2,c2⟩:=k2;have hT:=hb.2;simp only [ADr,An,CV]at hT;have e:P.underlying (N7 o).2.1=some (.struct (P.fieldsOf (N7 o).2.1)):=by
    have:=hT.1.1;split at this
    ·rename_i fs f;simp only [Program.fieldsOf,f]
    cases this
   have c:∀w2:World,(Op.equalIn 10000 (N7 o).2.1 (.agg vx.toArray) (.agg vy.toArray)).run P w2= .ok b w2:=λw2=>by
    rw [run_equalIn_struct w2 9999 _ _ _ e hT.1.2];exact gJ (X:=vx.toArray) (Y:=vy.toArray) 9998 h c1 c2 (λi v hv=>by simpa using hv) (λi v hv=>by simpa using hv) w2
   refine⟨.bool (bif(N7 o).1 then !b else b),[],λw2 _=>?_,by simp [EH,CS,CG,Value.cells],by simp⟩;have d:=hb.1;unfold AEj at d;split at d
   ·rename_i t x y t' ho;simp only [N7,ho]at e1 e2 c hT⊢;simp [execOp,ho,e1,e2,run_eqGuard_agg w2 _ _ _ _ _ _ hT.2,run_eql_struct,c w2]
   ·rename_i t x y t' ho;simp only [N7,ho]at e1 e2 c hT⊢;simp [execOp,ho,e1,e2,run_eqGuard_agg w2 _ _ _ _ _ _ hT.2,run_neq_struct,c w2]
   cases d
  cases h
abbrev pb (n:Nat):SV:= .one (.ptr (.box n) 0 [] 0)
abbrev px (n:Nat):SV:= .one (.ptr (.ext n) 0 [] 0)
abbrev i6 (n:Int):TV:= .int .i64 n
abbrev tb (b:Bool):TV:= .bool b
abbrev ts (s:ByteArray):TV:= .str s
abbrev rg (n:Nat):List AV:=List.replicate n .gone
section
variable {bs:List Root}
theorem jn {a v:V} (h:some v=some a) (hb:bs.all (λr=>r.mem&&(E.boxes r).isSome)=true:=by kernel_rfl) (hn:FR E ls bs=H v:=by kernel_rfl):∃a',some a=some a'/\nt ls bs E (H a'):=by
 injection h with h
 subst h;exact⟨_,rfl,hb,hn⟩
end
section
variable {bs:List Root}
theorem jm {a:V⊕W} {v:V} (h:some (.inl v)=some a) (hb:bs.all (λr=>r.mem&&(E.boxes r).isSome)=true:=by kernel_rfl) (hn:FR E ls bs=H v:=by kernel_rfl):∃a',a.getLeft? =some a'/\nt ls bs E (H a'):=by
 injection h with h
 subst h;exact⟨_,rfl,hb,hn⟩
end
section
variable {bs:List Root}
theorem jl {H:S->St} {s:S} {o:S⊕W} (h:some (.inl s)=some o) (hb:bs.all (λr=>r.mem&&(E.boxes r).isSome)=true:=by kernel_rfl) (hn:FR E ls bs=H s:=by kernel_rfl):∃s,o= .inl s/\nt ls bs E (H s):=by
 injection h with h
 subst h;exact⟨_,rfl,hb,hn⟩
end
section
variable {bs:List Root}
theorem jx {o:S⊕(V⊕W)} {v:V} (h:some (.inr (.inl v))=some o) (hb:bs.all (λr=>r.mem&&(E.boxes r).isSome)=true:=by kernel_rfl) (hn:FR E ls bs=H v:=by kernel_rfl):∃v,o= .inr (.inl v)/\nt ls bs E (H v):=by
 injection h with h
 subst h;exact⟨_,rfl,hb,hn⟩
end
section
variable {bs:List Root}
theorem jv {o:S⊕V} {v:V} (h:some (.inr v)=some o) (hb:bs.all (λr=>r.mem&&(E.boxes r).isSome)=true:=by kernel_rfl) (hn:FR E ls bs=H v:=by kernel_rfl):∃v,o= .inr v/\nt ls bs E (H v):=by
 injection h with h
 subst h;exact⟨_,rfl,hb,hn⟩
end
theorem jr {w:β} {f:V->Option β} {a:V⊕β} (h:some (.inr w)=some a) (hk:Sum.elim f some a=some r):some w=some r:=by
 injection h with h
 subst h;exact hk
theorem jo {w:β} {f:V->Option β} {o:S⊕(V⊕β)} (h:some (.inr (.inr w))=some o) (hk:∀w,o= .inr (.inr w)->Sum.elim f some (.inr w)=some r):some w=some r:=by
 injection h with h
 exact hk w h.symm
theorem rr {v r:β} (h:some v=some r):v=r:=Option.some.inj h
theorem rq {e:Exit} {a:SV} (he:e= .normal\/e= .ret:=by first|exact .inr rfl|exact .inl rfl) (hk:(EQ P E rs).map (λz=>Gj z.1)=some a:=by kernel_rfl):(e= .normal\/e= .ret)/\∃ss E',EQ P E rs=some (ss,E')/\Gj ss=a:=⟨he,rsz hk⟩
theorem rx {e:Exit} {b:SV} {a:List TV} (he:e= .normal\/e= .ret:=by first|exact .inr rfl|exact .inl rfl) (hk:(EQ P E rs).map (λz=>(Gj z.1,z.2.boxes (.ext 0)))=some (b,some a):=by kernel_rfl):(e= .normal\/e= .ret)/\∃ss E',EQ P E rs=some (ss,E')/\Gj ss=b/\E'.boxes (.ext 0)=some a:=⟨he,rsx hk⟩
theorem EA {k:V->Option β} {c y:Code} {x:Option V} (h:x.bind k=some r) (ls:List Nat) (bs:List Root) (H:V->St) (h1:∀a,x=some a->Wp P N c E (jQ ls bs H (some a) (VH (λE'=>Wp P N y E' Q) Q))) (h2:∀a,k a=some r->Wp P N y (H a) Q):Wp P N (.seq c y) E Q:=
 Wp.seq (IE h ls bs H h1 λa ha E' hE=>AW hE (h2 a ha))
theorem sl1 {k:V->Option β} {c y:Code} {id:Nat} {body:S->Option (S⊕V)} (h:(Aw body s0).bind k=some r) (ls:List Nat) (bs:List Root) (H:S->St) (ls2:List Nat) (bs2:List Root) (H2:V->St) (hb:∀s o,body s=some o->Wp P N c (H s) (lQ1 id ls bs H ls2 bs2 H2 o (VH (λE'=>Wp P N y E' Q) Q))) (h2:∀v,k v=some r->Wp P N y (H2 v) Q) (h0:bs.all (λr=>r.mem&&(E.boxes r).isSome)=true:=by kernel_rfl) (hn:FR E ls bs=H s0:=by kernel_rfl):Wp P N (.seq (.block id (.loop c)) y) E Q:=
 Wp.seq (BQ h ls bs H ls2 bs2 H2 ⟨h0,hn⟩ hb λv hv E' hE=>AW hE (h2 v hv))
theorem sl2 {k:V⊕W->Option β} {c y:Code} {id:Nat} {body:S->Option (S⊕(V⊕W))} (h:(Aw body s0).bind k=some r) (ls:List Nat) (bs:List Root) (H:S->St) (ls2:List Nat) (bs2:List Root) (H2:V->St) (hb:∀s o,body s=some o->(∀w,o= .inr (.inr w)->k (.inr w)=some r)->Wp P N c (H s) (lQ id ls bs H ls2 bs2 H2 o (VH (λE'=>Wp P N y E' Q) Q))) (h2:∀v,k (.inl v)=some r->Wp P N y (H2 v) Q) (h0:bs.all (λr=>r.mem&&(E.boxes r).isSome)=true:=by kernel_rfl) (hn:FR E ls bs=H s0:=by kernel_rfl):Wp P N (.seq (.block id (.loop c)) y) E Q:=
 Wp.seq (DA h ls bs H ls2 bs2 H2 ⟨h0,hn⟩ hb λv hv E' hE=>AW hE (h2 v hv))
section
variable {id:Nat}
theorem ws (h:RW P N ops 0 E (VH (λE'=>Wp P N y E' Q) Q)):Wp P N (.seq (.region id ops false) y) E Q:=Wp.seq (Ap h)
end
section
variable {id:Nat}
theorem gw {ops2:Array Oper} (k m:Nat) (h:RW P N ops2 0 (AGY P N ops k m i E) (VH (λE'=>Wp P N y E' Q) Q)) (hk:(tQ P N ops k m i E).isSome=true:=by kernel_rfl) (hn:Nat.ble ops.size (i+k)=true:=by kernel_rfl):RW P N ops i E (VH (λE'=>Wp P N (.seq (.region id ops2 false) y) E' Q) Q):=Ah k m (RW.nil (ws h) hn) hk
end
theorem gn (k m:Nat) (h:Q .normal (AGY P N ops k m i E)) (hk:(tQ P N ops k m i E).isSome=true:=by kernel_rfl) (hn:Nat.ble ops.size (i+k)=true:=by kernel_rfl):RW P N ops i E Q:=Ah k m (RW.nil h hn) hk
theorem C9 (hf:∀x,(f x).length=sz) (h:(gi l n).bind kk=some r) (hk:∀x,gi l n=some x->kk x=some r->RW P N ops (i+1) (E.put (oA ops i).dst (uM E (oA ops i) (n.toNat*sz+0))) Q) (hc:AEi P E (oA ops i) sz=some (AU f l,n):=by kernel_rfl) (hq:qok P N ops i E=true:=by kernel_rfl):RW P N ops i E Q:=
 bd h λx gx h=>RW.q (Iz hf gx hc) (hk x gx h) hq
def ABf (P:Program) (N:Nat) (ops:Array Oper) (ts dn:List Nat) (E:St) (i:Nat):Option St:=bif Nat.blt i ops.size&&Gz N (oA ops i)&&xV ops ts dn i then
 (match BJ P ops E (oA ops i)with
 |some false=>some (E.put (oA ops i).dst (.tup []))
 |some true=>match Ja P E (oA ops i)with
  |some s=>some (E.put (oA ops i).dst s)
  |none=>xtE N E (oA ops i)
 |none=>none)else none
theorem tst {ts:List Nat} (hs:ABf P N ops ts dn E i=some E') (h:KW P N ops ts (i::dn) E' Q):KW P N ops ts dn E Q:=by
 unfold ABf at hs
 cases hb:(Nat.blt i ops.size&&Gz N (oA ops i)&&xV ops ts dn i)with
 |false=>rw [hb]at hs;cases hs
 |true=>
  rw [hb]at hs;simp only [Ae]at hs;split at hs
  ·rename_i hg
   injection hs with hs
   subst hs;exact AIf i h hg hb
  ·rename_i hg;simp only [An]at hb;have ho:SX P ops E i=true:=by simp only [SX,hb.1.1,hg,JF]
   split at hs
   ·rename_i s a
    injection hs with hs
    subst hs;exact AHz i a h (by rw [ho,hb.1.2,hb.2];rfl)
   exact Hs i (by rw [hs];exact h) (by rw [hs];rfl) (by rw [ho,hb.2];rfl)
  cases hs
def ABR (P:Program) (N:Nat) (ops:Array Oper) (ts dn:List Nat) (E:St):List Nat->Option (Nat×St)
 |[]=>none
 |i::l=>match ABf P N ops ts dn E i with
  |some E'=>some (i,E')
  |none=>ABR P N ops ts dn E l
theorem vS {ts:List Nat}:∀{l:List Nat} {E':St},ABR P N ops ts dn E l=some (i,E')->ABf P N ops ts dn E i=some E'
 |[],_,h=>by cases h
 |j::l,E',h=>by
  simp only [ABR]at h;split at h
  ·rename_i E1 h1
   injection h with h
   injection h with h2 h3
   subst h2 h3;exact h1
  exact vS h
def AGJ (P:Program) (N:Nat) (ops:Array Oper) (ts:List Nat) (mv:List Nat) (E:St) (i:Nat):Option St:=bif SX P ops E i&&(kp (oA ops i)||ts.contains i)then CF P N (mv.contains i) E (oA ops i)else none
def AGc (f:A->Option (List St)):List A->Option (List St)
 |[]=>some []
 |x::l=>match f x,AGc f l with
  |some a,some b=>some (a++b)
  |_,_=>none
theorem wM {f:A->Option (List St)}:∀{l:List A} {L:List St},AGc f l=some L->∀x∈l,∃a,f x=some a/\∀E∈a,E∈L
 |[],_,_,x,hx=>by cases hx
 |y::l,L,h,x,hx=>by
  simp only [AGc]at h;split at h
  ·rename_i a b h1 h2
   injection h with h
   subst h
   rcases BE.1 hx with rfl|hx
   ·exact⟨a,h1,λE hE=>AG _ hE⟩
   obtain⟨a',h3,h4⟩:=wM h2 x hx;exact⟨a',h3,λE hE=>AL _ (h4 E hE)⟩
  cases h
def ACs (P:Program) (N:Nat) (ops:Array Oper) (ts mv:List Nat):Nat->List Nat->St->Option (List St)
 |0,_,_=>none
 |n+1,dn,E=>match Region.ready .any ops (lsd ops.size dn)with
  |[]=>some [E]
  |rs=>bif Nat.blt dn.length ops.size then(match ABR P N ops ts dn E rs with
   |some (i,E')=>ACs P N ops ts mv n (i::dn) E'
   |none=>AGc (λi=>match AGJ P N ops ts mv E i with
    |some E'=>ACs P N ops ts mv n (i::dn) E'
    |none=>none) rs)else none
theorem AA5 {ts:List Nat} {mv:List Nat}:∀{n:Nat} {dn:List Nat} {E:St} {L:List St},ACs P N ops ts mv n dn E=some L->(∀E'∈L,Q .normal E')->KW P N ops ts dn E Q
 |0,_,_,_,h,_=>by cases h
 |n+1,dn,E,L,h,hq=>by
  simp only [ACs]at h;split at h
  ·rename_i hr
   injection h with h
   subst h;exact Bc (hq E (by simp)) (by rw [hr];rfl)
  rename_i b
  cases hb:Nat.blt dn.length ops.size with
  |false=>rw [hb]at h;cases h
  |true=>
   rw [hb]at h;simp only [Ae]at h;split at h
   ·rename_i i E' hf;exact tst (vS hf) (AA5 h hq)
   refine KW.all _ (λi hi=>?_) b (by simp only [rdy,hb,qT,V8]);obtain⟨a,h1,h2⟩:=wM h i hi;split at h1
   ·rename_i E' hs;unfold AGJ at hs
    cases hc:(SX P ops E i&&(kp (oA ops i)||ts.contains i))with
    |false=>rw [hc]at hs;cases hs
    |true=>
     rw [hc]at hs;exact L5 hs (AA5 h1 λE'' hE=>hq E'' (h2 E'' hE)) hc
   cases h1
def AG5 (P:Program) (N:Nat) (ops:Array Oper) (ts mv dn:List Nat) (E:St) (bs:List Root):Bool:=match ACs P N ops ts mv (ops.size+1) dn E with
 |some L=>L.all λE'=>bs.all (λr=>r.mem&&(E'.boxes r).isSome)
 |none=>false
def ADV (P:Program) (N:Nat) (ops:Array Oper) (ts mv dn:List Nat) (E:St):List St:=(ACs P N ops ts mv (ops.size+1) dn E).getD []
section
variable {bs:List Root} {ts:List Nat}
theorem AG4 {mv:List Nat} (hb:AG5 P N ops ts mv dn E bs=true) (hn:(ADV P N ops ts mv dn E).map (λE'=>FR E' ls bs)=(ADV P N ops ts mv dn E).map λ_=>X) (hq:∀E',nt ls bs E' X->Q .normal E'):KW P N ops ts dn E Q:=by
 unfold AG5 at hb;split at hb
 ·rename_i L hL
  refine AA5 hL λE' hE=>hq E' ⟨IC.1 hb E' hE,?_⟩
  rw [ADV,hL,Be]at hn;have:∀(L:List St),L.map (λE'=>FR E' ls bs)=L.map (λ_=>X)->∀E'∈L,FR E' ls bs=X:=by
   intro L
   induction L with
   |nil=>intro _ _ h;cases h
   |cons x L ih=>
    intro h E' hE;rw [BF,BF]at h
    injection h with h1 h2
    rcases BE.1 hE with rfl|hE
    ·exact h1
    exact ih h2 E' hE
  exact this L hn E' hE
 cases hb
end
section
variable {bs:List Root} {ts:List Nat}
theorem oj {Q0:Exit->St->Prop} {a v:V} (mv:List Nat) (h:some v=some a) (hb:AG5 P N ops ts mv dn E bs=true:=by kernel_rfl) (hn:(ADV P N ops ts mv dn E).map (λE'=>FR E' ls bs)=(ADV P N ops ts mv dn E).map (λ_=>H v):=by kernel_rfl):KW P N ops ts dn E (jQ ls bs H (some a) Q0):=
 AG4 hb hn λE' hE=>by
  injection h with h
  subst h;exact⟨_,rfl,hE⟩
end
theorem nP {X:Prop} {c:List PanicEntry} (h:(Exit.panic c= .normal\/Exit.panic c= .ret)/\X):False:=by rcases h with⟨h|h,_⟩<;>cases h
def vZ (o:Oper):Nat:=o.dst.getD 0
def AIv (E:St) (ops:Array Oper) (i:Nat) (r:Root) (t:TV):St:=((((((E.put (some (vZ (oA ops i))) (.one .junk)).put (some (vZ (oA ops (i+1)))) (.one .junk))).setRoot r [t]).bump r).put (some (vZ (oA ops (i+2)))) (.tup []))
def AGR:Operand->Nat
 | .tmp n=>n
 |_=>0
def AFj (o:Oper):Nat:=match o.op with
 | .makeInterface _ x=>AGR x
 |_=>0
def AGT (o:Oper):Nat:=match o.op with
 | .makeFunc _ _ c=>AGR (c[0]?.getD (.tmp 0))
 |_=>0
def AHL (o:Oper):Array TypeId:=match o.op with
 | .call c=>c.argTypes
 |_=> #[]
def ABd (s:SV):Nat:=match s with
 | .one (.view _ v _ _)=>v
 |_=>0
theorem RW.srt {rr:β} {l:List γ} {kk:List γ->Option β} {x:Option (List γ)} (h:x.bind kk=some rr) {enc:γ->List TV} {sz e t:Nat} {a:FuncId} (r:Root) (hs:∀l',x=some l'->RF P (Xl (oA ops (i+2))) t e sz enc a l l') (hk:∀l',x=some l'->kk l'=some rr->RW P N ops (i+3) (AIv E ops i r (.sl true e sz (AU enc l'))) Q) (b:∀x,(enc x).length=sz) (d:∀x,(enc x).all TV.flat=true) (hx:E.slots (AFj (oA ops i))= .one (.view r (ABd (E.slots (AFj (oA ops i)))) [] 0):=by kernel_rfl) (c:E.ver r=ABd (E.slots (AFj (oA ops i))):=by kernel_rfl) (hp:E.ptr? (.tmp (AGT (oA ops (i+1))))=some (r,[],0):=by kernel_rfl) (hc:E.boxes r=some [.sl true e sz (AU enc l)]:=by kernel_rfl) (hm:r.mem=true:=by kernel_rfl) (h1:(oA ops i).op= .makeInterface t (.tmp (AFj (oA ops i))):=by kernel_rfl) (h2:(oA ops (i+1)).op= .makeFunc (.func a) #[] #[.tmp (AGT (oA ops (i+1)))]:=by kernel_rfl) (h3:(oA ops (i+2)).op= .call {callee:= .value (.func (Xl (oA ops (i+2)))),args:= #[.tmp (vZ (oA ops i)),.tmp (vZ (oA ops (i+1)))],argTypes:=AHL (oA ops (i+2))}:=by kernel_rfl) (k1:(oA ops i).dst=some (vZ (oA ops i)):=by kernel_rfl) (k2:(oA ops (i+1)).dst=some (vZ (oA ops (i+1))):=by kernel_rfl) (k3:(oA ops (i+2)).dst=some (vZ (oA ops (i+2))):=by kernel_rfl) (g1:(oA ops i).guard=none:=by kernel_rfl) (g2:(oA ops (i+1)).guard=none:=by kernel_rfl) (g3:(oA ops (i+2)).guard=none:=by kernel_rfl) (hN:(Nat.blt (vZ (oA ops i)) N&&Nat.blt (vZ (oA ops (i+1))) N&&Nat.blt (vZ (oA ops (i+2))) N&&!Nat.beq (vZ (oA ops i)) (vZ (oA ops (i+1)))&&!Nat.beq (AGT (oA ops (i+1))) (vZ (oA ops i))&&Nat.blt 0 sz&&Nat.blt (i+2) ops.size)=true:=by kernel_rfl) (ht:P.underlying t=some (.slice e):=by kernel_rfl) (hf:p9 P N (oA ops (i+2))=true:=by kernel_rfl):RW P N ops i E Q:=by
 obtain⟨l',hl',h⟩:=Au.1 h;simp only [An,CV]at hN;obtain⟨⟨⟨⟨⟨⟨q1,q2⟩,q3⟩,q4⟩,q5⟩,q6⟩,q7⟩:=hN;have b2:Nat.blt (i+1) ops.size=true:=by rw [BC]at q7⊢;omega
 have b1:Nat.blt i ops.size=true:=by rw [BC]at q7⊢;omega
 have hk':=hk l' hl' h;unfold RW at hk'⊢;rw [I9 b1,I9 b2,I9 q7];exact H5.srt (hs l' hl') hk' b d hx c hp hc hm h1 h2 h3 k1 k2 k3 g1 g2 g3 q1 q2 q3 q4 q5 q6 ht (P2 hf).choose_spec.choose_spec.2.1
def qH (o:Oper):Nat:=match o.op with
 | .call c=>match c.args.toList with
  |[x]=>AGR x
  |_=>0
 |_=>0
def qW (s:SV):Nat:=match s with
 | .one (.view (.slot n) _ _ _)=>n
 |_=>0
def pV (P:Program) (N:Nat) (ops:Array Oper) (E:St) (i:Nat):Option (FuncId×Array Value×Int×Int):=bif SX P ops E i&&Gz N (oA ops i)then
 (match(oA ops i).op with
 | .call c=>match c.callee,c.args.toList with
  | .value (.tmp t),[o1,o2]=>match E.slots t,E.cell1 P 0 o1,E.cell1 P 0 o2 with
   | .one (.fn (.func g) fr cap),some (.int .i64 x),some (.int .i64 y)=>bif fr.isEmpty then some (g,cap,x,y)else none
   |_,_,_=>none
  |_,_=>none
 |_=>none)else none
theorem iI {g:FuncId} {cap:Array Value} {x y:Int} (h:pV P N ops E i=some (g,cap,x,y)):SX P ops E i=true/\(∃d,(oA ops i).dst=some d/\Nat.blt d N=true)/\∃t o1 o2 tys,(oA ops i).op= .call {callee:= .value (.tmp t),args:= #[o1,o2],argTypes:=tys}/\E.slots t= .one (.fn (.func g) #[] cap)/\E.cell1 P 0 o1=some (.int .i64 x)/\E.cell1 P 0 o2=some (.int .i64 y):=by
 unfold pV at h
 cases hb:(SX P ops E i&&Gz N (oA ops i))with
 |false=>rw [hb]at h;cases h
 |true=>
  rw [hb]at h;simp only [Ae]at h;simp only [An]at hb;obtain⟨d,h1,h2,_⟩:=EV hb.2;refine⟨hb.1,⟨d,h1,h2⟩,?_⟩;split at h
  ·rename_i c hc;split at h
   ·rename_i t o1 o2 k1 k2;split at h
    ·rename_i g' fr cap' x' y' m1 m2 m3
     cases he:fr.isEmpty with
     |false=>rw [he]at h;cases h
     |true=>
      rw [he]at h;simp only [Ae,Ao,Bu]at h;obtain⟨rfl,rfl,rfl,rfl⟩:=h;have a:fr= #[]:=by simpa using he
      subst a;refine⟨t,o1,o2,c.argTypes,?_,m1,m2,m3⟩;have ha:c.args= #[o1,o2]:=Array.toList_inj.1 k2;rw [hc];cases c;simp only at k1 ha;rw [k1,ha]
    cases h
   cases h
  cases h
theorem AB3 {rr:β} {lt:γ->γ->Bool} {l:List γ} {k:γ×γ->Option β} {g:FuncId} {cap:Array Value} (a:Jm P Am lt g cap) {x y:Int} (h:(gi2 l x y).bind k=some rr) (hk:∀v,k v=some rr->RW P N ops (i+1) (E.put (oA ops i).dst (.one (.bool (lt v.1 v.2)))) Q) (hc:pV P N ops E i=some (g,cap,x,y):=by kernel_rfl) (hA:E.amb=Am l:=by kernel_rfl):RW P N ops i E Q:=by
 obtain⟨h1,⟨d,h2,h3⟩,t,o1,o2,tys,h4,h5,h6,h7⟩:=iI hc;obtain⟨h8,h9⟩:=H8 h1;unfold RW;rw [I9 h8];exact AGj a h d (λv hv=>by have:=hk v hv;rw [h2]at this;exact this) hA h4 h5 h6 h7 h2 h3 h9
theorem AB2 {rr:β} {sf:FuncId} {l:List γ} {k:List γ->Option β} {cap:Array Value} (a:Na P Am sf cap) (hB:∀l l',(Am l).B=(Am l').B/\(Am l).pin=none) {x y:Int} (h:(yA l x y).bind k=some rr) (hk:∀v,k v=some rr->RW P N ops (i+1) (({E with amb:=Am v}:St).put (oA ops i).dst (.tup [])) Q) (hc:pV P N ops E i=some (sf,cap,x,y):=by kernel_rfl) (hA:E.amb=Am l:=by kernel_rfl):RW P N ops i E Q:=by
 obtain⟨h1,⟨d,h2,h3⟩,t,o1,o2,tys,h4,h5,h6,h7⟩:=iI hc;obtain⟨h8,h9⟩:=H8 h1;unfold RW;rw [I9 h8];exact AGi a hB h d (λv hv=>by have:=hk v hv;rw [h2]at this;exact this) hA h4 h5 h6 h7 h2 h3 h9
def AGH (P:Program) (N:Nat) (ops:Array Oper) (E:St) (i:Nat):Option (FuncId×List AV):=bif SX P ops E i&&Gz N (oA ops i)then
 (match(oA ops i).op with
 | .call c=>match c.callee with
  | .value (.func f)=>match P.funcs[f]? with
   |some fn=>match IG P E ((c.argTypes.toList.zip c.args.toList).map λ(t,x)=>(false,t,x)) (List.replicate c.args.size none)with
    | some (l, b) => bif b && (l.all AAR && (!(fn.name == "runtime.NumGoroutine") && (!fn.body.isNone && Nat.beq c.argTypes.size c.args.size))) then some (f, l) else none
    |none=>none
   |none=>none
  |_=>none
 |_=>none)else none
theorem Rd {rr:β} {f:FuncId} {l:List AV} {k:List γ->Option β} {x:Option (List γ)} (h:x.bind k=some rr) (hB:∀l l',(Am l).B=(Am l').B/\(Am l).pin=none) (e:∀v,x=some v->LE P f (Am xl) l (Am v)) (hk:∀v,k v=some rr->RW P N ops (i+1) (({E with amb:=Am v}:St).put (oA ops i).dst (.tup [])) Q) (hc:AGH P N ops E i=some (f,l):=by kernel_rfl) (hA:E.amb=Am xl:=by kernel_rfl):RW P N ops i E Q:=by
 unfold AGH at hc
 cases hb:(SX P ops E i&&Gz N (oA ops i))with
 |false=>rw [hb]at hc;cases hc
 |true=>
  rw [hb]at hc;simp only [Ae]at hc;simp only [An]at hb;obtain⟨d,h1,h2,_⟩:=EV hb.2;obtain⟨h8,h9⟩:=H8 hb.1;split at hc
  ·rename_i c g;split at hc
   ·rename_i f' a;split at hc
    ·rename_i fn j;split at hc
     ·rename_i l' b m
      cases hq : (b && (l'.all AAR && (!(fn.name == "runtime.NumGoroutine") && (!fn.body.isNone && Nat.beq c.argTypes.size c.args.size)))) with
      |false=>rw [hq]at hc;cases hc
      |true=>
       rw [hq]at hc;simp only [Ae,Ao,Bu]at hc;obtain⟨rfl,rfl⟩:=hc;simp only [An,CV]at hq;obtain⟨rfl,q1,q2,q3,q4⟩:=hq;unfold RW;rw [I9 h8];refine AHx (fn:=fn) h d Am (A:=Am xl) (args:=c.args) (tys:=c.argTypes) ?_ hA (λv=>⟨(hB _ _).1,(hB _ v).2⟩) m (aI q1) e (λv _ hv=>by have:=hk v hv;rw [h1]at this;exact this) j q2 q3 h1 h2 (Bx q4) h9;rw [g];cases c;simp only at a;rw [a]
     cases hc
    cases hc
   cases hc
  cases hc
theorem ra {Am:α->JG} {e:Exit} {v r:α} (h:some v=some r) (he:e= .normal\/e= .ret:=by first|exact .inr rfl|exact .inl rfl) (hA:E.amb=Am v:=by kernel_rfl):(e= .normal\/e= .ret)/\E.amb=Am r:=by
 injection h with h
 rw [<-h];exact⟨he,hA⟩
theorem nta {Am:α->JG} {v r:α} {bs:List Root} (h:some v=some r) (hE:nt ls bs E X) (hX:X.amb=Am v:=by kernel_rfl):(Exit.normal= .normal\/Exit.normal= .ret)/\E.amb=Am r:=by
 injection h with h
 rw [<-h,<-hX,<-hE.2];exact⟨.inl rfl,rfl⟩
theorem gka {f:FuncId} {A':JG} {c:Code} (hf:P.funcs[f]?=some fn) (hN:fn.ntmps=N) (hB:∀l l',(Am l).B=(Am l').B/\(Am l).pin=none) (h:Wp P N c (En as (Am xl)) λe E=>(e= .normal\/e= .ret)/\E.amb=A') (hb:fn.body=some c:=by rfl) (hr:fn.results= #[]:=by rfl):LE P f (Am xl) as A':=ACQ hf hb hr (hB xl xl).2 (by rw [hN];exact h)
theorem ND (h1: -9223372036854775808<=n) (h2:n<=9223372036854775807):IntKind.i64.wrap n=n:=by rw [IntKind.wrap_i64];omega
theorem CA {a b:Int} (h1: -9223372036854775808<=a+b) (h2:a+b<=9223372036854775807):ad a b=a+b:=ND h1 h2
theorem Cz {a b:Int} (h1: -9223372036854775808<=a-b) (h2:a-b<=9223372036854775807):sb a b=a-b:=ND h1 h2
theorem Oh {a b:Int} (h1: -9223372036854775808<=a*b) (h2:a*b<=9223372036854775807):ml a b=a*b:=ND h1 h2
theorem ad1 (h:i<9223372036854775807):ad (i:Int) 1=((i+1:Nat):Int):=by rw [CA]<;>omega
theorem Jc (a b:ByteArray):seq a b=decide (a=b):=by
 unfold seq;rw [DP,Cj,A9];constructor
 ·intro h;rw [ByteArray.toList_eq,ByteArray.toList_eq]at h;cases a;cases b;simp only [ByteArray.mk.injEq];exact xI h
 intro h;rw [h]
theorem AC:gi l (i:Int)=l[i]? :=by
 unfold gi;rw [A3 (by omega)];simp
theorem Gs {x:α}:si l (i:Int) x=l.set i x:=by simp [si]
theorem AE:decide ((i:Int)<ln l)=decide (i<l.length):=by
 rw [DP,A9,A9];simp [ln]
def Or (step:σ->Nat->α->σ⊕β) (fin:σ->β):List α->Nat->σ->β
 |[],_,s=>fin s
 |x::l,i,s=>match step s i x with
  | .inl s'=>Or step fin l (i+1) s'
  | .inr b=>b
theorem hO {body:S->Option (S⊕β)} (a:σ->Int->S) (l:List α) (step:σ->Nat->α->σ⊕β) (fin:σ->β) (c:Nat->σ->Prop) (h1:∀s i x,l[i]?=some x->c i s->body (a s (i:Nat))=some (match step s i x with| .inl s'=> .inl (a s' ((i+1:Nat):Int))| .inr b=> .inr b)/\∀s',step s i x= .inl s'->c (i+1) s') (h2:∀s,c l.length s->body (a s (l.length:Nat))=some (.inr (fin s))):∀(n i:Nat) (s:σ),i+n=l.length->c i s->Aw body (a s (i:Nat))=some (Or step fin (l.drop i) i s)
 |0,i,s,hi,hs=>by
  have:i=l.length:=by omega
  subst this;rw [A8,h2 s hs,CU (A4 _)];rfl
 |n+1,i,s,hi,hs=>by
  have d:i<l.length:=by omega
  obtain⟨h3,h4⟩:=h1 s i l[i] (Ab d) hs;rw [A8,h3,Bh d,Or]
  cases e:step s i l[i]with
  |inl s'=>simp only [];exact hO a l step fin c h1 h2 n (i+1) s' (by omega) (h4 s' e)
  |inr b=>rfl
theorem Pg {s:σ} {body:S->Option (S⊕β)} (a:σ->Int->S) (l:List α) (step:σ->Nat->α->σ⊕β) (fin:σ->β) (c:Nat->σ->Prop) (h1:∀s i x,l[i]?=some x->c i s->body (a s (i:Nat))=some (match step s i x with| .inl s'=> .inl (a s' ((i+1:Nat):Int))| .inr b=> .inr b)/\∀s',step s i x= .inl s'->c (i+1) s') (h2:∀s,c l.length s->body (a s (l.length:Nat))=some (.inr (fin s))) (hs:c 0 s):Aw body (a s 0)=some (Or step fin l 0 s):=
 hO a l step fin c h1 h2 l.length 0 s (by omega) hs
def zl (z:α->Nat) (l:List α):Nat:=l.length+(l.map z).sum
theorem jC {z:α->Nat} {x:α} (h:x∈l):z x+1<=zl z l:=by
 unfold zl
 induction l with
 |nil=>cases h
 |cons y l ih=>
  simp only [BF,FJ,Ay]
  rcases BE.1 h with rfl|h
  ·omega
  have:=ih h;omega
theorem UC {z:α->Nat}:l.length<=zl z l:=by unfold zl;omega
theorem ABT {body:Int->Option (Int⊕(Unit⊕Bool))} (a:List α) (b:List β) (p:α->β->Bool) (hl:a.length=b.length) (hM:a.length<=9223372036854775807) (h1:∀(i:Nat) x y,a[i]?=some x->b[i]?=some y->body (i:Nat)=some (bif p x y then .inl (((i+1:Nat)):Int)else .inr (.inr false))) (h2:body (a.length:Nat)=some (.inr (.inl ()))):
  Aw body 0=some (bif(a.zip b).all (λz=>p z.1 z.2)then .inl ()else .inr false):=by
 have hz:(a.zip b).length=a.length:=by simp [hl]
 have:=Pg (body:=body) (λ(_:Unit) i=>i) (a.zip b) (λ_ _ z=>bif p z.1 z.2 then .inl ()else .inr (.inr false)) (λ_=> .inl ()) (λ_ _=>True)
  (λs i x hx _=>by
   refine⟨?_,λ_ _=>trivial⟩;obtain⟨x1,x2⟩:=x;have hx':=Ai.1 hx;obtain⟨d,hx'⟩:=hx';rw [List.getElem_zip]at hx'
   injection hx' with e1 e2
   rw [h1 i x1 x2 (by rw [<-e1];exact Ab _) (by rw [<-e2];exact Ab _)];simp only
   cases p x1 x2<;>rfl)
  (λs _=>by rw [hz];exact h2) (s:=()) trivial
 rw [this];have c:∀(m:List (α×β)) (i:Nat),Or (λ(_:Unit) _ z=>bif p z.1 z.2 then .inl ()else .inr (.inr false)) (λ_=>(.inl ():Unit⊕Bool)) m i ()=bif m.all (λz=>p z.1 z.2)then .inl ()else .inr false:=by
  intro m
  induction m with
  |nil=>intro i;rfl
  |cons z m ih=>
   intro i;simp only [Or,EJ]
   cases p z.1 z.2 with
   |false=>rfl
   |true=>simp only [Ae,C4];exact ih _
 rw [c]
theorem ABc {p:α->α->Bool}:∀{a b:List α},(∀x∈a,∀y∈b,(p x y=true↔x=y))->a.length=b.length->((a.zip b).all (λz=>p z.1 z.2)=true↔a=b)
 |[],[],_,_=>by simp
 |x::a,y::b,hp,h=>by
  have ih:=ABc (p:=p) (a:=a) (b:=b) (λx' hx y' hy=>hp x' (DO _ hx) y' (DO _ hy)) (by simpa using h);simp only [List.zip_cons_cons,EJ,An,ih,hp x CK y CK,PV]
 |[],_::_,_,h=>by simp at h
 |_::_,[],_,h=>by simp at h
theorem TO {body:S->Option (S⊕β)} (a:σ->Int->S) (n:Nat) (c:Nat->σ->Prop) (Q:β->Prop) (h1:∀s i,i<n->c i s->(∃s',body (a s (i:Nat))=some (.inl (a s' ((i+1:Nat):Int)))/\c (i+1) s')\/∃b,body (a s (i:Nat))=some (.inr b)/\Q b) (h2:∀s,c n s->∃b,body (a s (n:Nat))=some (.inr b)/\Q b):∀(k i:Nat) (s:σ),i+k=n->c i s->∃b,Aw body (a s (i:Nat))=some b/\Q b
 |0,i,s,hi,hs=>by
  have:i=n:=by omega
  subst this;obtain⟨b,h3,h4⟩:=h2 s hs;exact⟨b,by rw [A8,h3],h4⟩
 |k+1,i,s,hi,hs=>by
  rcases h1 s i (by omega) hs with⟨s',h3,h4⟩|⟨b,h3,h4⟩
  ·obtain⟨b,h5,h6⟩:=TO a n c Q h1 h2 k (i+1) s' (by omega) h4;exact⟨b,by rw [A8,h3];exact h5,h6⟩
  exact⟨b,by rw [A8,h3],h4⟩
theorem Bk {s:σ} {body:S->Option (S⊕β)} (a:σ->Int->S) (n:Nat) (c:Nat->σ->Prop) (Q:β->Prop) (h1:∀s i,i<n->c i s->(∃s',body (a s (i:Nat))=some (.inl (a s' ((i+1:Nat):Int)))/\c (i+1) s')\/∃b,body (a s (i:Nat))=some (.inr b)/\Q b) (h2:∀s,c n s->∃b,body (a s (n:Nat))=some (.inr b)/\Q b) (hs:c 0 s):∃b,Aw body (a s 0)=some b/\Q b:=
 TO a n c Q h1 h2 n 0 s (by omega) hs
theorem Vo {body body':S->Option (S⊕β)} (a:σ->Int->S) (n:Nat) (c:Nat->σ->Prop) (Q:β->Prop) (h1:∀s i,i<n->c i s->body' (a s (i:Nat))=body (a s (i:Nat))/\((∃s',body (a s (i:Nat))=some (.inl (a s' ((i+1:Nat):Int)))/\c (i+1) s')\/∃b,body (a s (i:Nat))=some (.inr b)/\Q b)) (h2:∀s,c n s->body' (a s (n:Nat))=body (a s (n:Nat))/\∃b,body (a s (n:Nat))=some (.inr b)/\Q b):∀(k i:Nat) (s:σ),i+k=n->c i s->∃b,Aw body (a s (i:Nat))=some b/\Aw body' (a s (i:Nat))=some b/\Q b
 |0,i,s,hi,hs=>by
  have:i=n:=by omega
  subst this;obtain⟨e,b,h3,h4⟩:=h2 s hs;exact⟨b,by rw [A8,h3],by rw [A8,e,h3],h4⟩
 |k+1,i,s,hi,hs=>by
  obtain⟨e,h⟩:=h1 s i (by omega) hs
  rcases h with⟨s',h3,h4⟩|⟨b,h3,h4⟩
  ·obtain⟨b,h5,h6,h7⟩:=Vo a n c Q h1 h2 k (i+1) s' (by omega) h4;exact⟨b,by rw [A8,h3];exact h5,by rw [A8,e,h3];exact h6,h7⟩
  exact⟨b,by rw [A8,h3],by rw [A8,e,h3],h4⟩
theorem MP {s:σ} {body body':S->Option (S⊕β)} (a:σ->Int->S) (n:Nat) (c:Nat->σ->Prop) (Q:β->Prop) (h1:∀s i,i<n->c i s->body' (a s (i:Nat))=body (a s (i:Nat))/\((∃s',body (a s (i:Nat))=some (.inl (a s' ((i+1:Nat):Int)))/\c (i+1) s')\/∃b,body (a s (i:Nat))=some (.inr b)/\Q b)) (h2:∀s,c n s->body' (a s (n:Nat))=body (a s (n:Nat))/\∃b,body (a s (n:Nat))=some (.inr b)/\Q b) (hs:c 0 s):∃b,Aw body (a s 0)=some b/\Aw body' (a s 0)=some b/\Q b:=
 Vo a n c Q h1 h2 n 0 s (by omega) hs
theorem Zu {body:Int->Option (Int⊕β)} (l:List α) (p:Nat->α->Bool) (no yes:β) (hM:l.length<=9223372036854775807) (h1:∀(i:Nat) x,l[i]?=some x->body (i:Nat)=some (bif p i x then .inl (((i+1:Nat)):Int)else .inr no)) (h2:body (l.length:Nat)=some (.inr yes)):
  Aw body 0=some (bif l.zipIdx.all (λz=>p z.2 z.1)then yes else no):=by
 have:=Pg (body:=body) (λ(_:Unit) i=>i) l (λ_ i x=>bif p i x then .inl ()else .inr no) (λ_=>yes) (λ_ _=>True)
  (λs i x hx _=>by
   refine⟨?_,λ_ _=>trivial⟩;rw [h1 i x hx]
   cases p i x<;>rfl)
  (λs _=>h2) (s:=()) trivial
 rw [this];have a:∀(m:List α) (i:Nat),Or (λ(_:Unit) i x=>bif p i x then .inl ()else .inr no) (λ_=>yes) m i ()=bif(m.zipIdx i).all (λz=>p z.2 z.1)then yes else no:=by
  intro m
  induction m with
  |nil=>intro i;rfl
  |cons z m ih=>
   intro i;simp only [Or,List.zipIdx_cons,EJ]
   cases p i z with
   |false=>rfl
   |true=>simp only [Ae,C4];exact ih _
 rw [a]
theorem Zt {body:Int×List γ->Option ((Int×List γ)⊕List γ)} (l:List α) (f:α->γ) (h1:∀(i:Nat) x (a:List γ),l[i]?=some x->a.length=i->body ((i:Nat),a)=some (.inl (((i+1:Nat):Int),a++ [f x]))) (h2:∀a,body ((l.length:Nat),a)=some (.inr a)):
  Aw body (0,[])=some (l.map f):=by
 have:=Pg (body:=body) (λ(s:List γ) i=>(i,s)) l (λa _ x=>(.inl (a++ [f x]):List γ⊕List γ)) (λa=>a) (λi a=>a.length=i)
  (λs i x hx hi=>by
   refine⟨h1 i x s hx hi,λs' hs=>?_⟩
   injection hs with hs
   rw [<-hs,Ag,Aj,hi])
  (λs _=>h2 s) (s:=[]) rfl
 rw [this];have b:∀(m:List α) (i:Nat) (a:List γ),Or (λa _ x=>(.inl (a++ [f x]):List γ⊕List γ)) (λa=>a) m i a=a++m.map f:=by
  intro m
  induction m with
  |nil=>intro i a;simp [Or]
  |cons z m ih=>
   intro i a;simp only [Or,ih,BF,Ar,Cq]
 rw [b,AA]
theorem AAl {body:Int×List γ->Option ((Int×List γ)⊕List γ)} (n:Nat) (f:Nat->γ) (h1:∀(i:Nat) (a:List γ),i<n->a.length=i->body ((i:Nat),a)=some (.inl (((i+1:Nat):Int),a++ [f i]))) (h2:∀a,body ((n:Nat),a)=some (.inr a)):
  Aw body (0,[])=some ((List.range n).map f):=
 Zt (List.range n) f (λi x a hx ho=>by
  obtain⟨b,hx⟩:=Ai.1 hx;rw [List.getElem_range]at hx;rw [<-hx]
  exact h1 i a (by simpa using b) ho) (λa=>by rw [Ck];exact h2 a)
theorem Zp {n:Nat} {z:α} (h:by_*n<=281474976710656) (h2:n<=9223372036854775807):mk by_ z (n:Int)=some (List.replicate n z):=by
 unfold mk;have:((by_*n:Nat):Int)<=281474976710656:=by omega
 rw [Int.natCast_mul]at this;rw [A3 ⟨by omega,this,by omega⟩,B6]
theorem C3 {m:List α} (h:(l.length+m.length)*by_<=140737488355328):ap by_ l m=some (l++m):=A3 h
theorem Kr {i:Int} (h1:0<=i) (h2:i<l.length):gi l i=some (l[i.toNat]'(by omega)):=by
 unfold gi;rw [A3 h1];exact Ab _
theorem Cf:ln l=(l.length:Int):=rfl
def L (s:ByteArray):List UInt8:=s.data.toList
theorem Ii {a b:ByteArray} (h:L a=L b):a=b:=by
 cases a;cases b;simp only [L]at h;simp only [ByteArray.mk.injEq];exact xI h
theorem VE (s:ByteArray):(L s).length=s.size:=by cases s;rfl
theorem D4 (a b:ByteArray):L (a++b)=L a++L b:=by simp [L]
theorem DV (l:List UInt8):L (bs l)=l:=by simp [L,bs]
theorem Jn (l:List Int):L (EI l)=l.map λn=>UInt8.ofNat n.toNat:=strOfNums_data l
theorem HG (s:ByteArray) (i j:Nat):L (s.extract i j)=((L s).drop i).take (j-i):=by
 have:s=ByteArray.mk (L s).toArray:=by cases s;simp [L]
 rw [this,ByteArray.extract_mk];simp [L]
theorem BL (s:ByteArray):FL s=((L s).length:Int):=by rw [VE];rfl
theorem EX (s:ByteArray) (h:i<(L s).length):sx s (i:Int)=some (((L s)[i]).toNat:Int):=by
 have h':i<s.size:=by rw [<-VE];exact h
 unfold sx;rw [A3 ⟨by omega,by omega⟩];unfold Bm.bt;rw [dif_pos (by simpa using h')];rfl
theorem EY (s:ByteArray) (h1:i<=j) (h2:j<=(L s).length):sub s (i:Int) (j:Int)=some (s.extract i j):=by
 rw [VE]at h2;unfold sub;rw [A3 ⟨by omega,by omega,by omega⟩,B6,B6]
theorem FT (a b:ByteArray) (h:(L a).length+(L b).length<=9223372036854775807):HH a b=some (a++b):=by
 rw [VE,VE]at h;unfold HH;rw [A5 (by omega)]
theorem Qp (a b:ByteArray):seq a b=decide (L a=L b):=by
 rw [Jc,DP,A9,A9];exact⟨λh=>by rw [h],Ii⟩
def C1 (n:Nat):List UInt8:=if h:n<=127 then [UInt8.ofNat n]else UInt8.ofNat (n %128+128)::C1 (n/128)
termination_by n
decreasing_by omega
def Ft:List UInt8->Nat
 |[]=>0
 |d::ds=>d.toNat %128+128*Ft ds
theorem Nj:∀(ds es:List UInt8),Ft (ds++es)=Ft ds+128^ds.length*Ft es
 |[],es=>by simp [Ft]
 |d::ds,es=>by
  simp only [BG,Ft,Nj ds es,Ay,Xm];rw [Nat.mul_add,FI];congr 2;rw [<-Nat.mul_assoc,AA3 128]
theorem qY (d:UInt8):d.toNat<256:=d.toNat_lt
theorem Jl {n:Nat} (h:n<=127):C1 n=[UInt8.ofNat n]:=by rw [C1,dif_pos h]
theorem QV {n:Nat} (h:¬n<=127):C1 n=UInt8.ofNat (n %128+128)::C1 (n/128):=by rw [C1,dif_neg h]
theorem fP:∀{ds:List UInt8} {x:UInt8},Ft (ds++ [x])=0->x.toNat<128->x.toNat=0
 |[],x,h,hx=>by simp [Ft]at h;omega
 |d::ds,x,h,hx=>by
  simp only [BG,Ft]at h;exact fP (ds:=ds) (by omega) hx
theorem iK:∀(ds:List UInt8) (x:UInt8),(∀d∈ds,128<=d.toNat)->x.toNat<128->(C1 (Ft (ds++ [x]))=ds++ [x]↔¬(x.toNat=0/\ds≠ []))
 |[],x,_,hx=>by
  have:Ft ([]++ [x])=x.toNat:=by simp [Ft];omega
  rw [this,Jl (by omega)];simp
 |d::ds,x,hd,hx=>by
  have ih:=iK ds x (λe he=>hd e (DO _ he)) hx;have h1:=hd d CK;have h2:=qY d;have hv:Ft (d::ds++ [x])=d.toNat-128+128*Ft (ds++ [x]):=by
   simp only [BG,Ft];omega
  rw [hv];by_cases h0:Ft (ds++ [x])=0
  ·have a:=fP h0 hx;rw [h0,Jl (by omega)];refine iff_of_false ?_ (by simp [a]);intro e;have:=Ca List.length e;simp at this
  rw [QV (by omega)];have e1:UInt8.ofNat ((d.toNat-128+128*Ft (ds++ [x])) %128+128)=d:=by
   have:(d.toNat-128+128*Ft (ds++ [x])) %128+128=d.toNat:=by omega
   rw [this,UInt8.ofNat_toNat]
  have e2:(d.toNat-128+128*Ft (ds++ [x]))/128=Ft (ds++ [x]):=by omega
  rw [e1,e2,BG,PV];rw [ih];constructor
  ·rintro⟨_,h⟩ ⟨h3,_⟩;refine h ⟨h3,?_⟩;rintro rfl;apply h0;simp [Ft,h3]
  intro h;exact⟨rfl,λh3=>h ⟨h3.1,by simp⟩⟩
theorem vY:∀(n:Nat),(C1 n).length<=n+1
 |n=>by
  by_cases h:n<=127
  ·rw [Jl h];simp
  have:=vY (n/128);rw [QV h,Ay];omega
termination_by n=>n
decreasing_by omega
theorem iL {body:Int×List Int->Option ((Int×List Int)⊕(Int×List Int))} (hb:∀n a,body (n,a)=bif decide (n>127)then((ap 1 a [(IntKind.u8.wrap (ad (Int.tmod n 128) 128))]).bind λc=>some (.inl ((qu n 128),c)))else some (.inr (n,a))):
  ∀(n:Nat) (a:List Int),a.length+n<=1099511627776->∃(m:Nat) (o:List Int),Aw body ((n:Int),a)=some ((m:Int),o)/\m<=127/\o.length<=a.length+n/\(o++ [(m:Int)]).map (λn=>UInt8.ofNat n.toNat)=a.map (λn=>UInt8.ofNat n.toNat)++C1 n
 |n,a,h=>by
  rw [A8,hb];by_cases hn:n<=127
  ·rw [Af (by omega),Ac];exact⟨n,a,rfl,hn,by omega,by rw [Jl hn];simp⟩
  rw [Ad (by omega),Ae,C3 (by simp only [Aj];omega),Aa];have e1:Int.tmod (n:Int) 128=((n %128:Nat):Int):=rfl;have e2:qu (n:Int) 128=((n/128:Nat):Int):=by
   unfold qu;rw [show Int.tdiv (n:Int) 128=((n/128:Nat):Int)from Int.ofNat_tdiv n 128|>.symm,ND (by omega) (by omega)]
  have e3:IntKind.u8.wrap (ad (Int.tmod (n:Int) 128) 128)=((n %128+128:Nat):Int):=by
   rw [e1,CA (by omega) (by omega),IntKind.wrap_u8];omega
  obtain⟨m,o,h1,h2,h3,h4⟩:=iL hb (n/128) (a++ [((n %128+128:Nat):Int)]) (by simp only [Ag,Aj];omega);rw [e2,e3];refine⟨m,o,h1,h2,by simp only [Ag,Aj]at h3;omega,?_⟩;rw [h4,QV hn,CD,Ar];rfl
termination_by n=>n
decreasing_by omega
theorem AHK {s:Int} (h0:0<=s) (h1:s<4294967296):IntKind.u32.wrap (Int.tdiv s 2)=Int.fdiv s (2^(min (1:Int).toNat IntKind.u32.bits)):=by
 have e:(2:Int)^(min (1:Int).toNat IntKind.u32.bits)=2:=by decide
 rw [e,IntKind.wrap_u32,Int.tdiv_eq_ediv_of_nonneg h0,Int.fdiv_eq_ediv_of_nonneg _ (by omega)];omega
theorem an1 {s:Int} (h0:0<=s) (h1:s<4294967296):an s 1=Int.tmod s 2:=by
 unfold an;obtain⟨n,rfl⟩:=Dg h0;have:(BitVec.ofInt 32 (n:Int)&&&BitVec.ofInt 32 1).toNat=n %2:=by
  rw [BitVec.toNat_and,BitVec.ofInt_natCast,BitVec.toNat_ofNat];have e1:(BitVec.ofInt 32 1).toNat=1:=by decide
  rw [e1,Nat.and_one_is_mod];omega
 rw [this,IntKind.wrap_u32,GT (by omega)];omega
theorem AGm (a b:Int):0<=xr a b/\xr a b<4294967296:=by
 unfold xr;rw [IntKind.wrap_u32];omega
end Go.TI
