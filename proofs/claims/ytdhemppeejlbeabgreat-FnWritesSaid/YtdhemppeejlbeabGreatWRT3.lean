/- What walks of Go code need. No condition. -/
import Derived.Test.YtdhemppeejlbeabGreatWRT2
import Derived.KernelRfl
import Derived.Laws.StructEq
set_option linter.unusedVariables false
namespace Go.TI
open Go Go.RowKit
def oA (ops:Array Oper) (i:Nat):Oper:=match ops[i]? with
 |some o=>o
 | none => { dst := none, op := .load 0 (.tmp 0), type := 0, pos := "", after := #[], guard := none }
variable {E E' E1:St} {P:Program} {N i sz m d j sz' by_ e':Nat} {ops:Array Oper} {Q:Exit->St->Prop} {α β γ α' V A:Type} {dn FA UA:List Nat} {n n':Int} {w:World} {s:SV} {blk:Root->Nat} {K:St->Prop} {as:List AV} {FS US:Root->List Nat} {b mv:Bool} {fn:Func} {row row':List TV} {k:IntKind} {t':TV} {rest:List Oper} {f:α->List TV} {r:β} {l:List α} {kk:α->Option β} {tx:Option β} {ty:Option β} {f':α'->List TV} {l':List α'} {x':α'} {u:List α} {fin:α->List TV}
theorem I9 {ops:Array Oper} (h:Nat.blt i ops.size=true):ops[i]?=some (oA ops i):=by
 have:i<ops.size:=by simpa [Bq]using h
 unfold oA;rw [Array.getElem?_eq_getElem this]
theorem G3 {ops:Array Oper} (h:Nat.blt i ops.size=true):ops.toList.drop i=oA ops i::ops.toList.drop (i+1):=by
 have hi:i<ops.toList.length:=by simpa [Bq]using h
 have h1:=I9 h;rw [<-Array.getElem?_toList,Ac hi]at h1
 injection h1 with h1
 rw [Bj hi,h1]
def PX (P:Program) (ops:Array Oper) (E:St) (i:Nat):Bool:=Nat.blt i ops.size&&(match BE P ops E (oA ops i)with|some b=>b|none=>false)
theorem HD {ops:Array Oper} (h:PX P ops E i=true):Nat.blt i ops.size=true/\BE P ops E (oA ops i)=some true:=by
 simp only [PX,Al]at h;refine⟨h.1,?_⟩;have h2:=h.2;split at h2
 ·rename_i b hb;rw [hb,h2]
 cases h2
def Gw (N:Nat) (o:Oper):Bool:=match o.dst with
 |some d=>Nat.blt d N
 |none=>false
theorem ES {o:Oper} (h:Gw N o=true):∃d,o.dst=some d/\Nat.blt d N=true/\d<N:=by
 unfold Gw at h;split at h
 ·rename_i d hd;exact⟨d,hd,h,by simpa [Bq]using h⟩
 cases h
def rN (P:Program) (N:Nat) (ops:Array Oper) (mv:Bool) (E:St) (i:Nat):Option St:=bif Nat.blt i ops.size then
  match BE P ops E (oA ops i)with
  |some true=>CF P N mv E (oA ops i)
  |some false=>bif Gw N (oA ops i)then some (E.put (oA ops i).dst (.tup []))else none
  |none=>none
 else none
def RY (P:Program) (N:Nat) (ops:Array Oper):Nat->Nat->Nat->St->Option St
 |0,_,_,E=>some E
 |k+1,m,i,E=>match rN P N ops (Nat.beq (m %2) 1) E i with
  |some E'=>RY P N ops k (m/2) (i+1) E'
  |none=>none
def PS (P:Program) (N:Nat) (ops:Array Oper) (k m i:Nat) (E:St):St:=(RY P N ops k m i E).getD E
theorem getD_some {α:Type _} {x:Option α} {a:α} (h:x.isSome=true):x=some (x.getD a):=by
 cases x with
 |none=>cases h
 |some y=>rfl
def RW (P:Program) (N:Nat) (ops:Array Oper) (i:Nat) (E:St) (Q:Exit->St->Prop):Prop:=He P N ops (ops.toList.drop i) E Q
def SW (P:Program) (N:Nat) (ops:Array Oper) (m i:Nat) (E:St) (K:St->Prop):Prop:=GS P N ops ((ops.toList.take m).drop i) E K
theorem bd {k:α->Option β} {G:Prop} {x:Option α} (h:x.bind k=some r) (hk:∀a,x=some a->k a=some r->G):G:=by
 obtain⟨a,ha,h⟩:=Ar.1 h;exact hk a ha h
theorem RW.nil (h:Q .normal E) (hi:Nat.ble ops.size i=true:=by kernel_rfl):RW P N ops i E Q:=by
 have:ops.size<=i:=by simpa [O5]using hi
 unfold RW;rw [CZ (by simpa using this)];exact He.nil h
theorem Cu (hs:CF P N mv E (oA ops i)=some E') (h:RW P N ops (i+1) E' Q) (hk:PX P ops E i=true:=by kernel_rfl):RW P N ops i E Q:=by
 obtain⟨h1,h2⟩:=HD hk;unfold RW;rw [G3 h1];exact He.op mv h2 hs h
theorem RW.st (hs:rN P N ops mv E i=some E') (h:RW P N ops (i+1) E' Q):RW P N ops i E Q:=by
 unfold rN at hs
 cases hi:Nat.blt i ops.size with
 |false=>rw [hi]at hs;cases hs
 |true=>
  rw [hi]at hs;simp only [Ae]at hs;unfold RW;rw [G3 hi];split at hs
  ·rename_i hg;exact He.op mv hg hs h
  ·rename_i hg
   cases hd:Gw N (oA ops i)with
   |false=>rw [hd]at hs;cases hs
   |true=>
    rw [hd]at hs;simp only [Ae]at hs
    injection hs with hs
    subst hs;obtain⟨d,h1,_,h2⟩:=ES hd;rw [h1]at h;exact vN h1 h2 hg h
  cases hs
theorem RW.run:∀{k m i:Nat} {E E':St},RY P N ops k m i E=some E'->RW P N ops (i+k) E' Q->RW P N ops i E Q
 |0,m,i,E,E',h,hw=>by
  simp only [RY]at h
  injection h with h
  subst h;exact hw
 |k+1,m,i,E,E',h,hw=>by
  simp only [RY]at h;split at h
  ·rename_i E1 h1;exact RW.st h1 (RW.run h (by rw [Fx,Nm 1 k];exact hw))
  cases h
theorem qR (k m:Nat) (h:RW P N ops (i+k) (PS P N ops k m i E) Q) (hk:(RY P N ops k m i E).isSome=true:=by kernel_rfl):RW P N ops i E Q:=RW.run (getD_some hk) h
def sM (P:Program) (N:Nat) (ops:Array Oper) (i:Nat) (E:St):Bool:=PX P ops E i&&pk (oA ops i)&&Gw N (oA ops i)
theorem kD (h:sM P N ops i E=true):PX P ops E i=true/\pk (oA ops i)=true/\∃d,(oA ops i).dst=some d/\Nat.blt d N=true/\d<N:=by
 simp only [sM,Al]at h;exact⟨h.1.1,h.1.2,ES h.2⟩
theorem RW.q (hp:Bl P E (oA ops i)=some s) (h:RW P N ops (i+1) (E.put (oA ops i).dst s) Q) (hk:sM P N ops i E=true:=by kernel_rfl):RW P N ops i E Q:=by
 obtain⟨h1,h2,d,h3,h4,_⟩:=kD hk;rw [h3]at h;exact Cu (m9 hp h3 h4 h2) h h1
theorem ABC (t:Nat) (h:(bif b then tx else ty)=some r) (ht:tx=some r->RW P N ops i (E.rs t true) Q) (hf:ty=some r->RW P N ops i (E.rs t false) Q) (hc:E.slots t=B b:=by kernel_rfl):RW P N ops i E Q:=AAW h t ht hf hc
theorem P9 (h:Nat.blt i ops.size=true) (hm:Nat.blt i m=true):(ops.toList.take m).drop i=oA ops i::(ops.toList.take m).drop (i+1):=by
 have hi:i<ops.size:=by simpa [Bq]using h
 have a:i<m:=by simpa [Bq]using hm
 have hl:i<(ops.toList.take m).length:=by simp;omega
 have h1:=I9 h;rw [Bj hl];congr 1;rw [JQ];rw [<-Array.getElem?_toList,Ac (by simpa using hi)]at h1;injection h1
theorem SW.nil (h:K E) (hi:(Nat.ble ops.size i||Nat.ble m i)=true:=by kernel_rfl):SW P N ops m i E K:=by
 unfold SW
 rw [CZ (by
  rw [C3]at hi
  rcases hi with hi|hi
  ·have:ops.size<=i:=by simpa [O5]using hi
   simp;omega
  have:m<=i:=by simpa [O5]using hi
  simp;omega)]
 exact GS.nil h
def jO (P:Program) (N:Nat) (ops:Array Oper) (m:Nat) (E:St) (i:Nat):Option St:=bif Nat.blt i ops.size&&Nat.blt i m&&Gw N (oA ops i)then
  match BE P ops E (oA ops i)with
  |some true=>match Jl P E (oA ops i)with
   |some s=>some (E.put (oA ops i).dst s)
   |none=>none
  |some false=>some (E.put (oA ops i).dst (.tup []))
  |none=>none
 else none
def Z5 (P:Program) (N:Nat) (ops:Array Oper) (m:Nat):Nat->Nat->St->Option St
 |0,_,E=>some E
 |k+1,i,E=>match jO P N ops m E i with
  |some E'=>Z5 P N ops m k (i+1) E'
  |none=>none
theorem SW.st (hs:jO P N ops m E i=some E') (h:SW P N ops m (i+1) E' K):SW P N ops m i E K:=by
 unfold jO at hs
 cases hb:(Nat.blt i ops.size&&Nat.blt i m&&Gw N (oA ops i))with
 |false=>rw [hb]at hs;cases hs
 |true=>
  rw [hb]at hs;simp only [Ae]at hs;simp only [Al]at hb;obtain⟨d,h1,_,h2⟩:=ES hb.2;unfold SW;rw [P9 hb.1.1 hb.1.2];split at hs
  ·rename_i hg;split at hs
   ·rename_i s a
    injection hs with hs
    subst hs;rw [h1]at h;exact GS.op s hg h1 h2 a h
   cases hs
  ·rename_i hg
   injection hs with hs
   subst hs;rw [h1]at h;exact vH h1 h2 hg h
  cases hs
theorem SW.run:∀{k i:Nat} {E E':St},Z5 P N ops m k i E=some E'->SW P N ops m (i+k) E' K->SW P N ops m i E K
 |0,i,E,E',h,hw=>by
  simp only [Z5]at h
  injection h with h
  subst h;exact hw
 |k+1,i,E,E',h,hw=>by
  simp only [Z5]at h;split at h
  ·rename_i E1 h1;exact SW.st h1 (SW.run h (by rw [Fx,Nm 1 k];exact hw))
  cases h
theorem Dx (k:Nat) (h:SW P N ops m (i+k) ((Z5 P N ops m k i E).getD E) K) (hk:(Z5 P N ops m k i E).isSome=true:=by kernel_rfl):SW P N ops m i E K:=SW.run (getD_some hk) h
theorem SW.q (hp:Bl P E (oA ops i)=some s) (h:SW P N ops m (i+1) (E.put (oA ops i).dst s) K) (hk:(sM P N ops i E&&Nat.blt i m)=true:=by kernel_rfl):SW P N ops m i E K:=by
 rw [Al]at hk;obtain⟨h1,h2,d,h3,h4,h5⟩:=kD hk.1;obtain⟨h6,h7⟩:=HD h1;rw [h3]at h;unfold SW;rw [P9 h6 hk.2];exact GS.op s h7 h3 h5 (nA hp h2) h
theorem aS (t:Nat) (h:(bif b then tx else ty)=some r) (ht:tx=some r->SW P N ops m i (E.rs t true) K) (hf:ty=some r->SW P N ops m i (E.rs t false) K) (hc:E.slots t=B b:=by kernel_rfl):SW P N ops m i E K:=AAO h t ht hf hc
def lsd (n:Nat):List Nat->Array Bool
 |[]=>Array.replicate n false
 |i::l=>(lsd n l).setIfInBounds i true
def KW (P:Program) (N:Nat) (ops:Array Oper) (ts:List Nat) (dn:List Nat) (E:St) (Q:Exit->St->Prop):Prop:=VQ P N ops ts (ops.size-dn.length) (lsd ops.size dn) E Q
def KB (P:Program) (N:Nat) (ops:Array Oper) (ts:List Nat) (dn:List Nat) (i:Nat) (E:St) (Q:Exit->St->Prop):Prop:=aV P N ops ts i E (λE'=>KW P N ops ts (i::dn) E' Q) Q
theorem AP {ts:List Nat} (h:Q .normal E) (hr:(Region.ready .any ops (lsd ops.size dn)).isEmpty=true:=by kernel_rfl):KW P N ops ts dn E Q:=vO h (by simpa using hr)
def qX (ops:Array Oper) (dn l:List Nat):Bool:=(Region.ready .any ops (lsd ops.size dn)==l)&&Nat.blt dn.length ops.size
theorem TQ (h:Nat.blt dn.length ops.size=true):ops.size-dn.length=(ops.size-(i::dn).length)+1:=by
 have:dn.length<ops.size:=by simpa [Bq]using h
 simp only [A0];omega
theorem KW.all {ts:List Nat} (l:List Nat) (h:∀i∈l,KB P N ops ts dn i E Q) (a:l≠ []) (hr:qX ops dn l=true):KW P N ops ts dn E Q:=by
 simp only [qX,Al,Dt]at hr;unfold KW;rw [TQ (i:=0) hr.2];exact VQ.all l (λi hi=>h i hi) hr.1 a
theorem Bi {ts:List Nat} (i:Nat) (h:KB P N ops ts dn i E Q) (hr:qX ops dn [i]=true:=by kernel_rfl):KW P N ops ts dn E Q:=KW.all [i] (λj hj=>by simp only [Aw]at hj;subst hj;exact h) (by simp) hr
theorem C8 {ts:List Nat} (i j:Nat) (h:KB P N ops ts dn i E Q) (h2:KB P N ops ts dn j E Q) (hr:qX ops dn [i,j]=true:=by kernel_rfl):KW P N ops ts dn E Q:=KW.all [i,j] (λm hm=>by
 simp only [BA,List.not_mem_nil,or_false]at hm
 rcases hm with rfl|rfl<;>assumption) (by simp) hr
theorem VR {ts:List Nat} (i j k:Nat) (h:KB P N ops ts dn i E Q) (h2:KB P N ops ts dn j E Q) (h3:KB P N ops ts dn k E Q) (hr:qX ops dn [i,j,k]=true:=by kernel_rfl):KW P N ops ts dn E Q:=KW.all [i,j,k] (λm hm=>by
 simp only [BA,List.not_mem_nil,or_false]at hm
 rcases hm with rfl|rfl|rfl<;>assumption) (by simp) hr
theorem AAf {ts:List Nat} (i j k l:Nat) (h:KB P N ops ts dn i E Q) (h2:KB P N ops ts dn j E Q) (h3:KB P N ops ts dn k E Q) (h4:KB P N ops ts dn l E Q) (hr:qX ops dn [i,j,k,l]=true:=by kernel_rfl):KW P N ops ts dn E Q:=KW.all [i,j,k,l] (λm hm=>by
 simp only [BA,List.not_mem_nil,or_false]at hm
 rcases hm with rfl|rfl|rfl|rfl<;>assumption) (by simp) hr
theorem Ix {ts:List Nat} (hs:CF P N mv E (oA ops i)=some E') (h:KW P N ops ts (i::dn) E' Q) (hk:(PX P ops E i&&(kp (oA ops i)||ts.contains i))=true:=by kernel_rfl):KB P N ops ts dn i E Q:=by
 rw [Al]at hk;obtain⟨h1,h2⟩:=HD hk.1;exact aV.op i mv h hs (I9 h1) h2 hk.2
theorem KB.q {ts:List Nat} (hp:Bl P E (oA ops i)=some s) (h:KW P N ops ts (i::dn) (E.put (oA ops i).dst s) Q) (hk:(sM P N ops i E&&(kp (oA ops i)||ts.contains i))=true:=by kernel_rfl):KB P N ops ts dn i E Q:=by
 rw [Al]at hk;obtain⟨h1,h2,d,h3,h4,h5⟩:=kD hk.1;rw [h3]at h;exact Ix (m9 hp h3 h4 h2) h (by rw [h1,hk.2];rfl)
def jB (ops:Array Oper) (ts dn:List Nat) (i:Nat):Bool:=Nat.blt dn.length ops.size&&RH ops ts ops.size i (lsd ops.size dn)
theorem AA1 {ts:List Nat} (i:Nat) (hp:Jl P E (oA ops i)=some s) (h:KW P N ops ts (i::dn) (E.put (oA ops i).dst s) Q) (hk:(PX P ops E i&&Gw N (oA ops i)&&jB ops ts dn i)=true):KW P N ops ts dn E Q:=by
 simp only [Al,jB]at hk;obtain⟨⟨h1,h2⟩,h3,h4⟩:=hk;obtain⟨h5,h6⟩:=HD h1;obtain⟨d,h7,h8,_⟩:=ES h2;unfold KW at h⊢;rw [TQ (i:=i) h3];rw [h7]at h;exact VQ.take ops.size i d s h hp (I9 h5) h4 h6 h7 h8
theorem KW.q {ts:List Nat} (i:Nat) (hp:Bl P E (oA ops i)=some s) (h:KW P N ops ts (i::dn) (E.put (oA ops i).dst s) Q) (hk:(sM P N ops i E&&jB ops ts dn i)=true:=by kernel_rfl):KW P N ops ts dn E Q:=by
 rw [Al]at hk;have h0:=hk.1;simp only [sM,Al]at h0;exact AA1 i (nA hp h0.1.2) h (by rw [h0.1.1,h0.2,hk.2];rfl)
theorem ABG {ts:List Nat} (i:Nat) (h:KW P N ops ts (i::dn) (E.put (oA ops i).dst (.tup [])) Q) (hg:BE P ops E (oA ops i)=some false) (hk:(Nat.blt i ops.size&&Gw N (oA ops i)&&jB ops ts dn i)=true):KW P N ops ts dn E Q:=by
 simp only [Al,jB]at hk;obtain⟨⟨h1,h2⟩,h3,h4⟩:=hk;obtain⟨d,h7,h8,_⟩:=ES h2;unfold KW at h⊢;rw [TQ (i:=i) h3];rw [h7]at h;exact eC ops.size i d h (I9 h1) h4 hg h7 h8
def tV (P:Program) (N:Nat) (ops:Array Oper) (ts:List Nat) (mv:Bool) (dn:List Nat) (E:St) (i:Nat):Option St:=match BE P ops E (oA ops i)with
 |some false=>bif Nat.blt i ops.size&&Gw N (oA ops i)&&jB ops ts dn i then some (E.put (oA ops i).dst (.tup []))else none
 |some true=>bif Nat.blt i ops.size&&Gw N (oA ops i)&&jB ops ts dn i&&!mv then
   (match Jl P E (oA ops i)with
   |some s=>some (E.put (oA ops i).dst s)
   |none=>bif qX ops dn [i]&&(kp (oA ops i)||ts.contains i)then CF P N mv E (oA ops i)else none)
  else bif Nat.blt i ops.size&&qX ops dn [i]&&(kp (oA ops i)||ts.contains i)then CF P N mv E (oA ops i)else none
 |none=>none
def pU (P:Program) (N:Nat) (ops:Array Oper) (ts:List Nat):List Nat->Nat->List Nat->St->Option St
 |[],_,_,E=>some E
 |i::l,m,dn,E=>match tV P N ops ts (Nat.beq (m %2) 1) dn E i with
  |some E'=>pU P N ops ts l (m/2) (i::dn) E'
  |none=>none
def cJ:List Nat->List Nat->List Nat
 |[],dn=>dn
 |i::l,dn=>cJ l (i::dn)
section
variable {ts:List Nat}
theorem KW.st (hs:tV P N ops ts mv dn E i=some E') (h:KW P N ops ts (i::dn) E' Q):KW P N ops ts dn E Q:=by
 unfold tV at hs;split at hs
 ·rename_i hg
  cases hb:(Nat.blt i ops.size&&Gw N (oA ops i)&&jB ops ts dn i)with
  |false=>rw [hb]at hs;cases hs
  |true=>
   rw [hb]at hs;simp only [Ae]at hs
   injection hs with hs
   subst hs;exact ABG i h hg hb
 ·rename_i hg;have one:(Nat.blt i ops.size&&qX ops dn [i]&&(kp (oA ops i)||ts.contains i))=true->CF P N mv E (oA ops i)=some E'->KW P N ops ts dn E Q:=by
   intro hb hs;simp only [Al]at hb;refine Bi i (Ix hs h ?_) hb.1.2;simp only [PX,hb.1.1,hg,hb.2,HN]
  cases hb:(Nat.blt i ops.size&&Gw N (oA ops i)&&jB ops ts dn i&&!mv)with
  |false=>
   rw [hb]at hs;simp only [Ab]at hs
   cases a:(Nat.blt i ops.size&&qX ops dn [i]&&(kp (oA ops i)||ts.contains i))with
   |false=>rw [a]at hs;cases hs
   |true=>rw [a]at hs;exact one a hs
  |true=>
   rw [hb]at hs;simp only [Ae]at hs;simp only [Al]at hb;split at hs
   ·rename_i s b
    injection hs with hs
    subst hs;refine AA1 i b h ?_;simp only [PX,hb.1.1.1,hb.1.1.2,hb.1.2,hg,HN]
   cases a:(qX ops dn [i]&&(kp (oA ops i)||ts.contains i))with
   |false=>rw [a]at hs;cases hs
   |true=>rw [a]at hs;exact one (by rw [hb.1.1.1,CC];exact a) hs
 cases hs
end
theorem KW.run {ts:List Nat}:∀{l:List Nat} {m:Nat} {dn:List Nat} {E E':St},pU P N ops ts l m dn E=some E'->KW P N ops ts (cJ l dn) E' Q->KW P N ops ts dn E Q
 |[],m,dn,E,E',h,hw=>by
  simp only [pU]at h
  injection h with h
  subst h;exact hw
 |i::l,m,dn,E,E',h,hw=>by
  simp only [pU]at h;split at h
  ·rename_i E1 h1;exact KW.st h1 (KW.run h hw)
  cases h
theorem AX {ts:List Nat} (l:List Nat) (m:Nat) (h:KW P N ops ts (cJ l dn) ((pU P N ops ts l m dn E).getD E) Q) (hk:(pU P N ops ts l m dn E).isSome=true:=by kernel_rfl):KW P N ops ts dn E Q:=KW.run (getD_some hk) h
theorem O6 {ts:List Nat} (t:Nat) (h:(bif b then tx else ty)=some r) (ht:tx=some r->KW P N ops ts dn (E.rs t true) Q) (hf:ty=some r->KW P N ops ts dn (E.rs t false) Q) (hc:E.slots t=B b:=by kernel_rfl):KW P N ops ts dn E Q:=AA0 h t ht hf hc
theorem AAc {id:Nat} (h:RW P N ops 0 E Q):Wp P N (.region id ops false) E Q:=by
 have:=Wp.region (id:=id) (l:=ops.toList) (P:=P) (N:=N) (E:=E) (Q:=Q) (by simpa [RW]using h);simpa using this
theorem K3 {id:Nat} (hm:P.follows .mixedOrders=true) (h:SW P N ops ops.size 0 E (λE'=>Q .normal E')) (hB:Region.lexB .any ops=true:=by kernel_rfl):Wp P N (.region id ops true) E Q:=by
 have:=SP (id:=id) (l:=ops.toList) (P:=P) (N:=N) (E:=E) (Q:=Q) hm (by simpa using hB) (by
  have h2:=h;unfold SW at h2;rw [AO (by simp)]at h2
  simpa using h2)
 simpa using this
theorem O4 {id:Nat} (n:Nat) (hm:P.follows .mixedOrders=true) (h:SW P N ops n 0 E (λE'=>RW P N ops n E' Q)) (hB:Region.lexTailB .any ops n=true:=by kernel_rfl):Wp P N (.region id ops true) E Q:=by
 have:=lT (id:=id) (l:=ops.toList) (P:=P) (N:=N) (E:=E) (Q:=Q) n hm (by simpa using hB) (by simpa [SW,RW]using h);simpa using this
theorem Dm {id:Nat} (ts:List Nat) (hm:P.follows .mixedOrders=true) (hQ:∀c E,Q (.panic c) E->False) (h:KW P N ops ts [] E Q):Wp P N (.region id ops true) E Q:=
 lW ops.size ts hm hQ (by simpa [KW,lsd]using h) rfl
def ZF (E:St) (x:Operand) (sz:Nat):Option (List TV):=match E.ref x with
 |some (r,q,j)=>match E.place r q j with
  |some (.sl _ _ s cells)=>bif Nat.beq s sz then some cells else none
  |_=>none
 |none=>none
theorem Pc {x:Operand} {a:List TV} (h:ZF E x sz=some a):∃r q j b e,E.ref x=some (r,q,j)/\E.place r q j=some (.sl b e sz a):=by
 unfold ZF at h;split at h
 ·rename_i r q j hr;split at h
  ·rename_i b e s cells' hp
   cases hs:Nat.beq s sz with
   |false=>rw [hs]at h;cases h
   |true=>
    rw [hs]at h;simp only [Ae]at h
    injection h with h
    have:=B3 hs;subst h this;exact⟨r,q,j,b,e,hr,hp⟩
  cases h
 cases h
def Yb (P:Program) (t:TypeId):TypeId:=match P.underlying t with
 |some (.slice e)=>e
 |_=>0
def VT (P:Program) (t:TypeId) (sz:Nat):Bool:=match P.underlying t with
 |some (.slice e)=>Nat.beq (P.cellsOf e) sz&&Nat.blt 0 sz
 |_=>false
theorem LZ {t:TypeId} (h:VT P t sz=true):∃e,P.underlying t=some (.slice e)/\P.cellsOf e=sz/\Nat.blt 0 sz=true:=by
 unfold VT at h;split at h
 ·rename_i e he;rw [Al]at h;exact⟨e,he,B3 h.1,h.2⟩
 cases h
def Hp (E:St) (x:Operand):Root×List Nat×Nat:=(E.ptr? x).getD (.hand,[],0)
def Ky (E:St) (x:Operand):Root×List Nat×Nat:=(E.ref x).getD (.hand,[],0)
def Q8 (E:St) (x:Operand):Option (List TV×Nat):=match E.ptr? x with
 |some (r,q,j)=>match(E.root r).bind λcs=>BY cs q with
  |some row=>some (row,j)
  |none=>none
 |none=>none
theorem Q7 {x:Operand} {a:List TV} (h:Q8 E x=some (a,j)):E.ptr? x=some ((Hp E x).1,(Hp E x).2.1,j)/\(E.root (Hp E x).1).bind (λcs=>BY cs (Hp E x).2.1)=some a:=by
 unfold Q8 at h;split at h
 ·rename_i r q j' hp;split at h
  ·rename_i row' hr
   injection h with h
   injection h with h1 h2
   subst h1 h2;simp only [Hp,hp,B6];exact⟨trivial,hr⟩
  cases h
 cases h
theorem pE {r:Root} {x:Operand} {q:List Nat} {a:List TV} (h1:E.ptr? x=some (r,q,j)) (h2:(E.root r).bind (λcs=>BY cs q)=some a):Q8 E x=some (a,j):=by
 unfold Q8;rw [h1];simp only [h2]
def F8 (o:Oper):TypeId×Operand×Operand:=match o.op with
 | .indexAddr t a i=>(t,a,i)
 |_=>(0,.tmp 0,.tmp 0)
def pX (o:Oper):Bool:=match o.op with
 | .indexAddr .. =>true
 |_=>false
theorem cW {o:Oper} (h:pX o=true):o.op= .indexAddr (F8 o).1 (F8 o).2.1 (F8 o).2.2:=by
 unfold pX at h;unfold F8;split at h
 ·rename_i h1;simp only [h1]
 cases h
def Sj (P:Program) (E:St) (x:Operand):Option Int:=match E.cell1 P 0 x with
 |some (.int _ n)=>some n
 |_=>none
theorem Ii {x:Operand} (h:Sj P E x=some n):∃k,E.cell1 P 0 x=some (.int k n):=by
 unfold Sj at h;split at h
 ·rename_i k m hc
  injection h with h
  subst h;exact⟨k,hc⟩
 cases h
def tY (P:Program) (E:St) (o:Oper) (sz:Nat):Option (List TV×Int):=bif pX o&&VT P (F8 o).1 sz then(match ZF E (F8 o).2.1 sz,Sj P E (F8 o).2.2 with
 |some c,some n=>some (c,n)
 |_,_=>none)else none
def gH (E:St) (o:Oper) (m:Nat):SV:= .one (.ptr (Ky E (F8 o).2.1).1 (E.ver (Ky E (F8 o).2.1).1) ((Ky E (F8 o).2.1).2.1++ [(Ky E (F8 o).2.1).2.2]) m)
section
variable {o:Oper} {x:α}
theorem IQ (hf:∀x,(f x).length=sz) (hx:gi l n=some x) (hc:tY P E o sz=some (AR f l,n):=by kernel_rfl):Bl P E o=some (gH E o (n.toNat*sz+0)):=by
 unfold tY at hc
 cases hb:(pX o&&VT P (F8 o).1 sz)with
 |false=>rw [hb]at hc;cases hc
 |true=>
  rw [hb]at hc;simp only [Ae]at hc;rw [Al]at hb;split at hc
  ·rename_i c n' h1 h2
   injection hc with hc
   injection hc with a b
   subst a b;obtain⟨r,q,j,d,e',h3,h4⟩:=Pc h1;obtain⟨k,h5⟩:=Ii h2;obtain⟨e,h6,h7,h8⟩:=LZ hb.2;have:=ABk hf r q j hx h4 (cW hb.1) h6 h5 h3 h7 h8;rw [this];simp only [gH,Ky,h3,B6]
  cases hc
end
section
variable {o:Oper} {x:α}
theorem sS (hf:∀x,(f x).length=sz) (hx:gi l n=some x) (hf':∀x,(f' x).length=sz') (hx':gi l' n'=some x') (k:Nat) (hi:(pX o&&VT P (F8 o).1 sz&&Nat.blt k sz')=true:=by kernel_rfl) (hn:Sj P E (F8 o).2.2=some n:=by kernel_rfl) (hr:E.ref (F8 o).2.1=some ((Ky E (F8 o).2.1).1,(Ky E (F8 o).2.1).2.1,n'.toNat*sz'+k):=by kernel_rfl) (hp:(E.root (Ky E (F8 o).2.1).1).bind (λcs=>BY cs (Ky E (F8 o).2.1).2.1)=some (AR f' l'):=by kernel_rfl) {a:Bool} (hc:(f' x')[k]?=some (.sl a e' sz (AR f l)):=by rfl):Bl P E o=some (gH E o (n.toNat*sz+0)):=by
 simp only [Al]at hi;obtain⟨k',h5⟩:=Ii hn;obtain⟨e,h6,h7,h8⟩:=LZ hi.1.2;have b:E.place (Ky E (F8 o).2.1).1 (Ky E (F8 o).2.1).2.1 (n'.toNat*sz'+k)=some (.sl a e' sz (AR f l)):=by
  obtain⟨cs,h1,h2⟩:=Ar.1 hp;simp only [St.place,h1,Aa,h2];rw [NC hf' hx' (by simpa [Bq]using hi.2),hc]
 have:=ABk hf _ _ _ hx b (cW hi.1.1) h6 h5 hr h7 h8;have hj:(Ky E (F8 o).2.1).2.2=n'.toNat*sz'+k:=BR (λz:Option (Root×List Nat×Nat)=>(z.getD (Root.hand,[],0)).2.2) hr;rw [this,gH,hj]
end
section
variable {x:α}
theorem pr2 {a:Operand} {c:List TV} (q0:Nat) (hf':∀x,(f' x).length=sz') (hx':gi l' n'=some x') (k:Nat) (h1:E.ptr? a=some ((Hp E a).1,[q0,n'.toNat*sz'+k],j):=by kernel_rfl) (hc:(E.root (Hp E a).1).bind (λcs=>BY cs [q0])=some (AR f' l'):=by kernel_rfl) (b:BY (f' x') [k]=some c:=by kernel_rfl) (hk:Nat.blt k sz'=true:=by kernel_rfl):Q8 E a=some (c,j):=by
 refine pE h1 ?_;obtain⟨cs,h2,h3⟩:=Ar.1 hc;have h4:=oL hf' hx' (q:=[]) (show k<sz' by simpa [Bq]using hk);rw [h2];simp only [Aa];simp only [BY]at h3;split at h3
 ·rename_i o' e' s' d e
  injection h3 with h3
  subst h3;simp only [BY,e];simp only [BY]at h4 b;rw [h4];exact b
 cases h3
end
def QY (o:Oper):TypeId×Operand×Nat:=match o.op with
 | .fieldAddr t a i=>(t,a,i)
 |_=>(0,.tmp 0,0)
def AAF (o:Oper):Bool:=match o.op with
 | .fieldAddr .. =>true
 |_=>false
theorem yG {o:Oper} (h:AAF o=true):o.op= .fieldAddr (QY o).1 (QY o).2.1 (QY o).2.2:=by
 unfold AAF at h;unfold QY;split at h
 ·rename_i h1;simp only [h1]
 cases h
def zY (P:Program) (o:Oper):Option Nat:=match P.underlying (QY o).1 with
 |some (.struct fs)=>match fs[(QY o).2.2]? with
  |some fd=>bif Nat.beq (P.cellsOf fd.type) 0 then none else some fd.offset
  |none=>none
 |_=>none
def ABx (E:St) (o:Oper) (m:Nat):SV:= .one (.ptr (Hp E (QY o).2.1).1 (E.stamp (Hp E (QY o).2.1).1 (Hp E (QY o).2.1).2.1) (Hp E (QY o).2.1).2.1 m)
section
variable {o:Oper} {x:α}
theorem DA (hf:∀x,(f x).length=sz) (hx:gi l n=some x) (k m:Nat) (hr:Q8 E (QY o).2.1=some (AR f l,n.toNat*sz+k):=by kernel_rfl) (ho:(AAF o&&Nat.blt m sz)=true:=by kernel_rfl) (a:zY P o=some (m-k):=by kernel_rfl) (b:Nat.ble k m=true:=by kernel_rfl):Bl P E o=some (ABx E o (n.toNat*sz+m)):=by
 rw [Al]at ho;obtain⟨h1,h2⟩:=Q7 hr;have d:k<=m:=by simpa [O5]using b
 unfold zY at a;split at a
 ·rename_i fs hs;split at a
  ·rename_i fd c
   cases hb:Nat.beq (P.cellsOf fd.type) 0 with
   |true=>rw [hb]at a;cases a
   |false=>
    rw [hb]at a;simp only [Ab]at a
    injection a with a
    have hm:k+fd.offset=m:=by omega
    exact AB7 hf _ _ k hx h2 (yG ho.1) hs h1 c hb hm (by rw [hm];exact ho.2)
  cases a
 cases a
end
def N4 (o:Oper):TypeId×Operand:=match o.op with
 | .load t a=>(t,a)
 |_=>(0,.tmp 0)
def yF (o:Oper):Bool:=match o.op with
 | .load .. =>true
 |_=>false
theorem n8 {o:Oper} (h:yF o=true):o.op= .load (N4 o).1 (N4 o).2:=by
 unfold yF at h;unfold N4;split at h
 ·rename_i h1;simp only [h1]
 cases h
def zV (P:Program) (o:Oper) (k sz:Nat):Bool:=yF o&&!Zg P (N4 o).1&&Nat.beq (P.cellsOf (N4 o).1) 1&&(P.underlying (N4 o).1).isSome&&Nat.blt k sz
def zW (P:Program) (o:Oper) (k m sz:Nat):Bool:=yF o&&Zg P (N4 o).1&&Nat.beq (P.cellsOf (N4 o).1) m&&Nat.ble (k+m) sz
def ldC (E:St) (o:Oper) (j:Nat) (u:TV):SV:= .one (see E (Hp E (N4 o).2).1 (Hp E (N4 o).2).2.1 j u)
def ldA (E:St) (o:Oper) (j:Nat) (us:List TV):SV:= .agg (Tu E (Hp E (N4 o).2).1 (Hp E (N4 o).2).2.1 j us)
section
variable {o:Oper} {x:α}
theorem CG (hf:∀x,(f x).length=sz) (hx:gi l n=some x) (k:Nat) (hr:Q8 E (N4 o).2=some (AR f l,n.toNat*sz+k):=by kernel_rfl) (ho:zV P o k sz=true:=by kernel_rfl):Bl P E o=some (ldC E o (n.toNat*sz+k) (((f x)[k]?).getD .junk)):=by
 simp only [zV,Al,CE]at ho;obtain⟨⟨⟨⟨h3,h4⟩,h5⟩,h6⟩,h7⟩:=ho;obtain⟨h1,h2⟩:=Q7 hr;have hk:k<(f x).length:=by rw [hf];simpa [Bq]using h7
 refine AB6 hf _ _ k _ hx h2 (n8 h3) h1 h4 (B3 h5) h6 h7 ?_;rw [Ac hk];rfl
end
section
variable {o:Oper} {x:α}
theorem Kz (hf:∀x,(f x).length=sz) (hx:gi l n=some x) (k m:Nat) (hr:Q8 E (N4 o).2=some (AR f l,n.toNat*sz+k):=by kernel_rfl) (ho:zW P o k m sz=true:=by kernel_rfl):Bl P E o=some (ldA E o (n.toNat*sz+k) (((f x).drop k).take m)):=by
 simp only [zW,Al]at ho;obtain⟨⟨⟨h3,h4⟩,h5⟩,h6⟩:=ho;obtain⟨h1,h2⟩:=Q7 hr;exact AB5 hf _ _ k m hx h2 (n8 h3) h1 h4 (B3 h5) h6
end
section
variable {x:α}
def Oo (o:Oper):TypeId×Operand:=match o.op with
 | .call c=>match c.callee,c.args.toList,c.argTypes.toList with
  | .builtin .len,[x],[t]=>(t,x)
  |_,_,_=>(0,.tmp 0)
 |_=>(0,.tmp 0)
end
section
variable {x:α}
def yE (o:Oper):Bool:=match o.op with
 | .call c=>match c.callee,c.args.toList,c.argTypes.toList with
  | .builtin .len,[x],[t]=>true
  |_,_,_=>false
 |_=>false
end
theorem n7 {o:Oper} (h:yE o=true):o.op= .call {callee:= .builtin .len,args:= #[(Oo o).2],argTypes:= #[(Oo o).1]}:=by
 unfold yE at h;unfold Oo;split at h
 ·rename_i c hc;split at h
  ·rename_i x t h1 h2 h3;obtain⟨callee,args,types⟩:=c;simp only at h1 h2 h3;subst h1;obtain rfl:args= #[x]:=by cases args;simp_all
   obtain rfl:types= #[t]:=by cases types;simp_all
   rw [hc]
  cases h
 cases h
section
variable {o:Oper} {x:α}
theorem CB (hf:∀x,(f x).length=sz) (l:List α) (hr:ZF E (Oo o).2 sz=some (AR f l):=by kernel_rfl) (ho:(yE o&&VT P (Oo o).1 sz)=true:=by kernel_rfl):Bl P E o=some (.one (.int .i64 (ln l))):=by
 rw [Al]at ho;obtain⟨r,q,j,a,e',h3,h4⟩:=Pc hr;obtain⟨e,h6,h7,h8⟩:=LZ ho.2;exact ABj hf l (n7 ho.1) h6 h3 h4 h8
end
section
variable {o:Oper} {x:α}
theorem ABf (hf:∀x,(f x).length=sz) (l:List α) (hf':∀x,(f' x).length=sz') (hx':gi l' n'=some x') (k:Nat) (ho:(yE o&&VT P (Oo o).1 sz&&Nat.blt k sz')=true:=by kernel_rfl) (hr:E.ref (Oo o).2=some ((Ky E (Oo o).2).1,(Ky E (Oo o).2).2.1,n'.toNat*sz'+k):=by kernel_rfl) (hp:(E.root (Ky E (Oo o).2).1).bind (λcs=>BY cs (Ky E (Oo o).2).2.1)=some (AR f' l'):=by kernel_rfl) {a:Bool} (hc:(f' x')[k]?=some (.sl a e' sz (AR f l)):=by rfl):Bl P E o=some (.one (.int .i64 (ln l))):=by
 simp only [Al]at ho;obtain⟨e,h6,h7,h8⟩:=LZ ho.1.2;have b:E.place (Ky E (Oo o).2).1 (Ky E (Oo o).2).2.1 (n'.toNat*sz'+k)=some (.sl a e' sz (AR f l)):=by
  obtain⟨cs,h1,h2⟩:=Ar.1 hp;simp only [St.place,h1,Aa,h2];rw [NC hf' hx' (by simpa [Bq]using ho.2),hc]
 exact ABj hf l (n7 ho.1.1) h6 hr b h8
end
def WT (P:Program) (E:St) (t:TypeId) (x:Operand):Option ByteArray:=match E.cell1 P t x with
 |some (.str s)=>some s
 |_=>none
theorem M5 {s:ByteArray} {t:TypeId} {x:Operand} (h:WT P E t x=some s):E.cell1 P t x=some (.str s):=by
 unfold WT at h;split at h
 ·rename_i u hu
  injection h with h
  rw [hu,h]
 cases h
def gJ (P:Program) (t:TypeId):Bool:=match P.underlying t with
 |some .string=>true
 |_=>false
theorem XD {t:TypeId} (h:gJ P t=true):P.underlying t=some .string:=by
 unfold gJ at h;split at h
 ·assumption
 cases h
def zL (P:Program) (E:St) (o:Oper):Option (ByteArray×Int):=match o.op with
 | .index t a i=>match gJ P t,WT P E t a,Sj P E i with
  |true,some s,some n=>some (s,n)
  |_,_,_=>none
 |_=>none
theorem jC {o:Oper} {s:ByteArray} {b:Int} (h:sx s n=some b) (hc:zL P E o=some (s,n):=by kernel_rfl):Bl P E o=some (.one (.int .u8 b)):=by
 unfold zL at hc;split at hc
 ·rename_i t a i ho;split at hc
  ·rename_i s' n' h1 h2 h3
   injection hc with hc
   injection hc with c d
   subst c d;obtain⟨k,h3⟩:=Ii h3;exact AB4 h ho (XD h1) (M5 h2) h3
  cases hc
 cases hc
section
variable {x:α}
def aF (P:Program) (E:St) (d:Int):Option Operand->Option Int
 |none=>some d
 |some x=>Sj P E x
end
def rL (P:Program) (E:St) (o:Oper):Option (ByteArray×Int×Int):=match o.op with
 | .slice t a lo hi none=>match gJ P t,WT P E t a with
  |true,some s=>match aF P E 0 lo,aF P E (s.size:Nat) hi with
   |some l,some h=>some (s,l,h)
   |_,_=>none
  |_,_=>none
 |_=>none
section
variable {o:Oper}
theorem P6 {d:Int} {x:Option Operand} (h:aF P E d x=some n):∃k,(match x with|some o=>E.cell1 P 0 o|none=>some (.int .i64 d))=some (.int k n):=by
 cases x with
 |none=>
  simp only [aF]at h
  injection h with h
  exact⟨.i64,by rw [h]⟩
 |some x=>exact Ii h
end
theorem UJ {o:Oper} {s u:ByteArray} {l h:Int} (hx:sub s l h=some u) (hc:rL P E o=some (s,l,h):=by kernel_rfl):Bl P E o=some (.one (.str u)):=by
 unfold rL at hc;split at hc
 ·rename_i t a lo hi ho;split at hc
  ·rename_i s' h1 h2;split at hc
   ·rename_i l' h' h3 h4
    injection hc with hc
    injection hc with c b
    injection b with b d
    subst c b d;obtain⟨k1,h3⟩:=P6 h3;obtain⟨k2,h4⟩:=P6 h4;exact ABh hx ho (XD h1) (M5 h2) h3 h4
   cases hc
  cases hc
 cases hc
section
variable {x:α}
def uU (P:Program) (E:St) (o:Oper):Option (ByteArray×ByteArray):=match o.op with
 | .binOp .add t x y _=>match WT P E t x,WT P E t y with
  |some a,some b=>some (a,b)
  |_,_=>none
 |_=>none
end
theorem EZ {o:Oper} {a b u:ByteArray} (hx:HO a b=some u) (hc:uU P E o=some (a,b):=by kernel_rfl):Bl P E o=some (.one (.str u)):=by
 unfold uU at hc;split at hc
 ·rename_i t x y t' ho;split at hc
  ·rename_i a' b' h1 h2
   injection hc with hc
   injection hc with c d
   subst c d;exact ABm hx ho (M5 h1) (M5 h2)
  cases hc
 cases hc
section
variable {x:α}
def PP (o:Oper):TypeId×TypeId×Operand:=match o.op with
 | .convert s d x=>(s,d,x)
 |_=>(0,0,.tmp 0)
end
section
variable {x:α}
def ABy (P:Program) (o:Oper):Bool:=match o.op with
 | .convert s d x=>(match P.underlying s,P.underlying d with
  |some (.slice e),some .string=>(match P.underlying e with
   |some (.int .u8)=>true
   |_=>false)
  |_,_=>false)
 |_=>false
end
theorem jD {o:Oper} {f:Int->List TV} (hf:∀n,f n=[.int .u8 n]) (l:List Int) (hr:ZF E (PP o).2.2 1=some (AR f l):=by kernel_rfl) (ho:ABy P o=true:=by kernel_rfl):Bl P E o=some (.one (.str (EG l))):=by
 obtain⟨r,q,j,b,e',h3,h4⟩:=Pc hr;unfold ABy at ho;split at ho
 ·rename_i s d x a;split at ho
  ·rename_i e hs hd;split at ho
   ·rename_i he;simp only [PP,a]at h3;exact AB9 hf l a hs hd he h3 h4
   cases ho
  cases ho
 cases ho
section
variable {x:α}
def rW (P:Program) (E:St) (o:Oper) (k:IntKind):Option (Int×Int):=match o.op with
 | .binOp .shl t x y _=>match E.cell1 P t x,E.cell1 P t y with
  |some (.int k' a),some (.int _ b)=>bif decide (k'=k)then some (a,b)else none
  |_,_=>none
 |_=>none
end
theorem AB1 {o:Oper} {a b v:Int} (hx:shl k a b=some v) (hc:rW P E o k=some (a,b):=by kernel_rfl):Bl P E o=some (.one (.int k v)):=by
 unfold rW at hc;split at hc
 ·rename_i t x y t' ho;split at hc
  ·rename_i k' a' k2 b' h1 h2
   cases hk:decide (k'=k)with
   |false=>rw [hk]at hc;cases hc
   |true=>
    rw [hk]at hc;simp only [Ae]at hc
    injection hc with hc
    injection hc with hc1 hc2
    have:=HE hk;subst hc1 hc2 this;exact ABi hx ho h1 h2
  cases hc
 cases hc
section
variable {x:α}
def O0 (o:Oper):TypeId×Operand×Option Operand×Option Operand:=match o.op with
 | .slice t x lo hi none=>(t,x,lo,hi)
 |_=>(0,.tmp 0,none,none)
end
section
variable {x:α}
def yH (o:Oper):Bool:=match o.op with
 | .slice t x lo hi none=>true
 |_=>false
end
theorem n9 {o:Oper} (h:yH o=true):o.op= .slice (O0 o).1 (O0 o).2.1 (O0 o).2.2.1 (O0 o).2.2.2 none:=by
 unfold yH at h;unfold O0;split at h
 ·rename_i h1;simp only [h1]
 cases h
def nE (E:St) (x:Operand) (sz:Nat):Option (Nat×List TV):=match E.ref x with
 |some (r,q,j)=>match E.place r q j with
  |some (.sl false e s cells)=>bif Nat.beq s sz then some (e,cells)else none
  |_=>none
 |none=>none
theorem Xq {x:Operand} {a:List TV} {e:Nat} (h:nE E x sz=some (e,a)):∃r q j,E.ref x=some (r,q,j)/\E.place r q j=some (.sl false e sz a):=by
 unfold nE at h;split at h
 ·rename_i r q j hr;split at h
  ·rename_i e' s cells' hp
   cases hs:Nat.beq s sz with
   |false=>rw [hs]at h;cases h
   |true=>
    rw [hs]at h;simp only [Ae]at h
    injection h with h
    injection h with h1 h2
    have:=B3 hs;subst h1 h2 this;exact⟨r,q,j,hr,hp⟩
  cases h
 cases h
section
variable {o:Oper} {x:α}
theorem pdr (hf:∀x,(f x).length=sz) {v:List α} {a b:Int} (e:Nat) (hx:dr l a b=some v) (hr:nE E (O0 o).2.1 sz=some (e,AR f l):=by kernel_rfl) (ha:aF P E 0 (O0 o).2.2.1=some a:=by kernel_rfl) (hb:((O0 o).2.2.2.bind (Sj P E))=some b:=by kernel_rfl) (ho:(yH o&&VT P (O0 o).1 sz)=true:=by kernel_rfl):Bl P E o=some (.one (.sl false e sz (AR f v))):=by
 rw [Al]at ho;obtain⟨r,q,j,h1,h2⟩:=Xq hr;obtain⟨e1,h6,h7,h8⟩:=LZ ho.2;obtain⟨k1,h3⟩:=P6 ha;obtain⟨oh,h4,h5⟩:=Ar.1 hb;obtain⟨k2,h5⟩:=Ii h5;have:=n9 ho.1;rw [h4]at this;exact AB8 hf hx this h6 h1 h2 h3 h5 h7 h8
end
section
variable {o:Oper} {x:α}
theorem AAv (hf:∀x,(f x).length=sz) {v:List α} {a:Int} (e:Nat) (hx:dr l a (ln l)=some v) (hr:nE E (O0 o).2.1 sz=some (e,AR f l):=by kernel_rfl) (ha:aF P E 0 (O0 o).2.2.1=some a:=by kernel_rfl) (ho:(yH o&&VT P (O0 o).1 sz&&(O0 o).2.2.2.isNone)=true:=by kernel_rfl):Bl P E o=some (.one (.sl false e sz (AR f v))):=by
 simp only [Al]at ho;obtain⟨r,q,j,h1,h2⟩:=Xq hr;obtain⟨e1,h6,h7,h8⟩:=LZ ho.1.2;obtain⟨k1,h3⟩:=P6 ha;have:=n9 ho.1.1;rw [Option.isNone_iff_eq_none.1 ho.2]at this;exact ABl hf hx this h6 h1 h2 h3 h7 h8
end
def ABb (P:Program) (E:St) (o:Oper) (m:Nat):Bool:=match P.underlying (F8 o).1 with
 |some (.array len e)=>pX o&&Nat.beq (P.cellsOf e) 1&&Nat.blt m len&&(match E.ptr? (F8 o).2.1 with
  |some (r,q,j)=>(E.place r q (j+m)).isSome
  |none=>false)
 |_=>false
def zJ (E:St) (o:Oper) (m:Nat):SV:= .one (.ptr (Hp E (F8 o).2.1).1 (E.stamp (Hp E (F8 o).2.1).1 (Hp E (F8 o).2.1).2.1) (Hp E (F8 o).2.1).2.1 ((Hp E (F8 o).2.1).2.2+m))
theorem pxa {o:Oper} (m:Nat) (hn:n=(m:Int)) (hi:Sj P E (F8 o).2.2=some n:=by kernel_rfl) (ho:ABb P E o m=true:=by kernel_rfl):Bl P E o=some (zJ E o m):=by
 unfold ABb at ho;split at ho
 ·rename_i len e ht;simp only [Al]at ho;obtain⟨⟨⟨h1,h2⟩,h3⟩,h4⟩:=ho;obtain⟨k,hi⟩:=Ii hi;split at h4
  ·rename_i r q j hp;have:=AB3 r q j hn (cW h1) ht hi hp (B3 h2) h3 h4;rw [this];simp only [zJ,Hp,hp,B6]
  cases h4
 cases ho
section
variable {x:α}
def Hb (o:Oper):TypeId×TypeId×Operand×Operand:=match o.op with
 | .call c=>match c.callee,c.args.toList,c.argTypes.toList with
  | .builtin .append,[s,x],[t,t']=>(t,t',s,x)
  |_,_,_=>(0,0,.tmp 0,.tmp 0)
 |_=>(0,0,.tmp 0,.tmp 0)
end
section
variable {x:α}
def yJ (o:Oper):Bool:=match o.op with
 | .call c=>match c.callee,c.args.toList,c.argTypes.toList with
  | .builtin .append,[s,x],[t,t']=>true
  |_,_,_=>false
 |_=>false
end
theorem oB {o:Oper} (h:yJ o=true):o.op= .call {callee:= .builtin .append,args:= #[(Hb o).2.2.1,(Hb o).2.2.2],argTypes:= #[(Hb o).1,(Hb o).2.1]}:=by
 unfold yJ at h;unfold Hb;split at h
 ·rename_i c hc;split at h
  ·rename_i s x t t' h1 h2 h3;obtain⟨callee,args,types⟩:=c;simp only at h1 h2 h3;subst h1;obtain rfl:args= #[s,x]:=by cases args;simp_all
   obtain rfl:types= #[t,t']:=by cases types;simp_all
   rw [hc]
  cases h
 cases h
def yY (P:Program) (N:Nat) (o:Oper) (sz by_:Nat):Bool:=yJ o&&Nat.beq (Hb o).1 (Hb o).2.1&&VT P (Hb o).1 sz&&(KV P (Yb P (Hb o).1)).isSome&&Nat.beq (P.bytesOf (Yb P (Hb o).1)) by_&&Nat.blt 0 by_&&Gw N o
def VN (P:Program) (E:St) (o:Oper) (sz:Nat):Option (List TV×St):=match E.cell1 P (Hb o).1 (Hb o).2.2.1 with
 |some sv=>match DL E sv with
  |some (.sl true e s cells,E1)=>bif Nat.beq e (Yb P (Hb o).1)&&Nat.beq s sz then some (cells,E1)else none
  |_=>none
 |none=>none
def apE (P:Program) (E:St) (o:Oper) (sz:Nat):St:=((VN P E o sz).map Prod.snd).getD E
def apV (P:Program) (o:Oper) (sz:Nat) (a:List TV):SV:= .one (.sl true (Yb P (Hb o).1) sz a)
def vD (P:Program) (E1:St) (o:Oper) (sz:Nat):Option (Nat×List TV×St):=match E1.ref (Hb o).2.2.2 with
 |some (r,q,j)=>match E1.place r q j with
  |some (.sl _ _ s cells)=>bif Nat.beq s sz then(match Fg E1 (Tu E1 r (q++ [j]) 0 cells)with
   |some (news,E2)=>some (cells.length,news,E2)
   |none=>none)else none
  |_=>none
 |none=>none
theorem dU {t:TypeId} {e:TypeId} (h:P.underlying t=some (.slice e)):Yb P t=e:=by unfold Yb;rw [h]
section
variable {o:Oper} {x:α}
theorem ABw {E2:St} {r:Root} {e2:Nat} {cells2:List TV} (hf:∀x,(f x).length=sz) (l m:List α) (h:ap by_ l m=some u) (hd:VN P E o sz=some (AR f l,E1)) {q:List Nat} {g:Bool} (hr:E1.ref (Hb o).2.2.2=some (r,q,j)) (hp:E1.place r q j=some (.sl g e2 sz cells2)) (hn:Fg E1 (Tu E1 r (q++ [j]) 0 cells2)=some (AR f m,E2)) (hl:cells2.length=m.length*sz) (ho:yY P N o sz by_=true):CF P N false E o=some (E2.put o.dst (apV P o sz (AR f u))):=by
 obtain⟨rfl,i⟩:=yX h;simp only [yY,Al]at ho;obtain⟨⟨⟨⟨⟨⟨a1,a2⟩,a3⟩,a4⟩,a5⟩,a6⟩,a7⟩:=ho;obtain⟨d,a8,_,a9⟩:=ES a7;obtain⟨e,b1,b2,b3⟩:=LZ a3;have a:=dU b1;rw [a]at a4 a5;have h0':0<sz:=by simpa [Bq]using b3
 have hb0':0<by_:=by simpa [Bq]using a6
 have hb:=B3 a5;have k:=B3 a2;unfold VN at hd;rw [a]at hd;split at hd
 ·rename_i sv hs;split at hd
  ·rename_i e1 s n E1' h1
   cases hc:(Nat.beq e1 e&&Nat.beq s sz)with
   |false=>rw [hc]at hd;cases hd
   |true=>
    rw [hc]at hd;simp only [Ae]at hd
    injection hd with hd
    injection hd with hd1 hd2
    rw [Al]at hc;have c1:=B3 hc.1;have c2:=B3 hc.2;subst hd1 hd2 c1 c2;have b:(AR f l).length/s=l.length:=by rw [Fu hf];exact Fk _ h0'
    have c:cells2.length/s=m.length:=by rw [hl];exact Fk _ h0'
    have p:l.length+m.length<=(l.length+m.length)*by_:=Nat.le_mul_of_pos_right _ hb0';unfold CF;rw [a8];simp only [Ax a9,oB a1,Ax k,My,b1,hs,h1,hr,hp,hn];rw [Ax ⟨trivial,b2.symm,trivial,h0',a4,by rw [b,c];omega,by rw [b,c,hb];exact i⟩,VH,apV,a]
  cases hd
 cases hd
end
theorem Yr {o:Oper} {a:List TV} (h:(VN P E o sz).map Prod.fst=some a):VN P E o sz=some (a,apE P E o sz):=by
 unfold apE
 cases hx:VN P E o sz with
 |none=>rw [hx]at h;cases h
 |some z=>
  rw [hx]at h;simp only [B9]at h
  injection h with h
  subst h;rfl
section
variable {o:Oper} {x:α}
theorem CY {m:List α} (hf:∀x,(f x).length=sz) (hg:∀x,Jd (f x)=true) (l:List α) (h:ap by_ l m=some u) (hd:(VN P E o sz).map Prod.fst=some (AR f l):=by kernel_rfl) (hm:ZF (apE P E o sz) (Hb o).2.2.2 sz=some (AR f m):=by kernel_rfl) (ho:yY P N o sz by_=true:=by kernel_rfl):
  CF P N false E o=some ((apE P E o sz).put o.dst (apV P o sz (AR f u))):=by
 obtain⟨r,q,j,a,e,h1,h2⟩:=Pc hm;exact ABw hf l m h (Yr hd) h1 h2 (by rw [WZ _ (S6 hg m),PN (S6 hg m)]) (Fu hf m) ho
end
section
variable {o:Oper} {x:α}
theorem Va (hf:∀x,(f x).length=sz) (l m:List α) (h:ap by_ l m=some u) (hd:(VN P E o sz).map Prod.fst=some (AR f l):=by kernel_rfl) (hm:(vD P (apE P E o sz) o sz).map (λz=>(z.1,z.2.1))=some (m.length*sz,AR f m):=by kernel_rfl) (ho:yY P N o sz by_=true:=by kernel_rfl):
  CF P N false E o=some ((((vD P (apE P E o sz) o sz).map (λz=>z.2.2)).getD E).put o.dst (apV P o sz (AR f u))):=by
 have hd':=Yr hd;generalize hE:apE P E o sz=E1 at hm hd'⊢;unfold vD at hm⊢
 cases hr:E1.ref (Hb o).2.2.2 with
 |none=>simp only [hr]at hm;cases hm
 |some z=>
  obtain⟨r,q,j⟩:=z;simp only [hr]at hm⊢
  cases hp:E1.place r q j with
  |none=>simp only [hp]at hm;cases hm
  |some t=>
   simp only [hp]at hm⊢
   cases t with
   |sl own e2 s cells=>
    simp only at hm⊢
    cases hb:Nat.beq s sz with
    |false=>rw [hb]at hm;cases hm
    |true=>
     rw [hb]at hm;simp only [Ae]at hm⊢;have:=B3 hb;subst this
     cases hn:Fg E1 (Tu E1 r (q++ [j]) 0 cells)with
     |none=>simp only [hn]at hm;cases hm
     |some y=>
      obtain⟨news,E2⟩:=y;simp only [hn,B9]at hm⊢
      injection hm with hm
      injection hm with hm1 hm2
      subst hm2;exact ABw hf l m h hd' hr hp hn hm1 ho
   |_=>simp only at hm;cases hm
end
def Si (o:Oper):TypeId×Operand×Operand:=match o.op with
 | .makeSlice t l c=>(t,l,c)
 |_=>(0,.tmp 0,.tmp 0)
def AAE (o:Oper):Bool:=match o.op with
 | .makeSlice .. =>true
 |_=>false
theorem yD {o:Oper} (h:AAE o=true):o.op= .makeSlice (Si o).1 (Si o).2.1 (Si o).2.2:=by
 unfold AAE at h;unfold Si;split at h
 ·rename_i h1;simp only [h1]
 cases h
def ABp (P:Program) (N:Nat) (o:Oper) (sz by_:Nat):Bool:=AAE o&&VT P (Si o).1 sz&&Nat.beq (P.bytesOf (Yb P (Si o).1)) by_&&Gw N o
section
variable {o:Oper} {x:α}
theorem vY (hf:∀x,(f x).length=sz) (z:α) (h:mk by_ z n=some u) (hl:Sj P E (Si o).2.1=some n:=by kernel_rfl) (hc:Sj P E (Si o).2.2=some n:=by kernel_rfl) (hz:KV P (Yb P (Si o).1)=some (f z):=by kernel_rfl) (ho:ABp P N o sz by_=true:=by kernel_rfl):
  CF P N false E o=some (E.put o.dst (.one (.sl true (Yb P (Si o).1) sz (AR f u)))):=by
 simp only [ABp,Al]at ho;obtain⟨⟨⟨a1,a2⟩,a3⟩,a4⟩:=ho;obtain⟨d,a5,a6,_⟩:=ES a4;obtain⟨e,b1,b2,b3⟩:=LZ a2;have a:=dU b1;rw [a]at hz a3⊢;obtain⟨k1,hl⟩:=Ii hl;obtain⟨k2,hc⟩:=Ii hc;rw [a5];exact ABZ z h (yD a1) a5 a6 b1 hl hc hz rfl (B3 a3) b2
end
def AAD (o:Oper):Bool:=match o.op with
 | .convert .. =>true
 |_=>false
theorem yC {o:Oper} (h:AAD o=true):o.op= .convert (PP o).1 (PP o).2.1 (PP o).2.2:=by
 unfold AAD at h;unfold PP;split at h
 ·rename_i h1;simp only [h1]
 cases h
def ABd (P:Program) (N:Nat) (o:Oper):Bool:=AAD o&&gJ P (PP o).1&&VT P (PP o).2.1 1&&gI P (Yb P (PP o).2.1)&&Gw N o
theorem fsb {o:Oper} {f:Int->List TV} {b:ByteArray} (hf:∀n,f n=[.int .u8 n]) (hx:WT P E (PP o).1 (PP o).2.2=some b) (ho:ABd P N o=true:=by kernel_rfl):CF P N false E o=some (E.put o.dst (.one (.sl false (Yb P (PP o).2.1) 1 (AR f (jU b))))):=by
 simp only [ABd,Al]at ho;obtain⟨⟨⟨⟨a1,a2⟩,a3⟩,a4⟩,a5⟩:=ho;obtain⟨d,a6,a7,_⟩:=ES a5;obtain⟨e,b1,b2,b3⟩:=LZ a3;have a:=dU b1;rw [a]at a4⊢;rw [a6];exact ABY hf (yC a1) a6 a7 (XD a2) b1 (M5 hx) a4
section
variable {x:α}
def Qk (o:Oper):TypeId×Operand×Operand:=match o.op with
 | .store t a x=>(t,a,x)
 |_=>(0,.tmp 0,.tmp 0)
end
def AAC (o:Oper):Bool:=match o.op with
 | .store .. =>o.dst.isNone
 |_=>false
theorem yB {o:Oper} (h:AAC o=true):o.op= .store (Qk o).1 (Qk o).2.1 (Qk o).2.2/\o.dst=none:=by
 unfold AAC at h;unfold Qk;split at h
 ·rename_i h1;simp only [h1];exact⟨trivial,Option.isNone_iff_eq_none.1 h⟩
 cases h
def U6 (P:Program) (E:St) (o:Oper):Option (List TV×St):=match E.val P (Qk o).1 (Qk o).2.2 with
 |some s=>LG E s
 |none=>none
def rO (P:Program) (E:St) (o:Oper):List TV:=((U6 P E o).map Prod.fst).getD []
def jN (P:Program) (E:St) (o:Oper):St:=((U6 P E o).map Prod.snd).getD E
def vV (P:Program) (E:St) (o:Oper):Root×List Nat×Nat:=Hp (jN P E o) (Qk o).2.1
def oW (P:Program) (E:St) (o:Oper) (k sz:Nat):Bool:=AAC o&&(U6 P E o).isSome&&Nat.beq (rO P E o).length (P.cellsOf (Qk o).1)&&Nat.blt 0 (rO P E o).length&&Nat.ble (k+(rO P E o).length) sz
section
variable {o:Oper} {x:α}
theorem ABr {r:Root} (hf:∀x,(f x).length=sz) (hx:gi l n=some x) (k:Nat) {c:Nat} {q:List Nat} {cs cs':List TV} (ho:oW P E o k sz=true) (hp:(jN P E o).ptr? (Qk o).2.1=some (r,c::q,n.toNat*sz+k)) (hr:(jN P E o).root r=some cs) (A:At cs (c::q) (AR f l) (λa=>setRow a (n.toNat*sz+k) (rO P E o)) cs'):CF P N false E o=some (((jN P E o).setRoot r cs').bump r):=by
 simp only [oW,Al]at ho;obtain⟨⟨⟨⟨a1,a2⟩,a3⟩,a4⟩,a5⟩:=ho;obtain⟨b1,b2⟩:=yB a1;have ht:U6 P E o=some (rO P E o,jN P E o):=by
  unfold rO jN
  cases hh:U6 P E o with
  |none=>rw [hh]at a2;cases a2
  |some z=>rfl
 generalize hX:rO P E o=xs at*;generalize hE:jN P E o=E1 at*;unfold U6 at ht;split at ht
 ·rename_i s hs;have h0':0<xs.length:=by simpa [Bq]using a4
  simp only [CF,b2,b1,Uf,hs,ht,hp,hr,A.c];rw [Ax ⟨A.o,B3 a3,h0',AAI hf hx a5⟩,Ay (by simp),A.u]
 cases ht
end
section
variable {o:Oper}
def wP (E:St) (r:Root) (c:Nat) (a:List TV):List TV:=match E.root r with
 |some cs=>match cs[c]? with
  |some (.sl o e s _)=>cs.set c (.sl o e s a)
  |_=>cs
 |none=>[]
end
def QC (E:St) (r:Root) (c:Nat):Option (List TV):=match E.root r with
 |some cs=>match cs[c]? with
  |some (.sl true e s row)=>some row
  |_=>none
 |none=>none
theorem QB {r:Root} {c:Nat} {a:List TV} (h:QC E r c=some a):∃cs e s,E.root r=some cs/\cs[c]?=some (.sl true e s a)/\∀row',wP E r c row'=cs.set c (.sl true e s row'):=by
 unfold QC at h;unfold wP;split at h
 ·rename_i cs hr;split at h
  ·rename_i e s row' hc
   injection h with h
   subst h;exact⟨cs,e,s,hr,hc,λrow''=>by simp only [hc]⟩
  cases h
 cases h
section
variable {o:Oper} {x:α}
theorem Ko (hf:∀x,(f x).length=sz) (hx:gi l n=some x) (k c:Nat) (z:α) (ho:oW P E o k sz=true:=by kernel_rfl) (hp:(jN P E o).ptr? (Qk o).2.1=some ((vV P E o).1,[c],n.toNat*sz+k):=by kernel_rfl) (hr:QC (jN P E o) (vV P E o).1 c=some (AR f l):=by kernel_rfl) (hz:setRow (f x) k (rO P E o)=f z:=by kernel_rfl):CF P N false E o=some (((jN P E o).setRoot (vV P E o).1 (wP (jN P E o) (vV P E o).1 c (AR f (si l n z)))).bump (vV P E o).1):=by
 obtain⟨cs,e,s,h1,h2,h3⟩:=QB hr;refine ABr hf hx k ho hp h1 ?_;rw [h3];have hk:Nat.ble (k+(rO P E o).length) sz=true:=by
  simp only [oW,Al]at ho;exact ho.2
 exact At.one (U7 hf hx hk hz) h2 rfl
end
section
variable {o:Oper} {x:α}
theorem yN (hf:∀x,(f x).length=sz) (hx:gi l n=some x) (k c:Nat) (z:α) (hf':∀x,(f' x).length=sz') (hx':gi l' n'=some x') (k':Nat) (z':α') (ho:(oW P E o k sz&&Nat.blt k' sz')=true:=by kernel_rfl) (hp:(jN P E o).ptr? (Qk o).2.1=some ((vV P E o).1,[c,n'.toNat*sz'+k'],n.toNat*sz+k):=by kernel_rfl) (hr:QC (jN P E o) (vV P E o).1 c=some (AR f' l'):=by kernel_rfl) (hz:setRow (f x) k (rO P E o)=f z:=by kernel_rfl) {e s:Nat} (hc:(f' x')[k']?=some (.sl true e s (AR f l)):=by rfl) (hc':(f' x').set k' (.sl true e s (AR f (si l n z)))=f' z':=by rfl):CF P N false E o=some (((jN P E o).setRoot (vV P E o).1 (wP (jN P E o) (vV P E o).1 c (AR f' (si l' n' z')))).bump (vV P E o).1):=by
 obtain⟨cs,e1,s1,h1,h2,h3⟩:=QB hr;rw [Al]at ho;refine ABr hf hx k ho.1 hp h1 ?_;rw [h3];have hk:Nat.ble (k+(rO P E o).length) sz=true:=by
  have:=ho.1;simp only [oW,Al]at this;exact this.2
 exact ABI hf' hx' (At.one (U7 hf hx hk hz) hc hc') ho.2 h2 rfl
end
theorem KB.o {ops:Array Oper} {ts dn:List Nat} (mv:Bool) (h:KW P N ops ts (i::dn) ((CF P N mv E (oA ops i)).getD E) Q) (hs:(CF P N mv E (oA ops i)).isSome=true:=by kernel_rfl) (hk:(PX P ops E i&&(kp (oA ops i)||ts.contains i))=true:=by kernel_rfl):KB P N ops ts dn i E Q:=Ix (getD_some hs) h hk
def bits:Nat->List (TypeId×Operand)->List (Bool×TypeId×Operand)
 |_,[]=>[]
 |m,(t,x)::l=>(Nat.beq (m %2) 1,t,x)::bits (m/2) l
def O1 (o:Oper):Nat:=match o.op with
 | .call c=>match c.callee with
  | .value (.func f)=>f
  |_=>0
 |_=>0
def Gr (o:Oper):List (TypeId×Operand):=match o.op with
 | .call c=>c.argTypes.toList.zip c.args.toList
 |_=>[]
def Sa (P:Program) (N:Nat) (o:Oper):Bool:=(match o.op with
 | .call c=>match c.callee with
  | .value (.func f)=>Nat.beq c.argTypes.size c.args.size&&(match P.funcs[f]? with
   | some fn => !(fn.name == "runtime.NumGoroutine") && !fn.body.isNone
   |none=>false)
  |_=>false
 |_=>false)&&(match o.dst with
 |some d=>Nat.blt d N
 |none=>true)
theorem O3:∀{l:List (TypeId×Operand)} {m:Nat},(bits m l).map (λx=>x.2.2)=l.map Prod.snd
 |[],m=>rfl
 |(t,x)::l,m=>by simp only [bits,Cb,O3]
theorem NF {o:Oper} (h:Sa P N o=true):∃args tys,o.op= .call {callee:= .value (.func (O1 o)),args:=args,argTypes:=tys}/\Zd P (O1 o)/\(∀d,o.dst=some d->d<N)/\(Gr o).map Prod.snd=args.toList:=by
 simp only [Sa,Al]at h;obtain⟨h1,h2⟩:=h;have hN:∀d,o.dst=some d->d<N:=by
  intro d hd;rw [hd]at h2;simpa [Bq]using h2
 unfold O1 Gr;split at h1
 ·rename_i c hc;split at h1
  ·rename_i f a;rw [Al]at h1;obtain⟨h3,h4⟩:=h1;split at h4
   ·rename_i fn b;simp only [Al,CE]at h4;obtain⟨callee,args,types⟩:=c;simp only at a h3;subst a;have hz:=B3 h3;refine⟨args,types,by simp only [hc],?_,hN,?_⟩
    ·exact⟨fn,b,by intro e;rw [e]at h4;simp at h4,h4.2⟩
    exact List.map_snd_zip (by simp [hz])
   cases h4
  cases h1
 cases h1
def mvA (P:Program) (E:St) (o:Oper) (m:Nat):Option (List (Option SV)×St):=LL P E (bits m (Gr o))
def vZ (P:Program) (E:St) (o:Oper) (m:Nat):St:=((mvA P E o m).map Prod.snd).getD E
def shA (P:Program) (E:St) (o:Oper) (m:Nat):Option (List AV×Bool):=match mvA P E o m with
 |some (ss,E1)=>IT P E1 (bits m (Gr o)) ss
 |none=>none
def YD (P:Program) (E:St) (o:Oper) (m:Nat):Option (List AV):=(shA P E o m).map Prod.fst
def vW (P:Program) (E:St) (o:Oper) (m:Nat):Bool:=match shA P E o m with
 |some (_,b)=>b
 |none=>false
theorem uO {o:Oper} {a:SV} (h:YD P E o m=some as) (hc:vW P E o m=true\/Bh a=false):W4 P E o.dst (bits m (Gr o)) as a ((vZ P E o m).put o.dst a):=by
 unfold YD vW shA at*;unfold vZ
 cases hm:mvA P E o m with
 |none=>rw [hm]at h;cases h
 |some z=>
  obtain⟨ss,E1⟩:=z;rw [hm]at h hc;simp only at h hc
  cases hs:IT P E1 (bits m (Gr o)) ss with
  |none=>rw [hs]at h;cases h
  |some y=>
   obtain⟨as',c⟩:=y;rw [hs]at h hc;simp only [B9]at h hc
   injection h with h
   subst h;exact⟨ss,E1,c,hm,hs,hc,rfl⟩
theorem ca {γ:Type _} {l l':List γ} {a b:γ} (h:a=b) (k:l=l'):a::l=b::l':=by rw [h,k]
theorem cs {e sz:Nat} {a b:List TV} (h:BK a=b):TV.sl false e sz (BK a)= .sl false e sz b:=by rw [h]
theorem co {a b:TV} (h:a=b):AV.sv (.one a)= .sv (.one b):=by rw [h]
theorem Rc {a b:List TV} (h:a=b):AV.sv (.agg a)= .sv (.agg b):=by rw [h]
theorem RW.c {l:List AV} {n:Nat} {x:Option α} (m:Nat) (h:x.bind kk=some r) {enc:α->SV} (a:∀v,x=some v->AL P (O1 (oA ops i)) l (enc v) (List.replicate n .gone)) (hk:∀v,x=some v->kk v=some r->RW P N ops (i+1) ((vZ P E (oA ops i) m).put (oA ops i).dst (enc v)) Q) (b:YD P E (oA ops i) m=some l:=by kernel_rfl) (hc:vW P E (oA ops i) m=true\/∀v,Bh (enc v)=false:=by exact .inl (by kernel_rfl)) (ho:(PX P ops E i&&Sa P N (oA ops i))=true:=by kernel_rfl):RW P N ops i E Q:=by
 obtain⟨v,hv,h⟩:=Ar.1 h;rw [Al]at ho;obtain⟨h1,h2⟩:=HD ho.1;obtain⟨args,tys,h3,h4,h5,h6⟩:=NF ho.2;unfold RW;rw [G3 h1];exact He.call h3 h4 h2 h5 (bits m (Gr (oA ops i))) (by rw [O3,h6]) (a v hv) (uO b (hc.imp id (λh=>h v))) (hk v hv h)
section
variable {ts:List Nat}
theorem KB.c {l:List AV} {n:Nat} {x:Option α} (m:Nat) (h:x.bind kk=some r) {enc:α->SV} (a:∀v,x=some v->AL P (O1 (oA ops i)) l (enc v) (List.replicate n .gone)) (hk:∀v,x=some v->kk v=some r->KW P N ops ts (i::dn) ((vZ P E (oA ops i) m).put (oA ops i).dst (enc v)) Q) (b:YD P E (oA ops i) m=some l:=by kernel_rfl) (hc:vW P E (oA ops i) m=true\/∀v,Bh (enc v)=false:=by exact .inl (by kernel_rfl)) (ho:(PX P ops E i&&Sa P N (oA ops i)&&((bits m (Gr (oA ops i))).all (λx=>!x.1)||ts.contains i))=true:=by kernel_rfl):KB P N ops ts dn i E Q:=by
 obtain⟨v,hv,h⟩:=Ar.1 h;simp only [Al]at ho;obtain⟨h1,h2⟩:=HD ho.1.1;obtain⟨args,tys,h3,h4,h5,h6⟩:=NF ho.1.2;exact aV.call i (I9 h1) h3 h4 h2 h5 (bits m (Gr (oA ops i))) (by rw [O3,h6]) ho.2 (a v hv) (uO b (hc.imp id (λh=>h v))) (hk v hv h)
end
theorem gs {f:FuncId} {l l':List AV} {n:Nat} {x:Option α} {enc:α->SV} (e:l=l') (h:∀v,x=some v->AL P f l' (enc v) (List.replicate n .gone)):∀v,x=some v->AL P f l (enc v) (List.replicate n .gone):=e▸h
def iB (E:St) (o:Oper):Root:=match Gr o with
 |(_,x)::_=>(Hp E x).1
 |[]=> .hand
def qI (E:St) (o:Oper):Bool:=match Gr o with
 |(_,x)::_=>(match E.ptr? x with
  |some (r,[],0)=>r.mem
  |_=>false)
 |[]=>false
def cxA (P:Program) (E:St) (o:Oper):Option (List AV×Bool):=IT P (E.without (iB E o)) (bits 0 (Gr o).tail) (List.replicate (bits 0 (Gr o).tail).length none)
def qJ (P:Program) (E:St) (o:Oper):Option (List AV):=(cxA P E o).map Prod.fst
def cxB (P:Program) (E:St) (o:Oper):Bool:=match cxA P E o with
 |some (_,b)=>b
 |none=>false
theorem z7 {o:Oper} (h:qI E o=true):∃t x l,Gr o=(t,x)::l/\E.ptr? x=some (iB E o,[],0)/\(iB E o).mem=true:=by
 unfold qI at h;unfold iB;split at h
 ·rename_i t x l hl;split at h
  ·rename_i r hp;refine⟨t,x,l,hl,?_,?_⟩
   ·simp only [Hp,hp,B6]
   simpa only [Hp,hp,B6]using h
  cases h
 cases h
theorem uQ {p:Prop} {o:Oper} (h:qJ P E o=some as) (hc:cxB P E o=true\/p):∃c,IT P (E.without (iB E o)) (bits 0 (Gr o).tail) (List.replicate (bits 0 (Gr o).tail).length none)=some (as,c)/\(c=true\/p):=by
 unfold qJ cxB at*
 cases hs:cxA P E o with
 |none=>rw [hs]at h;cases h
 |some y=>
  obtain⟨as',c⟩:=y;rw [hs]at h hc;simp only [B9]at h hc
  injection h with h
  subst h;exact⟨c,hs,hc⟩
theorem ABF {l:List AV} {n:Nat} {x:Option α} (h:x.bind kk=some r) {enc:α->SV} {b:List TV} (e:∀v,x=some v->AL P (O1 (oA ops i)) (.ext b::l) (enc v) (.ext (fin v)::List.replicate n .gone)) (d:∀v,(fin v).length=b.length) (hk:∀v,x=some v->kk v=some r->RW P N ops (i+1) (((E.setRoot (iB E (oA ops i)) (fin v)).bump (iB E (oA ops i))).put (oA ops i).dst (enc v)) Q) (f:qJ P E (oA ops i)=some l:=by kernel_rfl) (hb:E.boxes (iB E (oA ops i))=some b:=by kernel_rfl) (hc:cxB P E (oA ops i)=true\/∀v,Bh (enc v)=false/\AF (fin v)=false:=by exact .inl (by kernel_rfl)) (ho:(PX P ops E i&&Sa P N (oA ops i)&&qI E (oA ops i))=true:=by kernel_rfl):RW P N ops i E Q:=by
 obtain⟨v,hv,h⟩:=Ar.1 h;simp only [Al]at ho;obtain⟨h1,h2⟩:=HD ho.1.1;obtain⟨args,tys,h3,h4,h5,h6⟩:=NF ho.1.2;obtain⟨t,x0,l0,h7,h8,h9⟩:=z7 ho.2;obtain⟨c,h10,h11⟩:=uQ f hc;unfold RW;rw [G3 h1];intro w0 FA UA w a blk FS US hr hF hU;simp only [wpList,Cp hr h2,BW];refine .inl (iI hr hF hU h3 h4 h5 (x:=x0) (l:=bits 0 (Gr (oA ops i)).tail) ?_ h9 h8 hb (d v) h10 (h11.imp id (λh=>h v)) (e v hv) λw' v' blk' FS' US' k1 k2 k3=>hk v hv h _ _ _ _ _ _ _ _ k1 k2 k3);rw [O3,<-h6,h7];rfl
theorem ABH {ts:List Nat} {l:List AV} {n:Nat} {x:Option α} (h:x.bind kk=some r) {enc:α->SV} {b:List TV} (e:∀v,x=some v->AL P (O1 (oA ops i)) (.ext b::l) (enc v) (.ext (fin v)::List.replicate n .gone)) (d:∀v,(fin v).length=b.length) (hk:∀v,x=some v->kk v=some r->KW P N ops ts (i::dn) (((E.setRoot (iB E (oA ops i)) (fin v)).bump (iB E (oA ops i))).put (oA ops i).dst (enc v)) Q) (f:qJ P E (oA ops i)=some l:=by kernel_rfl) (hb:E.boxes (iB E (oA ops i))=some b:=by kernel_rfl) (hc:cxB P E (oA ops i)=true\/∀v,Bh (enc v)=false/\AF (fin v)=false:=by exact .inl (by kernel_rfl)) (ho:(PX P ops E i&&Sa P N (oA ops i)&&qI E (oA ops i)&&ts.contains i)=true:=by kernel_rfl):KB P N ops ts dn i E Q:=by
 obtain⟨v,hv,h⟩:=Ar.1 h;simp only [Al]at ho;obtain⟨h1,h2⟩:=HD ho.1.1.1;obtain⟨args,tys,h3,h4,h5,h6⟩:=NF ho.1.1.2;obtain⟨t,x0,l0,h7,h8,h9⟩:=z7 ho.1.2;obtain⟨c,h10,h11⟩:=uQ f hc;intro w0 FA UA w a blk FS US hr hF hU;unfold wpOp;simp only [I9 h1,Cp hr h2,BW];refine .inl (iI hr hF hU h3 h4 h5 (x:=x0) (l:=bits 0 (Gr (oA ops i)).tail) ?_ h9 h8 hb (d v) h10 (h11.imp id (λh=>h v)) (e v hv) λw' v' blk' FS' US' k1 k2 k3=>⟨λht=>(by rw [ho.2]at ht;cases ht),_,_,_,_,hk v hv h,k1,k2,k3⟩);rw [O3,<-h6,h7];rfl
theorem wc {c:Operand} {x y:Code} (h:(bif b then tx else ty)=some r) (ht:tx=some r->Wp P N x E Q) (hf:ty=some r->Wp P N y E Q) (hc:E.cell1 P 0 c=some (.bool b):=by kernel_rfl):Wp P N (.cond c x y) E Q:=Wp.c h ht hf hc
theorem wt {c:Operand} {x y:Code} (ht:Wp P N x E Q) (hc:E.cell1 P 0 c=some (.bool true):=by kernel_rfl):Wp P N (.cond c x y) E Q:=ABA ht hc
theorem wf {c:Operand} {x y:Code} (hf:Wp P N y E Q) (hc:E.cell1 P 0 c=some (.bool false):=by kernel_rfl):Wp P N (.cond c x y) E Q:=ABB hf hc
theorem rsz {rs:List ResultVar} {a:SV} (h:(DU P E rs).map (λz=>EC z.1)=some a):∃ss E',DU P E rs=some (ss,E')/\EC ss=a:=by
 obtain⟨z,h1,h2⟩:=AZ.1 h;exact⟨z.1,z.2,h1,h2⟩
theorem rsx {rt:Root} {rs:List ResultVar} {b:SV} {a:List TV} (h:(DU P E rs).map (λz=>(EC z.1,z.2.boxes rt))=some (b,some a)):∃ss E',DU P E rs=some (ss,E')/\EC ss=b/\E'.boxes rt=some a:=by
 obtain⟨z,h1,h2⟩:=AZ.1 h
 injection h2 with h3 h4
 exact⟨z.1,z.2,h1,h3,h4⟩
theorem gkx {f:FuncId} {c:Code} {a cells':List TV} {b:SV} (hf:P.funcs[f]?=some fn) (hb:fn.body=some c) (hN:fn.ntmps=N) (h:Wp P N c (DH (.ext a::as)) λe E=>(e= .normal\/e= .ret)/\∃ss E',DU P E fn.results.toList=some (ss,E')/\EC ss=b/\E'.boxes (.ext 0)=some cells') (d:cells'.isEmpty=false:=by rfl):AL P f (.ext a::as) b (.ext cells'::List.replicate as.length .gone):=qD hf hb (by rw [hN];exact h) d
theorem gk {f:FuncId} {c:Code} {a:SV} (hf:P.funcs[f]?=some fn) (hb:fn.body=some c) (hN:fn.ntmps=N) (h:Wp P N c (DH as) λe E=>(e= .normal\/e= .ret)/\∃ss E',DU P E fn.results.toList=some (ss,E')/\EC ss=a):AL P f as a (List.replicate as.length .gone):=uF hf hb (by rw [hN];exact h)
theorem jP:∀t:TV,(LT t).isSl=t.isSl:=by intro t;cases t<;>rfl
theorem JS:∀(cs:List TV) (j:Nat),(BK cs)[j]?=cs[j]?.map LT
 |[],j=>by simp [BK]
 |t::ts,0=>by simp [BK]
 |t::ts,j+1=>by simpa [BK]using JS ts j
theorem VI:∀(q:List Nat) (cs:List TV),BY (BK cs) q=(BY cs q).map BK
 |[],cs=>rfl
 |c::q,cs=>by
  simp only [BY,JS]
  cases cs[c]? with
  |none=>rfl
  |some t=>
   cases t with
   |sl o e sz cells=>exact VI q cells
   |_=>rfl
def lF:TV->List TV->TV
 | .sl _ e s _,row=> .sl false e s row
 |t,_=>t
def XU (cs:List TV) (j:Nat) (a:List TV):List TV:=match cs[j]? with
 |some t=>cs.set j (lF t a)
 |none=>cs
theorem dP {cs:List TV} {j e s:Nat} {a:List TV} (h:cs[j]?=some (.sl true e s a)) (c:Nat):(XU cs j (BK a))[c]?=if c=j then some (.sl false e s (BK a))else cs[c]? :=by
 have hj:=(Ah.1 h).1;simp only [XU,h,lF];rw [BI];by_cases hc:j=c
 ·subst hc;simp [hj]
 rw [Ay hc,Ay (λe=>hc e.symm)]
theorem uJ {r1:List TV} {cs:List TV} {j e s:Nat} {a:List TV} (h:cs[j]?=some (.sl true e s a)) {q:List Nat} (hq:BY cs q=some r1) (i:Nat):
  ∃r2,BY (XU cs j (BK a)) q=some r2/\(r1[i]?.isSome=true->r2[i]?.isSome=true)/\(K1 r1[i]?=true->K1 r2[i]?=true):=by
 cases q with
 |nil=>
  simp only [BY]at hq
  injection hq with hq
  subst hq;refine⟨_,rfl,?_,?_⟩
  ·rw [dP h];split
   ·intro _;rfl
   exact id
  rw [dP h];split
  ·intro _;rfl
  exact id
 |cons c q=>
  simp only [BY,dP h];simp only [BY]at hq;by_cases hc:c=j
  ·subst hc;rw [h]at hq;simp only at hq;rw [Ax rfl];simp only [VI,hq,B9];refine⟨_,rfl,?_,?_⟩
   ·rw [JS];simp
   rw [JS]
   cases r1[i]? with
   |none=>exact id
   |some t=>simp only [K1,B9,jP];exact id
  rw [Ay hc];exact⟨r1,hq,id,id⟩
theorem Xt:∀{ts:List TV} {vs:List Value} {F U:List Nat} {j:Nat} {t:TV},B5 w ts vs F U->ts[j]?=some t->F.Nodup->(∀v F1 U1,C5 w t v F1 U1->∃F2 U2,C5 w t' v F2 U2/\IR F1 U1 F2 U2)->
  ∃F' U',B5 w (ts.set j t') vs F' U'/\IR F U F' U'
 |[],vs,F,U,j,t,h,hj,_,_=>by simp at hj
 |x::ts,vs,F,U,0,t,h,hj,hn,hk=>by
  simp at hj;subst hj;simp only [B5]at h;obtain⟨v,a,F1,F2,U1,U2,rfl,rfl,rfl,h1,h2⟩:=h;obtain⟨F1',U1',a1,a2⟩:=hk v F1 U1 h1;exact⟨F1'++F2,U1'++U2,by simp only [DQ,B5];exact⟨v,a,F1',F2,U1',U2,rfl,rfl,rfl,a1,h2⟩,R5 hn a2 IR.refl⟩
 |x::ts,vs,F,U,j+1,t,h,hj,hn,hk=>by
  simp only [B5]at h;obtain⟨v,a,F1,F2,U1,U2,rfl,rfl,rfl,h1,h2⟩:=h;obtain⟨F2',U2',a1,a2⟩:=Xt h2 (by simpa using hj) (Br.1 hn).2.1 hk;exact⟨F1++F2',U1++U2',by simp only [Mp,B5];exact⟨v,a,F1,F2',U1,U2',rfl,rfl,rfl,h1,a1⟩,R5 hn IR.refl a2⟩
theorem Yg {a:Act} {blk:Root->Nat}:∀{ts:List TV} {vs:List Value} {F U:List Nat} {j:Nat} {t:TV},CT w a E blk ts vs F U->ts[j]?=some t->F.Nodup->(∀v F1 U1,CQ w a E blk t v F1 U1->∃F2 U2,CQ w a E blk t' v F2 U2/\IR F1 U1 F2 U2)->
  ∃F' U',CT w a E blk (ts.set j t') vs F' U'/\IR F U F' U'
 |[],vs,F,U,j,t,h,hj,_,_=>by simp at hj
 |x::ts,vs,F,U,0,t,h,hj,hn,hk=>by
  simp at hj;subst hj;obtain⟨v,b,F1,F2,U1,U2,rfl,rfl,rfl,h1,h2⟩:=h;obtain⟨F1',U1',a1,a2⟩:=hk v F1 U1 h1;exact⟨F1'++F2,U1'++U2,by rw [DQ];exact⟨v,b,F1',F2,U1',U2,rfl,rfl,rfl,a1,h2⟩,R5 hn a2 IR.refl⟩
 |x::ts,vs,F,U,j+1,t,h,hj,hn,hk=>by
  obtain⟨v,b,F1,F2,U1,U2,rfl,rfl,rfl,h1,h2⟩:=h;obtain⟨F2',U2',a1,a2⟩:=Yg h2 (by simpa using hj) (Br.1 hn).2.1 hk;exact⟨F1++F2',U1++U2',by rw [Mp];exact⟨v,b,F1,F2',U1,U2',rfl,rfl,rfl,h1,a1⟩,R5 hn IR.refl a2⟩
def frE (E:St) (r:Root) (j:Nat) (a:List TV):St:=match E.root r with
 |some cs=>E.setRoot r (XU cs j a)
 |none=>E
theorem lE {a:Act} {r:Root} {cs:List TV} {j e s:Nat} {b:List TV} (hr:E.root r=some cs) (hj:cs[j]?=some (.sl true e s b)) (hh:r≠ .hand) (R:Root):Ct w w a a E (E.setRoot r (XU cs j (BK b))) blk blk R:=by
 have d:(E.setRoot r (XU cs j (BK b))).ver=E.ver:=by cases r<;>rfl
 have f:(E.setRoot r (XU cs j (BK b))).gen=E.gen:=by cases r<;>rfl
 have g:(XU cs j (BK b)).length=cs.length:=by simp [XU,hj]
 have c:∀cs0,E.root R=some cs0->∃cs1,(E.setRoot r (XU cs j (BK b))).root R=some cs1/\∀q r1,BY cs0 q=some r1->∀i:Nat,∃r2,BY cs1 q=some r2/\(r1[i]?.isSome=true->r2[i]?.isSome=true)/\(K1 r1[i]?=true->K1 r2[i]?=true):=by
  intro cs0 h0;by_cases hR:R=r
  ·subst hR;rw [hr]at h0
   injection h0 with h0
   subst h0;refine⟨XU cs j (BK b),?_,λq r1 hq i=>uJ hj hq i⟩
   cases R with
   |slot n=>
    simp only [St.root,St.setRoot,Cl,BW]at hr⊢
    injection hr with hr
    congr 1
    cases hs:E.slots n with
    |one t=>
     rw [hs]at hr;simp only [SV.cells]at hr;subst hr;have:(XU [t] j (BK b)).length=1:=g
     match hf:XU [t] j (BK b),this with
     |[x],_=>rfl
    |agg ts=>rfl
    |tup ss=>
     rw [hs]at hr;simp only [SV.cells]at hr;subst hr;simp at hj
   |box n=>simp [St.root,St.setRoot,Cl]
   |ext n=>simp [St.root,St.setRoot,Cl]
   |hand=>exact absurd rfl hh
  refine⟨cs0,?_,λq r1 hq i=>⟨r1,hq,id,id⟩⟩;rw [<-h0];cases r<;>cases R<;>simp only [St.root,St.setRoot,Cl]<;>first
   |exact absurd rfl hh
   |rfl
   |(rw [Ay];intro e;exact hR (by rw [e]))
   |(rw [Ay];intro e;injection e with e;exact hR (by rw [e]))
   |(rw [Ay];intro e;cases e)
 constructor
 ·refine .inr ⟨by rw [d],λq i v h1 h2=>⟨h1,?_⟩,λq i ad hq h1 h2=>⟨h1,?_⟩⟩
  ·unfold St.place at h2⊢
   cases h0:E.root R with
   |none=>rw [h0]at h2;cases h2
   |some cs0=>
    rw [h0]at h2;obtain⟨cs1,k1,k2⟩:=c cs0 h0;simp only [Aa]at h2
    cases hc:BY cs0 q with
    |none=>rw [hc]at h2;cases h2
    |some r1=>
     rw [hc]at h2;obtain⟨r2,k3,_,k4⟩:=k2 q r1 hc i;rw [k1];simp only [Aa,k3];exact k4 h2
  unfold St.place at h2⊢
  cases h0:E.root R with
  |none=>rw [h0]at h2;cases h2
  |some cs0=>
   rw [h0]at h2;obtain⟨cs1,k1,k2⟩:=c cs0 h0;simp only [Aa]at h2
   cases hc:BY cs0 q with
   |none=>rw [hc]at h2;cases h2
   |some r1=>
    rw [hc]at h2;obtain⟨r2,k3,k4,_⟩:=k2 q r1 hc i;rw [k1];simp only [Aa,k3];exact k4 h2
 refine .inr ⟨by rw [f],λi ad h1 h2=>⟨h1,?_⟩⟩;unfold St.place at h2⊢
 cases h0:E.root R with
 |none=>rw [h0]at h2;cases h2
 |some cs0=>
  rw [h0]at h2;obtain⟨cs1,k1,k2⟩:=c cs0 h0;simp only [Aa]at h2;obtain⟨r2,k3,k4,_⟩:=k2 [] cs0 rfl i;rw [k1];simp only [Aa,k3];exact k4 h2
section
variable {w0:Base} {a:Act}
theorem CU.freeze {r:Root} (h:CU w0 FA UA N w a E blk FS US) {cs:List TV} {j e s:Nat} {c:List TV} (hr:E.root r=some cs) (hj:cs[j]?=some (.sl true e s c)) (hh:r≠ .hand):
  ∃FS' US',CU w0 FA UA N w a (E.setRoot r (XU cs j (BK c))) blk FS' US'/\FS' .hand=FS .hand/\US' .hand=US .hand:=by
 have x:=lE (w:=w) (a:=a) (blk:=blk) hr hj hh;have f:XU cs j (BK c)=cs.set j (.sl false e s (BK c)):=by simp only [XU,hj,lF]
 have l:∀v F1 U1,C5 w (.sl true e s c) v F1 U1->∃F2 U2,C5 w (.sl false e s (BK c)) v F2 U2/\IR F1 U1 F2 U2:=λv F1 U1 h1=>AAp h1 (qY.s rfl)
 have y:∃F' U',IR (FS r) (US r) F' U'/\(∀n,r= .slot n->Ex w a (E.setRoot r (XU cs j (BK c))) blk ((E.slots n).withCells (XU cs j (BK c))) (a.eval (.tmp n)) F' U')/\
   (r.mem=true->∃d T F,w.heap[blk r]?=some (.cells d T (0,0))/\B5 w (XU cs j (BK c)) d.toList F U'/\F'=blk r::F):=by
  cases r with
  |slot n=>
   simp only [St.root]at hr
   injection hr with hr
   have hs:=HP x (h.slot n) (λ_ _=>rfl) (λ_ _=>rfl)
   cases g:E.slots n with
   |one t=>
    rw [g]at hr hs;simp only [SV.cells]at hr;subst hr;have z:j=0:=by
     have:=(Ah.1 hj).1;simpa using this
    subst z;simp at hj;subst hj;simp only [Ex]at hs;obtain⟨F2,U2,k1,k2⟩:=l _ _ _ hs.1;refine⟨F2,U2,k2,λm hm=>?_,λhm=>(by cases hm)⟩
    injection hm with hm
    subst hm;rw [g,f];simp only [DQ,SV.withCells,Ex];exact⟨k1,λ_=>hs.2 rfl⟩
   |agg ts=>
    rw [g]at hr hs;simp only [SV.cells]at hr;subst hr;simp only [Ex]at hs;obtain⟨vs,k0,k1⟩:=hs;obtain⟨F2,U2,k2,k3⟩:=Yg (t':= .sl false e s (BK c)) k1 hj (h.nodup _) l;refine⟨F2,U2,k3,λm hm=>?_,λhm=>(by cases hm)⟩
    injection hm with hm
    subst hm;rw [g,f];simp only [SV.withCells,Ex];rw [f]at k2;exact⟨vs,k0,k2⟩
   |tup ss=>
    rw [g]at hr;simp only [SV.cells]at hr;subst hr;simp at hj
  |hand=>exact absurd rfl hh
  |box n=>
   rcases h.box (.box n) rfl with⟨k,_⟩|⟨cs0,d,T,F,k1,k2,k3,k4⟩
   ·simp only [St.root]at hr;rw [k]at hr;cases hr
   simp only [St.root]at hr;rw [k1]at hr
   injection hr with hr
   subst hr;have i:=h.nodup (.box n);rw [k4]at i;obtain⟨o,p⟩:=D0.1 i;obtain⟨F2,U2,k5,k6⟩:=Xt (t':= .sl false e s (BK c)) k3 hj p l;refine⟨blk (.box n)::F2,U2,?_,λm hm=>(by cases hm),λ_=>⟨d,T,F2,k2,by rw [f];exact k5,rfl⟩⟩;rw [k4];refine⟨k6.1.cons_cons _,λb hb=>?_⟩
   rcases k6.2 b hb with q|⟨q1,q2⟩
   ·exact .inl q
   refine .inr ⟨by simp [q1],λhc=>?_⟩
   rcases BA.1 hc with rfl|hc
   ·exact o q1
   exact q2 hc
  |ext n=>
   rcases h.box (.ext n) rfl with⟨k,_⟩|⟨cs0,d,T,F,k1,k2,k3,k4⟩
   ·simp only [St.root]at hr;rw [k]at hr;cases hr
   simp only [St.root]at hr;rw [k1]at hr
   injection hr with hr
   subst hr;have i:=h.nodup (.ext n);rw [k4]at i;obtain⟨o,p⟩:=D0.1 i;obtain⟨F2,U2,k5,k6⟩:=Xt (t':= .sl false e s (BK c)) k3 hj p l;refine⟨blk (.ext n)::F2,U2,?_,λm hm=>(by cases hm),λ_=>⟨d,T,F2,k2,by rw [f];exact k5,rfl⟩⟩;rw [k4];refine⟨k6.1.cons_cons _,λb hb=>?_⟩
   rcases k6.2 b hb with q|⟨q1,q2⟩
   ·exact .inl q
   refine .inr ⟨by simp [q1],λhc=>?_⟩
   rcases BA.1 hc with rfl|hc
   ·exact o q1
   exact q2 hc
 obtain⟨F',U',hl,h0,h2⟩:=y
 have u:∀b∈F',b∈FS r:=λb hb=>hl.1.subset hb
 refine⟨Cl FS r F',Cl US r U',?_,by rw [Bw (λe=>hh e.symm)],by rw [Bw (λe=>hh e.symm)]⟩;have hF:∀R b,b∈Cl FS r F' R->b∈FS R:=by
  intro R b hb;by_cases hR:R=r
  ·subst hR;rw [BU]at hb;exact u b hb
  rw [Bw hR]at hb;exact hb
 have hU:∀R b,b∈Cl US r U' R->b∈US R\/(R=r/\b∈FS r/\b∉F'):=by
  intro R b hb;by_cases hR:R=r
  ·subst hR;rw [BU]at hb
   rcases hl.2 b hb with q|⟨q1,q2⟩
   ·exact .inl q
   exact .inr ⟨rfl,q1,q2⟩
  rw [Bw hR]at hb;exact .inl hb
 constructor
 ·intro n;by_cases hn:r= .slot n
  ·subst hn;rw [BU,BU];have:=h0 n rfl;simpa only [St.setRoot,Cl,BW]using this
  rw [Bw (λe=>hn e.symm),Bw (λe=>hn e.symm)];have h1:(E.setRoot r (XU cs j (BK c))).slots n=E.slots n:=by
   cases r with
   |slot m=>
    simp only [St.setRoot,Cl];rw [Ay];intro e;exact hn (by rw [e])
   |_=>rfl
  rw [h1];exact HP x (h.slot n) (λ_ _=>rfl) (λ_ _=>rfl)
 ·intro R hm;by_cases hR:R=r
  ·subst hR;right;obtain⟨d,T,F,k1,k2,k3⟩:=h2 hm;refine⟨_,d,T,F,?_,k1,by rw [BU];exact k2,by rw [BU,k3]⟩
   cases R with
   |slot n=>cases hm
   |hand=>cases hm
   |box n=>simp [St.setRoot,Cl]
   |ext n=>simp [St.setRoot,Cl]
  rw [Bw hR,Bw hR];have h1:(E.setRoot r (XU cs j (BK c))).boxes R=E.boxes R:=by
   cases r<;>simp only [St.setRoot,Cl]<;>first
    |rfl
    |(rw [Ay hR])
  rw [h1];exact h.box R hm
 ·have:(E.setRoot r (XU cs j (BK c))).boxes .hand=E.boxes .hand:=by
   cases r<;>simp only [St.setRoot,Cl]<;>first
    |exact absurd rfl hh
    |rfl
    |(rw [Ay (by simp)])
  rw [this];exact h.nohand
 ·intro R;by_cases hR:R=r
  ·subst hR;rw [BU];exact hl.1.nodup (h.nodup R)
  rw [Bw hR];exact h.nodup R
 ·exact λR S h3 b hb hb'=>h.dis R S h3 b (hF R b hb) (hF S b hb')
 ·intro R S b hb hb'
  rcases hU S b hb' with q|⟨rfl,q1,q2⟩
  ·exact h.disU R S b (hF R b hb) q
  by_cases hR:R=S
  ·subst hR;rw [BU]at hb;exact q2 hb
  exact h.dis R S hR b (hF R b hb) q1
 ·exact λR b hb=>h.inF R b (hF R b hb)
 ·intro R b hb
  rcases hU R b hb with q|⟨rfl,q1,_⟩
  ·exact h.inU R b q
  obtain⟨q2,q3⟩:=h.inF R b q1;exact⟨.inr q2,q3⟩
 ·exact h.disA
 ·exact h.os
 ·exact h.tape
 ·exact h.output
 ·exact h.size
 ·exact h.keep
 ·exact h.len
 ·exact h.nodef
 ·exact h.xblk
 ·rw [En];exact h.ambB
 ·rw [En];exact h.ambI
 ·rw [HS];exact h.frz
 ·exact h.ambF
 rw [En];exact h.pin
end
theorem uL {r:Root} (h:QC E r j=some row):∃cs e s,E.root r=some cs/\cs[j]?=some (.sl true e s row)/\frE E r j (BK row)=E.setRoot r (XU cs j (BK row)):=by
 obtain⟨cs,e,s,h1,h2,_⟩:=QB h;exact⟨cs,e,s,h1,h2,by unfold frE;rw [h1]⟩
def Wv:Root->Bool
 | .hand=>false
 |_=>true
theorem SA {r:Root} (h:Wv r=true):r≠ .hand:=by rintro rfl;cases h
theorem RW.fz (r:Root) (j:Nat) (hs:BK row=row') (h:RW P N ops i (frE E r j row') Q) (ho:QC E r j=some row:=by kernel_rfl) (hh:Wv r=true:=by rfl):RW P N ops i E Q:=by
 intro w0 FA UA w a blk FS US hr hF hU;obtain⟨cs,e,s,h1,h2,h3⟩:=uL ho;obtain⟨FS',US',k1,k2,k3⟩:=hr.freeze h1 h2 (SA hh);rw [<-hs,h3]at h;exact h _ _ _ _ _ _ _ _ k1 (by rw [k2,hF]) (by rw [k3,hU])
theorem KW.fz {ts:List Nat} (r:Root) (j:Nat) (hs:BK row=row') (h:KW P N ops ts dn (frE E r j row') Q) (ho:QC E r j=some row:=by kernel_rfl) (hh:Wv r=true:=by rfl):KW P N ops ts dn E Q:=by
 intro hq hc w0 FA UA w a blk FS US hr hF hU;obtain⟨cs,e,s,h1,h2,h3⟩:=uL ho;obtain⟨FS',US',k1,k2,k3⟩:=hr.freeze h1 h2 (SA hh);rw [<-hs,h3]at h;exact h hq hc _ _ _ _ _ _ _ _ k1 (by rw [k2,hF]) (by rw [k3,hU])
theorem Wp.fz {c:Code} (r:Root) (j:Nat) (hs:BK row=row') (h:Wp P N c (frE E r j row') Q) (ho:QC E r j=some row:=by kernel_rfl) (hh:Wv r=true:=by rfl):Wp P N c E Q:=by
 intro w0 FA UA w a blk FS US hr hF hU;obtain⟨cs,e,s,h1,h2,h3⟩:=uL ho;obtain⟨FS',US',k1,k2,k3⟩:=hr.freeze h1 h2 (SA hh);rw [<-hs,h3]at h;exact h _ _ _ _ _ _ _ _ k1 (by rw [k2,hF]) (by rw [k3,hU])
def St.fzs (E:St) (f:Option Nat):St:={E with fz:=f}
theorem jM {a:Act} {f:Option Nat} (r:Root):Ct w w a a E (E.fzs f) blk blk r:=by
 have hp:∀q j,(E.fzs f).place r q j=E.place r q j:=λq j=>by cases r<;>rfl
 exact⟨.inr ⟨rfl,λq j v h1 h2=>⟨h1,by rw [hp];exact h2⟩,λq j ad _ h1 h2=>⟨h1,by rw [hp];exact h2⟩⟩,.inr ⟨rfl,λj ad h1 h2=>⟨h1,by rw [hp];exact h2⟩⟩⟩
theorem CU.fzs {w0:Base} {a:Act} (h:CU w0 FA UA N w a E blk FS US) (f:Option Nat) (hf:∀n,f=some n->wC w0 a n):CU w0 FA UA N w a (E.fzs f) blk FS US where
 slot:=λn=>HP jM (h.slot n) (λ_ _=>rfl) (λ_ _=>rfl)
 box:=h.box
 nohand:=h.nohand
 nodup:=h.nodup
 dis:=h.dis
 disU:=h.disU
 inF:=h.inF
 inU:=h.inU
 disA:=h.disA
 os:=h.os
 tape:=h.tape
 output:=h.output
 size:=h.size
 keep:=h.keep
 len:=h.len
 nodef:=h.nodef
 xblk:=h.xblk
 ambB:=h.ambB
 ambI:=h.ambI
 frz:=hf
 ambF:=h.ambF
 pin:=h.pin
theorem nT (n:Nat):(2*n+1)/2=n:=by omega
theorem nS (n:Nat):¬(2*n+1) %2=0:=by omega
def yI (o:Oper):Bool:=match o.op with
 | .buildSlice t len parts=>Nat.beq len 0&&Nat.beq parts.size 0
 |_=>false
theorem AAn {a:Act} {nx:Next} {w':World} {o:Oper} (hb:yI o=true) (hd:o.dst=some d) (hN:d<N) (hs:CF P N false E o=some E') (hr:(execOp a.eval o).run P w= .ok nx w'):∃B,nx= .value (.slice B 0 0):=by
 unfold yI at hb;split at hb
 ·rename_i t len parts ho;rw [Al]at hb;have h1:=B3 hb.1;have h2:=B3 hb.2;subst h1;have h3:parts= #[]:=Array.eq_empty_of_size_eq_zero h2;subst h3;simp only [CF,hd,Ax hN,ho,Lk]at hs;split at hs
  ·rename_i e hu;split at hs
   ·rename_i zs ss hz b;obtain⟨i,z,hi,c,f,g⟩:=Jx (w:=w) hz;simp [execOp,ho,Instr.buildSlice,run_underlying hu,sizeOf,typeInfo,hi,newRow,Instr.fill]at hr;obtain⟨hr,_⟩:=hr;exact⟨_,hr.symm⟩
   cases hs
  cases hs
 cases hb
def rU (x:Operand):Nat:=match x with
 | .tmp n=>n
 |_=>0
theorem mM {ts:List Nat} (h:KW P N ops ts (i::dn) (((CF P N false E (oA ops i)).getD E).fzs (some (2*((oA ops i).dst.getD 0)+1))) Q) (hs:(CF P N false E (oA ops i)).isSome=true:=by kernel_rfl) (hk:(PX P ops E i&&yI (oA ops i)&&Gw N (oA ops i))=true:=by kernel_rfl):KB P N ops ts dn i E Q:=by
 have hs':=getD_some (a:=E) hs;generalize hE:(CF P N false E (oA ops i)).getD E=E' at h hs';simp only [Al]at hk;obtain⟨h1,h2⟩:=HD hk.1.1;obtain⟨d,h3,_,h4⟩:=ES hk.2;rw [h3]at h;simp only [B6]at h;have b:kp (oA ops i)=true:=by
  have:=hk.1.2;unfold yI at this;unfold kp;split at this
  ·rename_i ho;rw [ho]
  cases this
 intro w0 FA UA w a blk FS US hr hF hU;unfold wpOp;simp only [I9 h1,Cp hr h2,BW];obtain⟨nx,w',v,blk',FS',US',k1,k2,k3,k4,k5,k6⟩:=Qi hr hF hU hs';obtain⟨B,hB⟩:=AAn (N:=N) hk.1.2 h3 h4 hs' k1;have hv:v= .slice B 0 0:=by
  rcases k2 with k2|⟨k2,_⟩
  ·rw [hB]at k2;injection k2 with k2;exact k2.symm
  rw [hB]at k2;cases k2
 refine .inl ?_;unfold Oper.wp;rw [k1,hB];refine⟨λ_=>k6 b,_,blk',FS',US',h,?_,k4,k5⟩;rw [hv]at k3;refine k3.fzs _ (λn hn=>?_)
 injection hn with hn
 subst hn;unfold wC;rw [Ay (nS d),nT d,h3];refine⟨B,?_⟩;have:=k3.len;simp only [Act.eval,Act.put];rw [E7];have hl:=hr.len;have c:d<a.tmps.size:=Bb h4 hl;simp [Array.getElem?_setIfInBounds_self,c]
theorem KB.a {ts:List Nat} (hs:CF P N false E (oA ops i)=some E') (h:KW P N ops ts (i::dn) (E'.fzs none) Q) (hk:(PX P ops E i&&yJ (oA ops i)&&Nat.beq (Hb (oA ops i)).1 (Hb (oA ops i)).2.1&&Gw N (oA ops i))=true:=by kernel_rfl) (hx:(Hb (oA ops i)).2.2.1= .tmp (rU (Hb (oA ops i)).2.2.1):=by kernel_rfl) (hz:E.fz=some (2*rU (Hb (oA ops i)).2.2.1+1):=by kernel_rfl):KB P N ops ts dn i E Q:=by
 simp only [Al]at hk;obtain⟨⟨⟨h0,h5⟩,h6⟩,h7⟩:=hk;obtain⟨h1,h2⟩:=HD h0;obtain⟨d,h3,_,h4⟩:=ES h7;have c:=B3 h6;have ho:=oB h5;rw [<-c]at ho;intro w0 FA UA w a blk FS US hr hF hU;unfold wpOp;simp only [I9 h1,Cp hr h2,BW];have he:My P E d (Hb (oA ops i)).1 (Hb (oA ops i)).2.2.1 (Hb (oA ops i)).2.2.2=some E':=by
  unfold CF at hs;rw [h3]at hs;simpa only [Ax h4,ho,BW]using hs
 obtain⟨nx,w',v,blk',FS',US',k1,k2,k3,k4,k5,_,k6⟩:=Ut hr hF hU ho h3 h4 he;have b:=hr.frz _ hz;unfold wC at b;rw [Ay (nS _),nT,<-hx]at b;obtain⟨B,hB⟩:=b;refine .inl ?_;unfold Oper.wp;rw [k1]
 rcases k2 with rfl|⟨rfl,rfl⟩
 ·exact⟨λ_=>k6 B hB,_,blk',FS',US',h,k3.fzs none (λn hn=>by cases hn),k4,k5⟩
 exact⟨λ_=>k6 B hB,_,blk',FS',US',h,k3.fzs none (λn hn=>by cases hn),k4,k5⟩
def rm (k:IntKind) (a b:Int):Option Int:=if b=0 then none else some (a.tmod b)
def ban (k:IntKind) (a b:Int):Int:=k.wrap (BitVec.ofInt k.bits a&&&BitVec.ofInt k.bits b).toNat
def bxo (k:IntKind) (a b:Int):Int:=k.wrap (BitVec.ofInt k.bits a^^^BitVec.ofInt k.bits b).toNat
def zM (P:Program) (E:St) (o:Oper) (k:IntKind) (q:Bool):Option (Int×Int):=match o.op with
 | .binOp op t x y _=>bif(match op with| .rem=>!q| .quo=>q|_=>false)then(match E.cell1 P t x,E.cell1 P t y with
  |some (.int k' a),some (.int k'' b)=>bif decide (k'=k)&&decide (k''=k)then some (a,b)else none
  |_,_=>none)else none
 |_=>none
theorem prm {o:Oper} {a b v:Int} (hx:rm k a b=some v) (hc:zM P E o k false=some (a,b):=by kernel_rfl):Bl P E o=some (.one (.int k v)):=by
 unfold zM at hc;split at hc
 ·rename_i op t x y t' ho;cases op<;>simp only [AG,Ae,Ab,reduceCtorEq]at hc;split at hc
  ·rename_i k' a' k2 b' h1 h2
   cases hk:(decide (k'=k)&&decide (k2=k))with
   |false=>rw [hk]at hc;cases hc
   |true=>
    rw [hk]at hc;simp only [Ae]at hc
    injection hc with hc
    injection hc with hc1 hc2
    rw [Al]at hk;have e1:=HE hk.1;have e2:=HE hk.2;subst hc1 hc2 e1 e2;unfold rm at hx;split at hx
    ·cases hx
    rename_i hb
    injection hx with hx
    subst hx;simp only [Bl,ho,h1,h2,Vi,BW,VM,uA,Ay hb,B9]
  cases hc
 cases hc
def eE (P:Program) (f:FuncId) (as:List AV) (a:List TV):Prop:=
 ∀(w:World) (vs:List Value) (FA UA:List Nat),Kr w as vs FA UA->FA.Nodup->(∀b∈FA,b∉UA)->(∀b∈FA++UA,b<w.heap.size)->
  Calls P f vs.toArray w λe w'=>∃v F U G V,e= .returned v/\vM w w' FA UA (.tup []) [.ext a] [v] (.tuple #[]) F U G V
theorem gkp {f:FuncId} {c:Code} {cells:List TV} (hf:P.funcs[f]?=some fn) (hb:fn.body=some c) (hN:fn.ntmps=N) (h:Wp P N c (DH as) λe E=>(e= .normal\/e= .ret)/\∃t r,fn.results.toList=[.tmp t]/\E.ptr? (.tmp t)=some (r,[],0)/\r.mem=true/\E.boxes r=some cells) (l:cells.isEmpty=false:=by rfl):eE P f as cells:=by
 subst hN;intro w vs FA UA ha m j o;obtain⟨blk,FS,US,hr,hF,hU⟩:=Ri (N:=fn.ntmps) ha m j o (A:=PV.none) (fz:=none) trivial (λb hb=>by cases hb);refine calls_of_wp hf hb (wp_mono (h _ _ _ _ _ _ _ _ hr hF hU) ?_);rintro e a w' ⟨E,blk',FS',US',⟨he,t,r,h1,h2,h3,h4⟩,k3,h5,h6⟩;obtain⟨u,ad,d,p⟩:=Kf k3 h2;have s:ad=⟨blk' r,0,none⟩:=by
  cases r with
  |slot n=>cases h3
  |hand=>cases h3
  |box n=>simp only [pa]at d;injection d with d;rw [<-d];simp [Addr.add]
  |ext n=>simp only [pa]at d;injection d with d;rw [<-d];simp [Addr.add]
 obtain⟨g,T,F3,b2,b3,b4⟩:∃g T F3,w'.heap[blk' r]?=some (.cells g T (0,0))/\B5 w' cells g.toList F3 (US' r)/\FS' r=blk' r::F3:=by
  rcases k3.box r h3 with⟨q,_⟩|⟨cs,g,T,F3,q1,q2,q3,q4⟩
  ·rw [h4]at q;cases q
  rw [h4]at q1
  injection q1 with q1
  subst q1;exact⟨g,T,F3,q2,q3,q4⟩
 have hne':cells≠ []:=by rintro rfl;cases l
 have k:(fn.results.toList.mapM (NR P a.tmps)).run P w'= .ok [a.eval (.tmp t)] w':=by
  rw [h1,List.mapM_cons];simp [NR,Act.eval]
 have i:a.defers=[]/\∃v,(results fn a.tmps).run P w'= .ok v w'/\∃v' F U G V,Ending.returned v= .returned v'/\vM w w' FA UA (.tup []) [.ext cells] [v'] (.tuple #[]) F U G V:=by
  refine⟨k3.nodef,_,N1 k,a.eval (.tmp t),[],[],FS' r,US' r,by simp,?_⟩
  exact{
   res:=by simp only [VS];exact⟨[],rfl,by simp [OD]⟩
   fin:=⟨_,[],FS' r,[],US' r,[],rfl,by simp,by simp,⟨blk' r,g,T,F3,by rw [p,s],b2,b3,b4,hne'⟩,⟨rfl,rfl,rfl⟩⟩
   nodup:=by simpa using k3.nodup r
   dis:=λb hb hb'=>k3.disU r r b (by simpa using hb) (by simpa using hb')
   inF:=λb hb=>k3.inF r b (by simpa using hb)
   inU:=λb hb=>k3.inU r b (by simpa using hb)
   os:=k3.os
   tape:=k3.tape
   output:=k3.output
   size:=k3.size
   keep:=λb hb hF=>k3.keep b hb hF (λe=>by cases e)}
 rcases he with rfl|rfl
 ·exact i
 exact i
section
variable {w0:Base} {a:Act}
theorem uX {f:FuncId} {l:List (Bool×TypeId×Operand)} {ss:List (Option SV)} {K:Act->World->Prop} {Q:Exit->Act->World->Prop} (h:CU w0 FA UA N w a E blk FS US) (hF:FS .hand=[]) (hU:US .hand=[]) {o:Oper} {args:Array Operand} {tys:Array TypeId} (ho:o.op= .call {callee:= .value (.func f),args:=args,argTypes:=tys}) (hf:Zd P f) (hd:o.dst=some d) (hN:d<N) (hl:l.map (λx=>x.2.2)=args.toList) {i:List TV} (hg:eE P f as i) {c:Bool} (h1:LL P E l=some (ss,E1)) (h2:IT P E1 l ss=some (as,c)) (h3:c=true\/AF i=false) (hK:∀w' v blk' FS' US',CU w0 FA UA N w' (a.put (some d) v) (E1.newBox d i) blk' FS' US'->FS' .hand=[]->US' .hand=[]->K (a.put (some d) v) w'):o.wp P a w K Q:=by
 obtain⟨FS1,US1,F,U,k1,k2,k3,k4,_⟩:=Pj h h1;rw [hF,A6]at k3;rw [hU,A6]at k4;obtain⟨U',k5,k6⟩:=K7 k2 k1 h2;have a0:l.map (λx=>a.eval x.2.2)=(args.map a.eval).toList:=by
  rw [O8,<-hl,Fy];rfl
 rw [a0]at k5;have p:∀b∈F,b∉U':=by
  intro b hb hb';rw [<-k3]at hb
  rcases k6 b hb' with h4|⟨r,h4⟩|⟨_,r,h5,h4⟩
  ·rw [<-k4]at h4;exact k2.disU .hand .hand b hb h4
  ·exact k2.disU .hand r b hb h4
  exact k2.dis .hand r (ET h5) b hb h4
 have k:=hg w _ F U' k5 (by rw [<-k3];exact k2.nodup .hand) p (by
  intro b hb
  rcases Aj.1 hb with hb|hb
  ·exact(k2.inF .hand b (by rw [k3];exact hb)).2
  rcases k6 b hb with h4|⟨r,h4⟩|⟨_,r,h5,h4⟩
  ·exact(k2.inU .hand b (by rw [k4];exact h4)).2
  ·exact(k2.inU r b h4).2
  exact(k2.inF r b h4).2)
 unfold Oper.wp;rw [Ie ho hf];simp only [Oper.upon];rw [PK]at k;refine Calls.mono k ?_;rintro e w' ⟨v,Fr,Ur,G,V,rfl,g⟩;obtain⟨v0,vs0,G1,G2,V1,V2,t,rfl,rfl,⟨b0,a1,T,F0,rfl,e1,e2,rfl,e3⟩,⟨rfl,rfl,rfl⟩⟩:=g.fin
 injection t with t _
 subst t;have y:=g.res;simp only [VS,OD]at y;obtain⟨_,_,_,rfl,rfl⟩:=y;have z:=g.nodup;simp only [A6,Az]at z;have a2:∀b∈b0::F0,(b∈FS1 .hand\/w.heap.size<=b)/\b<w'.heap.size:=by
  intro b hb;have:=g.inF b (by simpa using hb);rw [k3];exact this
 have h0:∀b∈V1,(∃s,b∈US1 s)\/((b∈FS1 .hand\/w.heap.size<=b)/\b∉b0::F0/\b<w'.heap.size):=by
  intro b hb;obtain⟨h4,h5⟩:=g.inU b (by simpa using hb)
  have m:b∉b0::F0:=λe=>g.dis b (by simpa using e) (by simpa using hb)
  rcases h4 with h4|h4|h4
  ·rcases k6 b h4 with h6|h6|⟨h6,r,h7,h8⟩
   ·exact .inl ⟨.hand,by rw [k4];exact h6⟩
   ·exact .inl h6
   rcases h3 with h3|h3
   ·rw [h3]at h6;cases h6
   have:=Ke e2 h3;subst this;cases hb
  ·exact .inr ⟨.inl (by rw [k3];exact h4),m,h5⟩
  exact .inr ⟨.inr h4,m,h5⟩
 have j:∀b,b<w.heap.size->b∉FS1 .hand->w'.heap[b]?=w.heap[b]? :=λb hb u=>g.keep b hb (by rw [<-k3];exact u)
 let E2:St:={E1 with boxes:=Cl E1.boxes (.box d) (some i),ver:=Cl E1.ver (.box d) (E1.ver (.box d)+1),gen:=Cl E1.gen (.box d) (E1.gen (.box d)+1)}
 let blk1:=Cl blk (.box d) b0
 have a3:Root.box d≠Root.hand:=by simp
 have a4:∀s,Ct w w' a a E1 E2 blk blk1 s:=by
  intro s;by_cases hs:s= .box d
  ·subst hs;exact⟨.inl (by simp [E2,Cl]),.inl (by simp [E2,Cl])⟩
  have hv:E2.ver s=E1.ver s:=by simp [E2,Cl,hs]
  have hg:E2.gen s=E1.gen s:=by simp [E2,Cl,hs]
  by_cases hh:s= .hand
  ·subst hh;exact FV hv hg (by simp [St.root,k2.nohand])
  refine DZ k2 hv hg ?_ (λ_ _=>rfl) (λ_=>by simp [blk1,Cl,hs]) (λb hb=>j b (k2.inF s b hb).2 (k2.dis s .hand hh b hb)) (λb hb=>j b (k2.inU s b hb).2 (λe=>k2.disU .hand s b e hb));cases s<;>simp_all [E2,St.root,Cl]
 have g1:=k2.two (w':=w') (a':=a) (E':=E2) (blk':=blk1) (r1:= .box d) (r2:= .hand) (L1:=b0::F0) (L2:=[]) (V1:=V1) (V2:=[]) a3
  (by simpa using z)
  (λb hb=>by
   have hb':b∈b0::F0:=by simpa using hb
   obtain⟨q1,q2⟩:=a2 b hb'
   exact⟨.inr q1,q2⟩)
  (λb hb=>by
   have hb':b∈V1:=by simpa using hb
   rcases h0 b hb' with q|⟨q1,q2,q3⟩
   ·exact .inl q
   exact .inr ⟨.inr q1,by simpa using q2,q3⟩)
  g.size g.os g.tape g.output (λb hb _ u=>j b hb u) a4
  (λn _ _=>⟨rfl,rfl⟩)
  (λs _ hs _=>⟨by simp [E2,Cl,hs],by simp [blk1,Cl,hs]⟩)
  (.inr ⟨i,a1,T,F0,by simp [E2,Cl],by simp [blk1,Cl,e1],e2,by simp [blk1,Cl]⟩)
  trivial (by simp [E2,Cl,k2.nohand]) k2.len k2.nodef (hfz:=λn hn=>k2.frz n hn)
 have a5:Ex w' a E2 blk1 (.one (.ptr (.box d) (E2.gen (.box d)) [] 0)) (.pointer (some ⟨b0,0,none⟩)) [] []:=by
  have h9:E2.stamp (.box d) []=E2.gen (.box d):=rfl;rw [<-h9];refine TH ?_ ?_
  ·cases hc:i with
   |nil=>exact absurd hc e3
   |cons x xs=>simp [St.place,St.root,E2,Cl,BY,hc]
  simp [pa,blk1,Cl,Addr.add]
 have g2:=g1.put (d:=d) hN a5 Y3.none;have:=hK w' _ blk1 _ _ g2 (by rw [Bw (by simp),BU]) (by rw [Bw (by simp),BU]);rw [hd];exact this
end
theorem AAd {l:List AV} {x:Option α} (h:x.bind kk=some r) {f:α->List TV} (g:∀v,x=some v->eE P (O1 (oA ops i)) l (f v)) (hk:∀v,x=some v->kk v=some r->RW P N ops (i+1) ((vZ P E (oA ops i) 0).newBox ((oA ops i).dst.getD 0) (f v)) Q) (b:YD P E (oA ops i) 0=some l:=by kernel_rfl) (hc:vW P E (oA ops i) 0=true:=by kernel_rfl) (ho:(PX P ops E i&&Sa P N (oA ops i)&&Gw N (oA ops i))=true:=by kernel_rfl):RW P N ops i E Q:=by
 obtain⟨v,hv,h⟩:=Ar.1 h;simp only [Al]at ho;obtain⟨h1,h2⟩:=HD ho.1.1;obtain⟨args,tys,h3,h4,h5,h6⟩:=NF ho.1.2;obtain⟨d,h7,_,h8⟩:=ES ho.2;have e:=hk v hv h;rw [h7]at e;simp only [B6]at e;unfold RW;rw [G3 h1];intro w0 FA UA w a blk FS US hr hF hU;simp only [wpList,Cp hr h2,BW];unfold YD vW shA at*;unfold vZ at e
 cases hm:mvA P E (oA ops i) 0 with
 |none=>rw [hm]at b;cases b
 |some z=>
  obtain⟨ss,E1⟩:=z;rw [hm]at b hc e;simp only at b hc e
  cases hs:IT P E1 (bits 0 (Gr (oA ops i))) ss with
  |none=>rw [hs]at b;cases b
  |some y=>
   obtain⟨as',c⟩:=y;rw [hs]at b hc;simp only [B9]at b hc
   injection b with b
   subst b;refine .inl (uX hr hF hU h3 h4 h7 h8 (l:=bits 0 (Gr (oA ops i))) (by rw [O3,h6]) (g v hv) hm hs (.inl hc) λw' v' blk' FS' US' k1 k2 k3=>e _ _ _ _ _ _ _ _ k1 k2 k3)
theorem rsp {rs:List ResultVar} {a:List TV} (t:Nat) (h1:rs=[.tmp t]) (h:(match E.ptr? (.tmp t)with
  |some (r,[],0)=>bif r.mem then E.boxes r else none
  |_=>none)=some a):∃t r,rs=[.tmp t]/\E.ptr? (.tmp t)=some (r,[],0)/\r.mem=true/\E.boxes r=some a:=by
 split at h
 ·rename_i r hr
  cases hm:r.mem with
  |false=>rw [hm]at h;cases h
  |true=>rw [hm]at h;exact⟨t,r,h1,hr,hm,h⟩
 cases h
def xtE (N:Nat) (E:St) (o:Oper):Option St:=match o.op,o.dst with
 | .extract t ix,some d=>bif Nat.blt d N then Na E d t ix else none
 |_,_=>none
theorem AAg {w0:Base} {a:Act} (h:CU w0 FA UA N w a E blk FS US) (hF:FS .hand=[]) (hU:US .hand=[]) {o:Oper} (he:xtE N E o=some E'):
  ∃v blk' FS' US',(∀w2,(execOp a.eval o).run P w2= .ok (.value v) w2)/\CU w0 FA UA N w (a.put o.dst v) E' blk' FS' US'/\FS' .hand=[]/\US' .hand=[]:=by
 unfold xtE at he;split at he
 ·rename_i t ix d ho hd
  cases hN:Nat.blt d N with
  |false=>rw [hN]at he;cases he
  |true=>
   rw [hN]at he;simp only [Ae]at he;have hN':d<N:=by simpa [Bq]using hN
   obtain⟨nx,w',v,blk',FS',US',k1,k2,k3,k4,k5,_⟩:=EE.extract (P:=P) h hF hU ho hd hN' he;have b:∃x,∀w2,(execOp a.eval o).run P w2= .ok (.value x) w2:=by
    unfold Na at he;split at he
    ·rename_i n;split at he
     ·rename_i ss c;split at he
      ·rename_i s e;have hs:=h.slot n;rw [c]at hs;simp only [Ex]at hs;obtain⟨vs,f,hx⟩:=hs;obtain⟨v,A,B,C,D,F1,U1,h1,h2,h3,h4,h5⟩:=WL ix hx e;exact⟨v,λw2=>by simp [execOp,ho,Instr.extract,f,h1]⟩
      cases he
     cases he
    cases he
   obtain⟨x,hx⟩:=b;rw [hx w]at k1
   injection k1 with q1 q2
   subst q1 q2
   rcases k2 with k2|⟨k2,_⟩
   ·injection k2 with k2
    subst k2;exact⟨_,blk',FS',US',hx,k3,k4,k5⟩
   cases k2
 cases he
theorem Ji {ts:List Nat} (i:Nat) (h:KW P N ops ts (i::dn) ((xtE N E (oA ops i)).getD E) Q) (hs:(xtE N E (oA ops i)).isSome=true:=by kernel_rfl) (hk:(PX P ops E i&&jB ops ts dn i)=true:=by kernel_rfl):KW P N ops ts dn E Q:=by
 have hs':=getD_some (a:=E) hs;generalize hE:(xtE N E (oA ops i)).getD E=E' at h hs';simp only [Al,jB]at hk;obtain⟨h1,h3,h4⟩:=hk;obtain⟨h5,h6⟩:=HD h1;unfold KW at h⊢;rw [TQ (i:=i) h3];intro hQ hc w0 FA UA w a blk FS US k1 k2 k3;obtain⟨e1,e2,e3,e4,e5⟩:=Uc h4;obtain⟨v,blk',FS',US',g1,g2,g3,g4⟩:=AAg (P:=P) k1 k2 k3 hs';refine LW (v:=v) (n:=ops.size) (I9 h5) (Region.noSelect_spec e1) (λc a w hx=>?_) e4 e5 _ _ a w hc (Region.free_spec (I9 h5) e2) e3 (.inl ⟨Cp k1 h6,λw2 _=>g1 w2⟩) ?_
 ·obtain⟨E',blk',FS',US',m1,_⟩:=hx;exact(hQ c E' m1).elim
 exact h hQ (KP hc e3) _ _ _ _ _ _ _ _ g2 g3 g4
def Yy (P:Program) (E:St) (o:Oper) (s:SV):Prop:=∀(N:Nat) (w0:Base) (FA UA:List Nat) (w:World) (a:Act) (blk:Root->Nat) (FS US:Root->List Nat),CU w0 FA UA N w a E blk FS US->Fd P w a E blk FS US o s
theorem ACn (hp:Yy P E (oA ops i) s) (h:RW P N ops (i+1) (E.put (oA ops i).dst s) Q) (hk:(PX P ops E i&&Gw N (oA ops i))=true:=by kernel_rfl):RW P N ops i E Q:=by
 rw [Al]at hk;obtain⟨h1,h2⟩:=HD hk.1;obtain⟨d,h3,_,h4⟩:=ES hk.2;rw [h3]at h;unfold RW;rw [G3 h1];intro w0 FA UA w a blk FS US hr hF hU;simp only [wpList,Cp hr h2,BW];exact .inl ((KT hr hF hU (hp _ _ _ _ _ _ _ _ _ hr) h3 h4).wp λw' v blk' FS' US' k1 k2 k3 _=>h _ _ _ _ _ _ _ _ k1 k2 k3)
theorem ACl (hp:Yy P E (oA ops i) s) (h:SW P N ops m (i+1) (E.put (oA ops i).dst s) K) (hk:(PX P ops E i&&Gw N (oA ops i)&&Nat.blt i m)=true:=by kernel_rfl):SW P N ops m i E K:=by
 simp only [Al]at hk;obtain⟨h1,h2⟩:=HD hk.1.1;obtain⟨d,h3,_,h4⟩:=ES hk.1.2;rw [h3]at h;unfold SW;rw [P9 h1 hk.2];intro w0 FA UA w a blk FS US k1 k2 k3;obtain⟨v,U,g1,g2,g3⟩:=hp _ _ _ _ _ _ _ _ _ k1;have hr:=g1 w (λr _=>⟨λ_ _=>rfl,λ_ _=>rfl⟩);simp only [wpStill,Cp k1 h2,BW,Oper.still,hr,Oper.stillUpon_value];rw [h3];refine h _ _ _ _ _ _ _ _ (k1.put h4 g2 (Oz k1 g3 _)) ?_ ?_
 ·rw [Bw (by simp),k2]
 rw [Bw (by simp),k3]
theorem ACW {ts:List Nat} (i:Nat) (hp:Yy P E (oA ops i) s) (h:KW P N ops ts (i::dn) (E.put (oA ops i).dst s) Q) (hk:(PX P ops E i&&Gw N (oA ops i)&&jB ops ts dn i)=true:=by kernel_rfl):KW P N ops ts dn E Q:=by
 simp only [Al,jB]at hk;obtain⟨⟨h1,h2⟩,h3,h4⟩:=hk;obtain⟨h5,h6⟩:=HD h1;obtain⟨d,h7,_,h8⟩:=ES h2;unfold KW at h⊢;rw [TQ (i:=i) h3];rw [h7]at h;intro hQ hc w0 FA UA w a blk FS US k1 k2 k3;obtain⟨e1,e2,e3,e4,e5⟩:=Uc h4;obtain⟨v,U,g1,g2,g3⟩:=hp _ _ _ _ _ _ _ _ _ k1;refine LW (v:=v) (n:=ops.size) (I9 h5) (Region.noSelect_spec e1) (λc a w hx=>?_) e4 e5 _ _ a w hc (Region.free_spec (I9 h5) e2) e3 (.inl ⟨Cp k1 h6,λw2 e=>?_⟩) ?_
 ·obtain⟨E',blk',FS',US',m1,_⟩:=hx;exact(hQ c E' m1).elim
 ·exact g1 w2 (λr hr=>⟨λb hb=>e.2 b (k1.inF r b hb).2,λb hb=>e.2 b (k1.inU r b hb).2⟩)
 rw [h7];refine h hQ (KP hc e3) _ _ _ _ _ _ _ _ (k1.put h8 g2 (Oz k1 g3 _)) ?_ ?_
 ·rw [Bw (by simp),k2]
 rw [Bw (by simp),k3]
def ABq (o:Oper):Bool:=match o.op with
 | .assign (.const _)| .move (.const _)=>true
 |_=>false
theorem pjk {o:Oper} (h:ABq o=true:=by kernel_rfl):Yy P E o (.one .junk):=by
 intro N w0 FA UA w a blk FS US hr;unfold ABq at h;split at h
 ·rename_i v ho;exact⟨v,[],λw2 _=>by simp [execOp,ho,Act.eval],by simp [Ex,CQ,TV.isJunk],by simp⟩
 ·rename_i v ho;exact⟨v,[],λw2 _=>by simp [execOp,ho,Act.eval],by simp [Ex,CQ,TV.isJunk],by simp⟩
 cases h
def uN (P : Program) (f : Field) (j : Nat) (x y : TV) : Option Bool := bif (f.name != "_") && Nat.beq f.offset j then (match P.underlying f.type, x, y with
 |some (.int _),.int k a,.int k' b=>bif decide (k=k')then some (a==b)else none
 |some .bool,.bool a,.bool b=>some (a==b)
 |some .string,.str a,.str b=>some (a.toList==b.toList)
 |_,_,_=>none)else none
def Xr (P:Program):List Field->Nat->List TV->List TV->Option Bool
 |[],_,[],[]=>some true
 |f::fs,j,x::xs,y::ys=>match uN P f j x y,Xr P fs (j+1) xs ys with
  |some b,some c=>some (b&&c)
  |_,_=>none
 |_,_,_,_=>none
def ND (o:Oper):Bool×TypeId×Operand×Operand:=match o.op with
 | .binOp .eql t x y _=>(false,t,x,y)
 | .binOp .neq t x y _=>(true,t,x,y)
 |_=>(false,0,.tmp 0,.tmp 0)
def tZ (o:Oper):Bool:=match o.op with
 | .binOp .eql .. | .binOp .neq .. =>true
 |_=>false
def rP (P:Program) (t:TypeId):Bool:=(match P.underlying t with
 |some (.struct _)=>true
 |_=>false)&&!P.stoodInHeld t&&!P.eqGuardType P.depth t
def zZ (P:Program) (E:St) (o:Oper):Option Bool:=bif tZ o&&rP P (ND o).2.1 then(match E.val P (ND o).2.1 (ND o).2.2.1,E.val P (ND o).2.1 (ND o).2.2.2 with
 |some (.agg xs),some (.agg ys)=>Xr P (P.fieldsOf (ND o).2.1).toList 0 xs ys
 |_,_=>none)else none
theorem yP {f:Field} {r:Bool} {vx vy:Value} {F U F' U':List Nat} {a:Act} {blk:Root->Nat} {X Y:Array Value} (d:Nat) {x y:TV} (h:uN P f j x y=some r) (hx:CQ w a E blk x vx F U) (hy:CQ w a E blk y vy F' U') (kx:X[j]?=some vx) (ky:Y[j]?=some vy):
  f.name ≠ "_" ∧ ∃ a b, (∀ w2 : World, (part f.type X f.offset).run P w2 = .ok a w2) ∧ (∀ w2 : World, (part f.type Y f.offset).run P w2 = .ok b w2) ∧ ∀ w2 : World, (Op.equalIn (d + 1) f.type a b).run P w2 = .ok r w2 := by
 unfold uN at h
 cases hb : (f.name != "_" && Nat.beq f.offset j) with
 |false=>rw [hb]at h;cases h
 |true=>
  rw [hb]at h;simp only [Ae]at h;rw [Al]at hb;have hj:=B3 hb.2;subst hj;refine⟨by simpa using hb.1,?_⟩;split at h
  ·rename_i k k1 n1 k2 n2 hu
   cases hk:decide (k1=k2)with
   |false=>rw [hk]at h;cases h
   |true=>
   rw [hk]at h;have c:=HE hk;subst c;simp only [Ae]at h
   injection h with h
   subst h;obtain⟨rfl,_,_⟩:=hx;obtain⟨rfl,_,_⟩:=hy;exact⟨_,_,λw2=>run_part_plain w2 (e:=f.type) (by simp [Program.plainKey,hu]) kx,λw2=>run_part_plain w2 (e:=f.type) (by simp [Program.plainKey,hu]) ky,λw2=>run_equalIn_int w2 d f.type k1 k n1 n2 hu⟩
  ·rename_i b1 b2 hu
   injection h with h
   subst h;obtain⟨rfl,_,_⟩:=hx;obtain⟨rfl,_,_⟩:=hy;exact⟨_,_,λw2=>run_part_plain w2 (e:=f.type) (by simp [Program.plainKey,hu]) kx,λw2=>run_part_plain w2 (e:=f.type) (by simp [Program.plainKey,hu]) ky,λw2=>run_equalIn_bool' w2 d f.type b1 b2 hu⟩
  ·rename_i s1 s2 hu
   injection h with h
   subst h;obtain⟨rfl,_,_⟩:=hx;obtain⟨rfl,_,_⟩:=hy;exact⟨_,_,λw2=>run_part_plain w2 (e:=f.type) (by simp [Program.plainKey,hu]) kx,λw2=>run_part_plain w2 (e:=f.type) (by simp [Program.plainKey,hu]) ky,λw2=>run_equalIn_string w2 d f.type s1 s2 hu⟩
  cases h
theorem ZG {a:Act} {blk:Root->Nat} {X Y:Array Value} (d:Nat):∀{fs:List Field} {j:Nat} {xs ys:List TV} {vx vy:List Value} {F U F' U':List Nat} {r:Bool},Xr P fs j xs ys=some r->CT w a E blk xs vx F U->CT w a E blk ys vy F' U'->
  (∀i v,vx[i]?=some v->X[j+i]?=some v)->(∀i v,vy[i]?=some v->Y[j+i]?=some v)->∀w2:World,(Op.eqFields (d+1) X Y fs).run P w2= .ok r w2
 |[],j,xs,ys,vx,vy,F,U,F',U',r,h,hx,hy,kx,ky,w2=>by
  cases xs<;>cases ys<;>simp only [Xr,reduceCtorEq,An]at h;subst h;rfl
 |f::fs,j,xs,ys,vx,vy,F,U,F',U',r,h,hx,hy,kx,ky,w2=>by
  cases xs with
  |nil=>simp [Xr]at h
  |cons x xs=>
   cases ys with
   |nil=>simp [Xr]at h
   |cons y ys=>
    simp only [Xr]at h;split at h
    ·rename_i b c h1 h2
     injection h with h
     subst h;obtain⟨v,vs,F1,F2,U1,U2,rfl,_,_,e1,e2⟩:=hx;obtain⟨v',e,F1',F2',U1',U2',rfl,_,_,e1',e2'⟩:=hy;obtain⟨g1,A,B,g2,g3,g4⟩:=yP (X:=X) (Y:=Y) d h1 e1 e1' (kx 0 v rfl) (ky 0 v' rfl);have ih:=ZG d h2 e2 e2' (λi u hu=>by rw [Fx,Nm 1 i];exact kx (i+1) u (by simpa using hu)) (λi u hu=>by rw [Fx,Nm 1 i];exact ky (i+1) u (by simpa using hu)) w2;simp only [Op.eqFields,Ax g1,Sem.run_bind,g2,g3,g4,Result.andThen_ok];cases b
     ·simp
     simpa using ih
    cases h
theorem peq {o:Oper} (h:zZ P E o=some b):Yy P E o (.one (.bool (bif(ND o).1 then !b else b))):=by
 intro N w0 FA UA w a blk FS US hr;unfold zZ at h
 cases hb:(tZ o&&rP P (ND o).2.1)with
 |false=>rw [hb]at h;cases h
 |true=>
  rw [hb]at h;simp only [Ae]at h;rw [Al]at hb;split at h
  ·rename_i xs ys hx hy;obtain⟨U1,k1,_⟩:=JR hr hx;obtain⟨U2,k2,_⟩:=JR hr hy;simp only [Ex]at k1 k2;obtain⟨vx,e1,c1⟩:=k1;obtain⟨vy,e2,c2⟩:=k2;have hT:=hb.2;simp only [rP,Al,CE]at hT;have e:P.underlying (ND o).2.1=some (.struct (P.fieldsOf (ND o).2.1)):=by
    have:=hT.1.1;split at this
    ·rename_i fs f;simp only [Program.fieldsOf,f]
    cases this
   have c:∀w2:World,(Op.equalIn 10000 (ND o).2.1 (.agg vx.toArray) (.agg vy.toArray)).run P w2= .ok b w2:=λw2=>by
    rw [run_equalIn_struct w2 9999 _ _ _ e hT.1.2];exact ZG (X:=vx.toArray) (Y:=vy.toArray) 9998 h c1 c2 (λi v hv=>by simpa using hv) (λi v hv=>by simpa using hv) w2
   refine⟨.bool (bif(ND o).1 then !b else b),[],λw2 _=>?_,by simp [Ex,CQ,C5,Value.cells],by simp⟩;have d:=hb.1;unfold tZ at d;split at d
   ·rename_i t x y t' ho;simp only [ND,ho]at e1 e2 c hT⊢;simp [execOp,ho,e1,e2,run_eqGuard_agg w2 _ _ _ _ _ _ hT.2,run_eql_struct,c w2]
   ·rename_i t x y t' ho;simp only [ND,ho]at e1 e2 c hT⊢;simp [execOp,ho,e1,e2,run_eqGuard_agg w2 _ _ _ _ _ _ hT.2,run_neq_struct,c w2]
   cases d
  cases h
abbrev pb (n:Nat):SV:= .one (.ptr (.box n) 0 [] 0)
abbrev px (n:Nat):SV:= .one (.ptr (.ext n) 0 [] 0)
abbrev i6 (n:Int):TV:= .int .i64 n
abbrev tb (b:Bool):TV:= .bool b
abbrev ts (s:ByteArray):TV:= .str s
abbrev rg (n:Nat):List AV:=List.replicate n .gone
theorem jr {w:β} {f:V->Option β} {a:V⊕β} (h:some (.inr w)=some a) (hk:Sum.elim f some a=some r):some w=some r:=by
 injection h with h
 subst h;exact hk
theorem jo {S:Type} {w:β} {f:V->Option β} {o:S⊕(V⊕β)} (h:some (.inr (.inr w))=some o) (hk:∀w,o= .inr (.inr w)->Sum.elim f some (.inr w)=some r):some w=some r:=by
 injection h with h
 exact hk w h.symm
theorem rr {v r:β} (h:some v=some r):v=r:=Option.some.inj h
theorem rq {e:Exit} {rs:List ResultVar} {a:SV} (he:e= .normal\/e= .ret:=by first|exact .inr rfl|exact .inl rfl) (hk:(DU P E rs).map (λz=>EC z.1)=some a:=by kernel_rfl):(e= .normal\/e= .ret)/\∃ss E',DU P E rs=some (ss,E')/\EC ss=a:=⟨he,rsz hk⟩
theorem rx {e:Exit} {rs:List ResultVar} {b:SV} {a:List TV} (he:e= .normal\/e= .ret:=by first|exact .inr rfl|exact .inl rfl) (hk:(DU P E rs).map (λz=>(EC z.1,z.2.boxes (.ext 0)))=some (b,some a):=by kernel_rfl):(e= .normal\/e= .ret)/\∃ss E',DU P E rs=some (ss,E')/\EC ss=b/\E'.boxes (.ext 0)=some a:=⟨he,rsx hk⟩
section
variable {id:Nat}
theorem ws {y:Code} (h:RW P N ops 0 E (PM (λE'=>Wp P N y E' Q) Q)):Wp P N (.seq (.region id ops false) y) E Q:=Wp.seq (AAc h)
end
theorem Cz (hf:∀x,(f x).length=sz) (h:(gi l n).bind kk=some r) (hk:∀x,gi l n=some x->kk x=some r->RW P N ops (i+1) (E.put (oA ops i).dst (gH E (oA ops i) (n.toNat*sz+0))) Q) (hc:tY P E (oA ops i) sz=some (AR f l,n):=by kernel_rfl) (hq:sM P N ops i E=true:=by kernel_rfl):RW P N ops i E Q:=
 bd h λx gx h=>RW.q (IQ hf gx hc) (hk x gx h) hq
def mW (P:Program) (N:Nat) (ops:Array Oper) (ts dn:List Nat) (E:St) (i:Nat):Option St:=bif Nat.blt i ops.size&&Gw N (oA ops i)&&jB ops ts dn i then
 (match BE P ops E (oA ops i)with
 |some false=>some (E.put (oA ops i).dst (.tup []))
 |some true=>match Jl P E (oA ops i)with
  |some s=>some (E.put (oA ops i).dst s)
  |none=>xtE N E (oA ops i)
 |none=>none)else none
theorem tst {ts:List Nat} (hs:mW P N ops ts dn E i=some E') (h:KW P N ops ts (i::dn) E' Q):KW P N ops ts dn E Q:=by
 unfold mW at hs
 cases hb:(Nat.blt i ops.size&&Gw N (oA ops i)&&jB ops ts dn i)with
 |false=>rw [hb]at hs;cases hs
 |true=>
  rw [hb]at hs;simp only [Ae]at hs;split at hs
  ·rename_i hg
   injection hs with hs
   subst hs;exact ABG i h hg hb
  ·rename_i hg;simp only [Al]at hb;have ho:PX P ops E i=true:=by simp only [PX,hb.1.1,hg,HN]
   split at hs
   ·rename_i s a
    injection hs with hs
    subst hs;exact AA1 i a h (by rw [ho,hb.1.2,hb.2];rfl)
   exact Ji i (by rw [hs];exact h) (by rw [hs];rfl) (by rw [ho,hb.2];rfl)
  cases hs
def oG (P:Program) (N:Nat) (ops:Array Oper) (ts dn:List Nat) (E:St):List Nat->Option (Nat×St)
 |[]=>none
 |i::l=>match mW P N ops ts dn E i with
  |some E'=>some (i,E')
  |none=>oG P N ops ts dn E l
theorem g7 {ts:List Nat}:∀{l:List Nat} {E':St},oG P N ops ts dn E l=some (i,E')->mW P N ops ts dn E i=some E'
 |[],_,h=>by cases h
 |j::l,E',h=>by
  simp only [oG]at h;split at h
  ·rename_i E1 h1
   injection h with h
   injection h with h2 h3
   subst h2 h3;exact h1
  exact g7 h
def AAb (P:Program) (N:Nat) (ops:Array Oper) (ts:List Nat) (mv:List Nat) (E:St) (i:Nat):Option St:=bif PX P ops E i&&(kp (oA ops i)||ts.contains i)then CF P N (mv.contains i) E (oA ops i)else none
def yZ (f:A->Option (List St)):List A->Option (List St)
 |[]=>some []
 |x::l=>match f x,yZ f l with
  |some a,some b=>some (a++b)
  |_,_=>none
theorem iM {f:A->Option (List St)}:∀{l:List A} {L:List St},yZ f l=some L->∀x∈l,∃a,f x=some a/\∀E∈a,E∈L
 |[],_,_,x,hx=>by cases hx
 |y::l,L,h,x,hx=>by
  simp only [yZ]at h;split at h
  ·rename_i a b h1 h2
   injection h with h
   subst h
   rcases BA.1 hx with rfl|hx
   ·exact⟨a,h1,λE hE=>AA _ hE⟩
   obtain⟨a',h3,h4⟩:=iM h2 x hx;exact⟨a',h3,λE hE=>AK _ (h4 E hE)⟩
  cases h
def pH (P:Program) (N:Nat) (ops:Array Oper) (ts mv:List Nat):Nat->List Nat->St->Option (List St)
 |0,_,_=>none
 |n+1,dn,E=>match Region.ready .any ops (lsd ops.size dn)with
  |[]=>some [E]
  |rs=>bif Nat.blt dn.length ops.size then(match oG P N ops ts dn E rs with
   |some (i,E')=>pH P N ops ts mv n (i::dn) E'
   |none=>yZ (λi=>match AAb P N ops ts mv E i with
    |some E'=>pH P N ops ts mv n (i::dn) E'
    |none=>none) rs)else none
theorem mL {ts:List Nat} {mv:List Nat}:∀{n:Nat} {dn:List Nat} {E:St} {L:List St},pH P N ops ts mv n dn E=some L->(∀E'∈L,Q .normal E')->KW P N ops ts dn E Q
 |0,_,_,_,h,_=>by cases h
 |n+1,dn,E,L,h,hq=>by
  simp only [pH]at h;split at h
  ·rename_i hr
   injection h with h
   subst h;exact AP (hq E (by simp)) (by rw [hr];rfl)
  rename_i b
  cases hb:Nat.blt dn.length ops.size with
  |false=>rw [hb]at h;cases h
  |true=>
   rw [hb]at h;simp only [Ae]at h;split at h
   ·rename_i i E' hf;exact tst (g7 hf) (mL h hq)
   refine KW.all _ (λi hi=>?_) b (by simp only [qX,hb,eI,Vl]);obtain⟨a,h1,h2⟩:=iM h i hi;split at h1
   ·rename_i E' hs;unfold AAb at hs
    cases hc:(PX P ops E i&&(kp (oA ops i)||ts.contains i))with
    |false=>rw [hc]at hs;cases hs
    |true=>
     rw [hc]at hs;exact Ix hs (mL h1 λE'' hE=>hq E'' (h2 E'' hE)) hc
   cases h1
def s9 (P:Program) (N:Nat) (ops:Array Oper) (ts mv dn:List Nat) (E:St):List St:=(pH P N ops ts mv (ops.size+1) dn E).getD []
theorem nP {X:Prop} {c:List PanicEntry} (h:(Exit.panic c= .normal\/Exit.panic c= .ret)/\X):False:=by rcases h with⟨h|h,_⟩<;>cases h
section
variable {w0:Base} {a:Act}
theorem CU.resay (h:CU w0 FA UA N w a E blk FS US) (hd:d<N) (hs:Ex w a E blk s (a.eval (.tmp d)) [] []):∃FS' US',CU w0 FA UA N w a (E.put (some d) s) blk FS' US'/\FS' .hand=FS .hand/\US' .hand=US .hand:=by
 have k:=h.put (F:=[]) (U:=[]) hd hs Y3.none;have e:a.put (some d) (a.eval (.tmp d))=a:=by
  cases a with
  |mk tmps defers=>
   have hl:d<tmps.size:=Bb hd h.len;simp only [Act.put,Act.eval];congr 1;apply Array.ext (by simp);intro i h1 h2;rw [Array.getElem_setIfInBounds];split
   ·rename_i e;subst e;simp [hl]
   rfl
 rw [e]at k;exact⟨_,_,k,Bw (by simp),Bw (by simp)⟩
end
theorem CU.toAdr {w0:Base} {a:Act} {b:Nat} (h:CU w0 FA UA N w a E blk FS US) (hd:d<N) (hs:E.ptr? (.tmp d)=some (.ext 0,[],0)) (hp:E.amb.pin=some b):∃FS' US',CU w0 FA UA N w a (E.put (some d) (.one (.adr ⟨b,0,none⟩))) blk FS' US'/\FS' .hand=FS .hand/\US' .hand=US .hand:=by
 obtain⟨_,ad,h1,h2⟩:=Kf h hs;refine h.resay hd ?_;rw [h2];have e:=h.xblk 0;rw [h.pin b hp]at e;simp only [pa,e,Addr.add]at h1
 injection h1 with h1
 subst h1;refine⟨?_,λ_=>rfl⟩;show C5 w (.adr ⟨b,0,none⟩) _ [] [];simp [C5]
section
variable {w0:Base} {a:Act}
theorem CU.toPtr {b:Nat} (h:CU w0 FA UA N w a E blk FS US) (hd:d<N) (hs:E.slots d= .one (.adr ⟨b,0,none⟩)) (hp:E.amb.pin=some b) {f:List TV} (hb:E.boxes (.ext 0)=some f) (g:f.isEmpty=false):
  ∃FS' US',CU w0 FA UA N w a (E.put (some d) (.one (.ptr (.ext 0) (E.gen (.ext 0)) [] 0))) blk FS' US'/\FS' .hand=FS .hand/\US' .hand=US .hand:=by
 have hv:a.eval (.tmp d)= .pointer (some ⟨b,0,none⟩):=by
  have:=h.slot d;rw [hs]at this;simp only [Ex,CQ,C5]at this;exact this.1.1
 refine h.resay hd ?_;have e:=h.xblk 0;rw [h.pin b hp]at e;refine⟨⟨rfl,rfl,A4 _,λ_=>⟨?_,⟨b,0,none⟩,?_,hv⟩⟩,λ_=>by rw [hv];rfl⟩
 ·cases f with
  |nil=>cases g
  |cons c cs=>simp [St.place,St.root,hb,BY]
 simp [pa,e,Addr.add]
end
def pnE (E:St) (d b:Nat):St:=E.put (some d) (.one (.adr ⟨b,0,none⟩))
def AAt (N:Nat) (E:St) (d:Nat):Bool:=Nat.blt d N&&(match E.ptr? (.tmp d)with
 |some (.ext 0,[],0)=>true
 |_=>false)
theorem wS (h:AAt N E d=true):d<N/\E.ptr? (.tmp d)=some (.ext 0,[],0):=by
 simp only [AAt,Al]at h;refine⟨by simpa [Bq]using h.1,?_⟩;have h2:=h.2;split at h2
 ·assumption
 cases h2
theorem ABE {b:Nat} (d:Nat) (h:RW P N ops i (pnE E d b) Q) (hp:E.amb.pin=some b:=by kernel_rfl) (ho:AAt N E d=true:=by kernel_rfl):RW P N ops i E Q:=by
 intro w0 FA UA w a blk FS US hr hF hU;obtain⟨h1,h2⟩:=wS ho;obtain⟨FS',US',k1,k2,k3⟩:=hr.toAdr h1 h2 hp;exact h _ _ _ _ _ _ _ _ k1 (by rw [k2,hF]) (by rw [k3,hU])
def npE (E:St) (d:Nat):St:=E.put (some d) (.one (.ptr (.ext 0) (E.gen (.ext 0)) [] 0))
def xK (N:Nat) (E:St) (d:Nat):Bool:=Nat.blt d N&&(match E.boxes (.ext 0)with
 |some cells=>!cells.isEmpty
 |none=>false)
theorem nU (h:xK N E d=true):d<N/\∃a,E.boxes (.ext 0)=some a/\a.isEmpty=false:=by
 simp only [xK,Al]at h;refine⟨by simpa [Bq]using h.1,?_⟩;have h2:=h.2;split at h2
 ·rename_i a hc;exact⟨a,hc,by simpa using h2⟩
 cases h2
theorem iT {b:Nat} (d:Nat) (h:RW P N ops i (npE E d) Q) (hp:E.amb.pin=some b:=by kernel_rfl) (hs:E.slots d= .one (.adr ⟨b,0,none⟩):=by kernel_rfl) (ho:xK N E d=true:=by kernel_rfl):RW P N ops i E Q:=by
 intro w0 FA UA w a blk FS US hr hF hU;obtain⟨h1,c,h2,h3⟩:=nU ho;obtain⟨FS',US',k1,k2,k3⟩:=hr.toPtr h1 hs hp h2 h3;exact h _ _ _ _ _ _ _ _ k1 (by rw [k2,hF]) (by rw [k3,hU])
theorem oT {ts:List Nat} {b:Nat} (d:Nat) (h:KW P N ops ts dn (npE E d) Q) (hp:E.amb.pin=some b:=by kernel_rfl) (hs:E.slots d= .one (.adr ⟨b,0,none⟩):=by kernel_rfl) (ho:xK N E d=true:=by kernel_rfl):KW P N ops ts dn E Q:=by
 intro hq hc w0 FA UA w a blk FS US hr hF hU;obtain⟨h1,c,h2,h3⟩:=nU ho;obtain⟨FS',US',k1,k2,k3⟩:=hr.toPtr h1 hs hp h2 h3;exact h hq hc _ _ _ _ _ _ _ _ k1 (by rw [k2,hF]) (by rw [k3,hU])
structure Vm (n c b g cap:Nat) (e T T':TypeId) (sz:Nat) (rest:List Value) (enc:γ->List TV) (w:World) (l:List γ):Prop where
 ne:b≠g/\c≠g/\c≠b
 len:l.length=n
 ptr:w.heap[c]?=some (.cells #[.pointer (some ⟨b,0,none⟩)] T' (0,0))
 box:w.heap[b]?=some (.cells (.slice (some ⟨g,0,none⟩) n cap::rest).toArray T (0,0))
 row:∃cur,w.heap[g]?=some (.cells cur e (0,0))/\cur.size=cap*sz/\cur.toList.take (l.length*sz)=(AR enc l).map TV.val
 le:l.length<=cap/\cap<=maxLen
theorem nC {l:List γ} {k:Nat} {n c b g cap:Nat} {e T T':TypeId} {rest:List Value} {enc:γ->List TV} (h:Vm n c b g cap e T T' sz rest enc w l) (hk:k<l.length*sz):w.cell? ⟨g,k,none⟩=((AR enc l).map TV.val)[k]? :=by
 obtain⟨a,h1,h2,h3⟩:=h.row;rw [<-h3,BZ,Ax hk];simp [World.cell?,h1]
def HK (n c b g cap:Nat) (e T T':TypeId) (sz:Nat) (rest:List Value) (enc:γ->List TV) (l:List γ):PV where
 B:=[c,b,g]
 I:=λw=>Vm n c b g cap e T T' sz rest enc w l
 st:=λw w' h hk=>⟨h.ne,h.len,by rw [hk c (by simp)];exact h.ptr,by rw [hk b (by simp)];exact h.box,by rw [hk g (by simp)];exact h.row,h.le⟩
 rd:=λad=>if ad.spot.isSome=true then none else if ad.block=c then(if ad.off=0 then some (.pointer (some ⟨b,0,none⟩))else none)else if ad.block=b then(if ad.off=0 then some (.slice (some ⟨g,0,none⟩) n cap)else none)else if ad.block=g then(if ad.off<l.length*sz then((AR enc l).map TV.val)[ad.off]? else none)else none
 rdI:=λw ad v h hr=>by
  obtain⟨bl,off,spot⟩:=ad
  cases spot with
  |some s=>simp at hr
  |none=>
   simp only [Jf,BQ,Gp]at hr;split at hr
   ·rename_i hb;subst hb;split at hr
    ·rename_i ho;subst ho
     injection hr with hr
     subst hr;simp [World.cell?,h.ptr]
    cases hr
   split at hr
   ·rename_i hb;subst hb;split at hr
    ·rename_i ho;subst ho
     injection hr with hr
     subst hr;simp [World.cell?,h.box]
    cases hr
   split at hr
   ·rename_i hg;subst hg;split at hr
    ·rename_i ho;rw [nC h ho];exact hr
    cases hr
   cases hr
theorem eQ {sf:FuncId} {ie:TypeInfo} {c b g cap:Nat} {e T T':TypeId} {rest:List Value} {enc:γ->List TV} (h:∀x,(enc x).length=sz) (n:Nat) (gS:Bool) (hx:∀args W,(callFunc sf args).run P W=((Extern.ReflectliteSwapper.swap gS args).run P W).andThen λv w'=> .ok (.value v) w') (a3:P.info? e=some ie) (o:ie.size=sz) (h7:∀w,(isAgg e).run P w= .ok true w):
  LP P (HK n c b g cap e T T' sz rest enc) sf #[.slice (some ⟨g,0,none⟩) n cap,typeHandle P e]:=by
 intro l i j x y hi hj w hI hB;obtain⟨⟨u,h0,h8⟩,hn,p,q,h9,h3⟩:=hI;have a4:b<w.heap.size:=hB b (by simp [HK]);have a5:c<w.heap.size:=hB c (by simp [HK]);have b3:g<w.heap.size:=hB g (by simp [HK]);obtain⟨f,hg,h4,a0⟩:=h9;obtain⟨i0,i1⟩:=Ir hi;obtain⟨j0,j1⟩:=Ir hj;obtain⟨a,rfl⟩:=C1 i0;obtain⟨d,rfl⟩:=C1 j0;simp only [Ba]at i1 j1;have la:=(Ah.1 i1).1;have lc:=(Ah.1 j1).1;have hX:((enc x).map TV.val).length=sz:=by rw [Be];exact h x
 have hY:((enc y).map TV.val).length=sz:=by rw [Be];exact h y
 have r:l.length*sz<=f.size:=by rw [h4];exact BC _ h3.1
 have a6:(a+1)*sz<=l.length*sz:=BC _ la;have a7:(d+1)*sz<=l.length*sz:=BC _ lc;rw [DF]at a6 a7;have hI:Vm n c b g cap e T T' sz rest enc w l:=⟨⟨u,h0,h8⟩,hn,p,q,⟨f,hg,h4,a0⟩,h3⟩;have cell:∀(m:Nat) (z:γ),l[m]?=some z->∀k v,((enc z).map TV.val)[k]?=some v->w.cell? ⟨g,0+m*ie.size+k,none⟩=some v:=by
  intro m z hm k v hk;have a1:=(Ah.1 hk).1;rw [Be,h]at a1;have lm:=(Ah.1 hm).1;have a8:(m+1)*sz<=l.length*sz:=BC _ lm;rw [DF]at a8;rw [o,HG,nC hI (by omega)];have e1:(AR enc l)[m*sz+k]?=(enc z)[k]? :=by
   have h2:(AR enc l)[m*sz+k]?=((AR enc l).drop (m*sz))[k]? :=by rw [BP]
   rw [h2,JM h l m,Bj lm,P7];have e4:l[m]=z:=by rw [Ac lm]at hm;injection hm
   rw [e4,AM (by rw [h];exact a1)]
  rw [AQ,e1,<-AQ,hk]
 have frz:∀(m k:Nat),w.frozen? ⟨g,0+m*ie.size+k,none⟩=false:=by
  intro m k;simp [World.frozen?,hg]
 have s:=Go.Lib.run_swap_cells (P:=P) gS e ie a3 h7 g 0 n cap a d (by omega) (by omega) ((enc x).map TV.val) ((enc y).map TV.val) (by rw [hX,o]) (by rw [hY,o]) (λv hv=>by obtain⟨t,_,rfl⟩:=AJ.1 hv;exact Wh) (λv hv=>by obtain⟨t,_,rfl⟩:=AJ.1 hv;exact Wh) w (cell a x i1) (cell d y j1) (λk _=>frz a k) (λk _=>frz d k);simp only [HG,o]at s;have h1:=Je e (0,0) g ((enc y).map TV.val) (a*sz) f w hg (by rw [hY];omega);have a9:(setRow f.toList (a*sz) ((enc y).map TV.val)).toArray.size=f.size:=by
  rw [Nn,DW (by rw [hY];simp;omega)];simp
 have h2:=Je e (0,0) g ((enc x).map TV.val) (d*sz) _ _ h1 (by rw [a9,hX];omega);have kB:∀k,k<w.heap.size->k≠g->((w.setCells g (a*sz) ((enc y).map TV.val)).setCells g (d*sz) ((enc x).map TV.val)).heap[k]?=w.heap[k]? :=by
  intro k hk a2;have s1:(w.setCells g (a*sz) ((enc y).map TV.val)).heap.size=w.heap.size:=Gm g _ _ _;rw [World.heap_setCells_other _ g _ _ (by rw [s1];exact hk) a2,World.heap_setCells_other _ g _ _ hk a2]
 refine⟨(w.setCells g (a*sz) ((enc y).map TV.val)).setCells g (d*sz) ((enc x).map TV.val),?_,⟨?_,?_,?_,?_,?_⟩,?_⟩
 ·rw [hx];have ea:(#[Value.int .i64 (a:Int),Value.int .i64 (d:Int)]++ #[Value.slice (some ⟨g,0,none⟩) n cap,typeHandle P e])= #[.int .i64 (a:Int),.int .i64 (d:Int),.slice (some ⟨g,0,none⟩) n cap,typeHandle P e]:=rfl;rw [ea,s];rfl
 ·rw [World.os_setCells,World.os_setCells]
 ·rw [IU,IU]
 ·rw [World.output_setCells,World.output_setCells]
 ·rw [Gm,Gm];exact A4 _
 ·intro k hk b0;exact kB k hk (λe=>b0 (by rw [e];simp [HK]))
 have h5:(si (si l (a:Int) y) (d:Int) x).length=l.length:=by simp [si]
 have lcur:f.toList.length=f.size:=by simp
 have h6:(setRow f.toList (a*sz) ((enc y).map TV.val)).length=f.size:=by rw [DW (by rw [hY,lcur];omega),lcur]
 have b1:(setRow (setRow f.toList (a*sz) ((enc y).map TV.val)) (d*sz) ((enc x).map TV.val)).length=f.size:=by rw [DW (by rw [hX,h6];omega),h6]
 show Vm n c b g cap e T T' sz rest enc _ (si (si l (a:Int) y) (d:Int) x);refine⟨⟨u,h0,h8⟩,h5.trans hn,by rw [kB c a5 h0];exact p,by rw [kB b a4 u];exact q,⟨_,h2,?_,?_⟩,by rw [h5];exact h3⟩
 ·rw [Nn];exact b1.trans h4
 rw [h5];show((setRow (setRow f.toList (a*sz) ((enc y).map TV.val)) (d*sz) ((enc x).map TV.val))).take (l.length*sz)=_;rw [Ln (by rw [hX];omega) (by rw [h6];exact r),Ln (by rw [hY];omega) (by rw [lcur];exact r),a0,<-Pk,<-Pk];have e1:setRow (AR enc l) (a*sz) (enc y)=AR enc (si l (a:Int) y):=by
  have:=Rp h (z:=y) hi
  rwa [Ba]at this
 obtain⟨z0,b2⟩:∃z0,gi (si l (a:Int) y) (d:Int)=some z0:=by
  have lc2:d<(si l (a:Int) y).length:=by simp only [si,EN];exact lc
  refine⟨(si l (a:Int) y)[d],?_⟩;unfold gi;rw [Ax (by omega),Ba];exact Ac lc2
 have e2:=Rp h (z:=x) b2;rw [Ba]at e2;rw [e1,e2]
theorem nK {l:List γ} {n c b g cap:Nat} {e T T':TypeId} {rest:List Value} {enc:γ->List TV}:(HK n c b g cap e T T' sz rest enc l).rd ⟨c,0,none⟩=some (.pointer (some ⟨b,0,none⟩)):=by
 simp [HK]
theorem nL {l:List γ} {n c b g cap:Nat} {e T T':TypeId} {rest:List Value} {enc:γ->List TV} (h:c≠b):(HK n c b g cap e T T' sz rest enc l).rd ⟨b,0,none⟩=some (.slice (some ⟨g,0,none⟩) n cap):=by
 simp [HK,h.symm]
theorem nJ {l:List γ} {i:Int} {k:Nat} {n c b g cap:Nat} {e T T':TypeId} {rest:List Value} {enc:γ->List TV} (a:∀x,(enc x).length=sz) {x:γ} {t:TV} {ad:Addr} (hi:gi l i=some x) (hk:(enc x)[k]?=some t) (hb:b≠g) (hc:c≠g) (f:ad=⟨g,i.toNat*sz+k,none⟩):(HK n c b g cap e T T' sz rest enc l).rd ad=some t.val:=by
 subst f;obtain⟨i0,i1⟩:=Ir hi;have lm:=(Ah.1 i1).1;have d:=(Ah.1 hk).1;rw [a]at d;have h:(i.toNat+1)*sz<=l.length*sz:=BC _ lm;rw [DF]at h;have e1:(AR enc l)[i.toNat*sz+k]?=(enc x)[k]? :=by
  have h2:(AR enc l)[i.toNat*sz+k]?=((AR enc l).drop (i.toNat*sz))[k]? :=by rw [BP]
  rw [h2,JM a l i.toNat,Bj lm,P7];have e4:l[i.toNat]=x:=by rw [Ac lm]at i1;injection i1
  rw [e4,AM (by rw [a];exact d)]
 simp only [HK,Jf,BQ,Gp];rw [Ay (λe=>hc e.symm),Ay (λe=>hb e.symm),BW,Ax (by omega),AQ,e1,hk];rfl
theorem vI {o:Oper} (d:Nat) {ad:Addr} {x:Nat} (hk:GS P N ops rest (E.put (some d) (.one (.adr ad))) K) (hs:E.slots x= .one (.adr ad)) (ho:o.op= .nilCheck (.tmp x):=by rfl) (hd:o.dst=some d:=by rfl) (hN:Nat.blt d N=true:=by rfl) (hg:BE P ops E o=some true:=by rfl):GS P N ops (o::rest) E K:=
 GS.any d (.adr ad) hk (λw0 FA UA w a blk FS US h=>by
  have h1:=d8 h hs;refine⟨.pointer (some ad),?_,by simp [C5],rfl⟩
  simp [execOp,ho,h1,Instr.sureAddr]) hd hN hg
def SL (o:Oper):Nat:=o.dst.getD 0
def ABU (E:St) (ops:Array Oper) (i:Nat) (r:Root) (t:TV):St:=((((((E.put (some (SL (oA ops i))) (.one .junk)).put (some (SL (oA ops (i+1)))) (.one .junk))).setRoot r [t]).bump r).put (some (SL (oA ops (i+2)))) (.tup []))
def AAi:Operand->Nat
 | .tmp n=>n
 |_=>0
def eV (o:Oper):Nat:=match o.op with
 | .makeInterface _ x=>AAi x
 |_=>0
def bE (o:Oper):Nat:=match o.op with
 | .makeFunc _ _ c=>AAi (c[0]?.getD (.tmp 0))
 |_=>0
def AAk (o:Oper):Array TypeId:=match o.op with
 | .call c=>c.argTypes
 |_=> #[]
def Zr (s:SV):Nat:=match s with
 | .one (.view _ v _ _)=>v
 |_=>0
theorem AAR {rr:β} {l:List γ} {kk:List γ->Option β} {x:Option (List γ)} (h:x.bind kk=some rr) {enc:γ->List TV} {sz e t:Nat} {a:FuncId} (r:Root) (hs:∀l',x=some l'->W8 P (O1 (oA ops (i+2))) t e sz enc a l l') (hk:∀l',x=some l'->kk l'=some rr->RW P N ops (i+3) (ABU E ops i r (.sl true e sz (AR enc l'))) Q) (b:∀x,(enc x).length=sz) (d:∀x,(enc x).all TV.flat=true) (hx:E.slots (eV (oA ops i))= .one (.view r (Zr (E.slots (eV (oA ops i)))) [] 0):=by kernel_rfl) (c:E.ver r=Zr (E.slots (eV (oA ops i))):=by kernel_rfl) (hp:E.ptr? (.tmp (bE (oA ops (i+1))))=some (r,[],0):=by kernel_rfl) (hc:E.boxes r=some [.sl true e sz (AR enc l)]:=by kernel_rfl) (hm:r.mem=true:=by kernel_rfl) (h1:(oA ops i).op= .makeInterface t (.tmp (eV (oA ops i))):=by kernel_rfl) (h2:(oA ops (i+1)).op= .makeFunc (.func a) #[] #[.tmp (bE (oA ops (i+1)))]:=by kernel_rfl) (h3:(oA ops (i+2)).op= .call {callee:= .value (.func (O1 (oA ops (i+2)))),args:= #[.tmp (SL (oA ops i)),.tmp (SL (oA ops (i+1)))],argTypes:=AAk (oA ops (i+2))}:=by kernel_rfl) (k1:(oA ops i).dst=some (SL (oA ops i)):=by kernel_rfl) (k2:(oA ops (i+1)).dst=some (SL (oA ops (i+1))):=by kernel_rfl) (k3:(oA ops (i+2)).dst=some (SL (oA ops (i+2))):=by kernel_rfl) (g1:(oA ops i).guard=none:=by kernel_rfl) (g2:(oA ops (i+1)).guard=none:=by kernel_rfl) (g3:(oA ops (i+2)).guard=none:=by kernel_rfl) (hN:(Nat.blt (SL (oA ops i)) N&&Nat.blt (SL (oA ops (i+1))) N&&Nat.blt (SL (oA ops (i+2))) N&&!Nat.beq (SL (oA ops i)) (SL (oA ops (i+1)))&&!Nat.beq (bE (oA ops (i+1))) (SL (oA ops i))&&Nat.blt 0 sz&&Nat.blt (i+2) ops.size)=true:=by kernel_rfl) (ht:P.underlying t=some (.slice e):=by kernel_rfl) (hf:Sa P N (oA ops (i+2))=true:=by kernel_rfl):RW P N ops i E Q:=by
 obtain⟨l',hl',h⟩:=Ar.1 h;simp only [Al,CE]at hN;obtain⟨⟨⟨⟨⟨⟨q1,q2⟩,q3⟩,q4⟩,q5⟩,q6⟩,q7⟩:=hN;have b2:Nat.blt (i+1) ops.size=true:=by rw [Bq]at q7⊢;omega
 have b1:Nat.blt i ops.size=true:=by rw [Bq]at q7⊢;omega
 have hk':=hk l' hl' h;unfold RW at hk'⊢;rw [G3 b1,G3 b2,G3 q7];exact zE (hs l' hl') hk' b d hx c hp hc hm h1 h2 h3 k1 k2 k3 g1 g2 g3 q1 q2 q3 q4 q5 q6 ht (NF hf).choose_spec.choose_spec.2.1
def d7 (o:Oper):Nat:=match o.op with
 | .call c=>match c.args.toList with
  |[x]=>AAi x
  |_=>0
 |_=>0
def eK (s:SV):Nat:=match s with
 | .one (.view (.slot n) _ _ _)=>n
 |_=>0
def Uo (P:Program) (f:FuncId) (t e sz:Nat) (enc:γ->List TV) (g:FuncId) (l l':List γ):Prop:=
 ∀(w:World) (c b:Nat) (v:Value) (rest:List Value) (T T':TypeId),w.heap[c]?=some (.cells #[.pointer (some ⟨b,0,none⟩)] T' (0,0))->w.heap[b]?=some (.cells (v::rest).toArray T (0,0))->w.ownsRow 0 e sz v l.length ((AR enc l).map TV.val)->b∉Cf v->c∉Cf v->c≠b->
  Calls P f #[.iface t v,.func (.func g) #[] #[.pointer (some ⟨c,0,none⟩)]] w λr w'=>r= .returned (.tuple #[])/\GQ w w' (c::b::Cf v)/\w'.heap[c]?=w.heap[c]? /\w'.heap[b]?=w.heap[b]? /\w'.ownsRow 0 e sz v l'.length ((AR enc l').map TV.val)
def tX (c b:Nat) (v:Value) (rest:List Value) (T T':TypeId) (e sz n:Nat) (xs:List Value):PV where
 B:=c::b::Cf v
 I:=λw=>w.heap[c]?=some (.cells #[.pointer (some ⟨b,0,none⟩)] T' (0,0))/\w.heap[b]?=some (.cells (v::rest).toArray T (0,0))/\w.ownsRow 0 e sz v n xs
 st:=λw w' h hk=>⟨by rw [hk c (by simp)];exact h.1,by rw [hk b (by simp)];exact h.2.1,h.2.2.1,by
  rcases h.2.2.2 with q|⟨g,cap,a,rfl,q1,q2,q3⟩
  ·exact .inl q
  exact .inr ⟨g,cap,a,rfl,q1,by rw [hk g (by simp [Cf,Value.ownBlock])];exact q2,q3⟩⟩
theorem zF {l l':List γ} {rc:Root} {o1 o2 o3:Oper} {ver:Nat} {enc:γ->List TV} {sz e t:Nat} {f g:FuncId} {rs:List TV} {d1 d2 d3 x p b0:Nat} {tys:Array TypeId} (hs:Uo P f t e sz enc g l l') (hk:He P N ops rest (((((E.put (some d1) (.one .junk)).put (some d2) (.one .junk)).setRoot (.ext 0) (.sl true e sz (AR enc l')::rs)).bump (.ext 0)).put (some d3) (.tup [])) Q) (u:∀x,(enc x).length=sz) (j:∀x,(enc x).all TV.flat=true) (hpin:E.amb.pin=some b0) (hx:E.slots x= .one (.view (.ext 0) ver [] 0)) (y:E.ver (.ext 0)=ver) (hp:E.ptr? (.tmp p)=some (rc,[],0)) (hc:E.boxes (.ext 0)=some (.sl true e sz (AR enc l)::rs)) (c:E.boxes rc=some [.adr ⟨b0,0,none⟩]) (hm:rc.mem=true) (h1:o1.op= .makeInterface t (.tmp x)) (h2:o2.op= .makeFunc (.func g) #[] #[.tmp p]) (h3:o3.op= .call {callee:= .value (.func f),args:= #[.tmp d1,.tmp d2],argTypes:=tys}) (k1:o1.dst=some d1) (k2:o2.dst=some d2) (k3:o3.dst=some d3) (g1:o1.guard=none) (g2:o2.guard=none) (g3:o3.guard=none) (h9:Nat.blt d1 N=true) (a0:Nat.blt d2 N=true) (a1:Nat.blt d3 N=true) (a2:Nat.beq d1 d2=false) (z:Nat.beq p d1=false) (a3:Nat.blt 0 sz=true) (ht:P.underlying t=some (.slice e)) (hf:Zd P f):He P N ops (o1::o2::o3::rest) E Q:=by
 have hN1':d1<N:=by simpa [Bq]using h9
 have hN2':d2<N:=by simpa [Bq]using a0
 have hN3':d3<N:=by simpa [Bq]using a1
 have hne':d1≠d2:=by intro e;subst e;simp at a2
 have hne2':p≠d1:=by intro e;subst e;simp at z
 have hsz':0<sz:=by simpa [Bq]using a3
 have a4:rc≠ .ext 0:=by
  rintro rfl;rw [hc]at c
  injection c with c
  injection c with c
  cases c
 intro w0 FA UA w a blk FS US hr hF hU;have h0:blk (.ext 0)=b0:=by rw [hr.xblk,hr.pin b0 hpin]
 obtain⟨v,vs,T,F2,U1,U2,b1,b2,b3,b4,b5⟩:∃v vs T F2 U1 U2,w.heap[blk (.ext 0)]?=some (.cells (v::vs).toArray T (0,0))/\(∃F1,C5 w (.sl true e sz (AR enc l)) v F1 U1/\FS (.ext 0)=blk (.ext 0)::(F1++F2))/\B5 w rs vs F2 U2/\US (.ext 0)=U1++U2/\True:=by
  rcases hr.box (.ext 0) rfl with⟨q1,_⟩|⟨cs,h,T,F,q1,q2,q3,q4⟩
  ·rw [hc]at q1;cases q1
  rw [hc]at q1
  injection q1 with q1
  subst q1;simp only [B5]at q3;obtain⟨v,k,F1,F2,U1,U2,e1,rfl,e3,q5,q6⟩:=q3;have:h=(v::k).toArray:=by apply Sc;simpa using e1
  subst this;exact⟨v,k,T,F2,U1,U2,q2,⟨F1,q5,q4⟩,q6,e3,trivial⟩
 obtain⟨F1,b2,b6⟩:=b2;obtain⟨T',c1⟩:∃T',w.heap[blk rc]?=some (.cells #[.pointer (some ⟨b0,0,none⟩)] T' (0,0)):=by
  rcases hr.box rc hm with⟨q1,_⟩|⟨cs,h,T,F,q1,q2,q3,q4⟩
  ·rw [c]at q1;cases q1
  rw [c]at q1
  injection q1 with q1
  subst q1;simp only [B5,C5]at q3;obtain⟨v,k,F1,F2,U1,U2,e1,rfl,e3,⟨rfl,_⟩,rfl,_⟩:=q3;have:h= #[.pointer (some ⟨b0,0,none⟩)]:=by apply Sc;simpa using e1
  subst this;exact⟨T,q2⟩
 have a5:blk rc∈FS rc:=by
  rcases hr.box rc hm with⟨q1,_⟩|⟨cs,h,T,F,q1,q2,q3,q4⟩
  ·rw [c]at q1;cases q1
  rw [q4];simp
 simp only [C5]at b2;obtain⟨n,xs,F',b7,b8,rfl⟩:=b2;have a6:=TB b8 (FU j l);obtain⟨rfl,rfl⟩:=KH b8 (FU j l);subst a6;have a7:n=l.length:=by
  have q:=b7.1;rw [Be,Fu u l]at q;exact(Nat.eq_of_mul_eq_mul_right hsz' q).symm
 subst a7;rw [Az]at b6;rw [A6]at b4;have h4:=hr.nodup (.ext 0);rw [b6]at h4
 have a8:blk (.ext 0)∉Cf v:=λhx=>(D0.1 h4).1 (AA _ hx)
 have h5:∀x∈FS (.ext 0),x≠blk rc:=λx hx e=>hr.dis _ _ a4 _ a5 (e▸hx)
 have a9:blk rc∉Cf v:=λhx=>h5 (blk rc) (by rw [b6];exact Dq _ (AA _ hx)) rfl
 have c0:blk rc≠blk (.ext 0):=λe=>h5 (blk (.ext 0)) (by rw [b6];simp) e.symm
 have evx:a.eval (.tmp x)=v:=by
  have q:=hr.slot x;rw [hx]at q;simp only [Ex,CQ]at q;obtain⟨⟨_,_,_,q4⟩,_⟩:=q;obtain⟨q5,_⟩:=q4 y;simpa [pv,BV,Addr.add,World.cell?,b1]using q5.symm
 have evp:a.eval (.tmp p)= .pointer (some ⟨blk rc,0,none⟩):=by
  obtain⟨_,ad,q1,q2⟩:=Kf hr hp;rw [q2]
  cases rc with
  |slot n=>cases hm
  |hand=>cases hm
  |box n=>simp [pa,Addr.add]at q1;rw [<-q1]
  |ext n=>simp [pa,Addr.add]at q1;rw [<-q1]
 obtain⟨FS1,US1,r1,r2,r3⟩:=TR hr hF hU hN1' (.iface t v);have e1:(execOp a.eval o1).run P w= .ok (.value (.iface t v)) w:=by
  simp [execOp,h1,Instr.makeInterface,run_underlying ht,evx]
 simp only [wpList,Cp hr (Js (P:=P) (ops:=ops) g1),BW];refine .inl ?_
 try unfold Oper.wp
 rw [e1,Oper.upon_value,k1];have evp1:(a.put (some d1) (.iface t v)).eval (.tmp p)= .pointer (some ⟨blk rc,0,none⟩):=by rw [Dw hne2',evp]
 obtain⟨FS2,US2,s1,s2,s3⟩:=TR r1 r2 r3 hN2' (.func (.func g) #[] #[.pointer (some ⟨blk rc,0,none⟩)]);have e2:(execOp (a.put (some d1) (.iface t v)).eval o2).run P w= .ok (.value (.func (.func g) #[] #[.pointer (some ⟨blk rc,0,none⟩)])) w:=by
  simp [execOp,h2,Instr.makeFunc,evp1]
 simp only [wpList,Cp r1 (Js (P:=P) (ops:=ops) g2),BW];refine .inl ?_
 try unfold Oper.wp
 rw [e2,Oper.upon_value,k2];simp only [wpList,Cp s1 (Js (P:=P) (ops:=ops) g3),BW];refine .inl ?_;have c2:d1<a.tmps.size:=Bb hN1' hr.len;have c6:d2<(a.put (some d1) (.iface t v)).tmps.size:=Bb hN2' r1.len
 try unfold Oper.wp
 rw [Ie h3 hf];have ea: #[Operand.tmp d1,.tmp d2].map ((a.put (some d1) (.iface t v)).put (some d2) (.func (.func g) #[] #[.pointer (some ⟨blk rc,0,none⟩)])).eval= #[.iface t v,.func (.func g) #[] #[.pointer (some ⟨blk rc,0,none⟩)]]:=by
  simp [Gh c6,Dw hne',Gh c2]
 rw [ea];simp only [Oper.upon];refine Calls.mono (hs w (blk rc) (blk (.ext 0)) v vs T T' (by rw [h0];exact c1) b1 b7 a8 a9 c0) ?_;rintro ee w' ⟨rfl,i,c7,h6,c8⟩;have o:((E.put (some d1) (.one .junk)).put (some d2) (.one .junk)).boxes (.ext 0)=some (.sl true e sz (AR enc l)::rs):=hc;obtain⟨G1,G2,V2,f1,f2,f3,f4⟩:∃G1 G2 V2,FS2 (.ext 0)=blk (.ext 0)::(G1++G2)/\G1=Cf v/\US2 (.ext 0)=V2/\B5 w rs vs G2 V2:=by
  rcases s1.box (.ext 0) rfl with⟨q1,_⟩|⟨cs,h,T2,F2,q1,q2,q3,q4⟩
  ·rw [o]at q1;cases q1
  rw [o]at q1
  injection q1 with q1
  subst q1;rw [b1]at q2
  injection q2 with q2
  injection q2 with q2
  subst q2;simp only [B5]at q3;obtain⟨v2,k,F3,F4,U1,U2,e1,rfl,e3,q5,q6⟩:=q3;simp at e1;obtain⟨rfl,rfl⟩:=e1;simp only [C5]at q5;obtain⟨n,vs,F',c4,c5,rfl⟩:=q5;obtain⟨rfl,rfl⟩:=KH c5 (FU j l);exact⟨_,_,_,q4,by simp,by rw [e3];rfl,q6⟩
 subst f2;have m:=s1.nodup (.ext 0);rw [f1]at m;have d0:blk rc∈FS2 rc:=by
  have h7:((E.put (some d1) (.one .junk)).put (some d2) (.one .junk)).boxes rc=some [.adr ⟨b0,0,none⟩]:=c
  rcases s1.box rc hm with⟨q1,_⟩|⟨cs,h,T,F,q1,q2,q3,q4⟩
  ·rw [h7]at q1;cases q1
  rw [q4];simp
 have keepb:∀b,b<w.heap.size->b∉Cf v->w'.heap[b]?=w.heap[b]? :=by
  intro b hb hv;by_cases q1:b=blk rc
  ·rw [q1];exact c7
  by_cases q2:b=blk (.ext 0)
  ·rw [q2];exact h6
  exact i.keep b hb (by simp only [BA,not_or];exact⟨q1,q2,hv⟩)
 have h8:GQ w w' (FS2 (.ext 0)):=⟨i.os,i.tape,i.output,i.size,λb hb hn=>keepb b hb (λhv=>hn (by rw [f1];exact Dq _ (AA _ hv)))⟩
 have hG:∀b∈G2,w'.heap[b]?=w.heap[b]? :=λb hb=>keepb b (s1.inF (.ext 0) b (by rw [f1];exact Dq _ (AK _ hb))).2
  (λhv=>(Br.1 (D0.1 m).2).2.2 b hv b hb rfl)
 have hV:∀b∈V2,w'.heap[b]?=w.heap[b]? :=λb hb=>keepb b (s1.inU (.ext 0) b (by rw [f3];exact hb)).2
  (λhv=>s1.disU (.ext 0) (.ext 0) b (by rw [f1];exact Dq _ (AA _ hv)) (by rw [f3];exact hb))
 obtain⟨FS3,US3,t1,t2,t3⟩:=s1.turn s2 s3 (r:= .ext 0) rfl o (cells':= .sl true e sz (AR enc l')::rs) (by simp) (w':=w') h8
  ⟨(
   v::vs).toArray,T,Cf v++G2,by rw [h6];exact b1,by
   rw [f3];simp only [B5];refine⟨v,vs,Cf v,G2,[],V2,by simp,rfl,rfl,?_,FP f4 hG hV⟩;simp only [C5]
   exact⟨l'.length,_,[],c8,Te (FU j l'),by simp⟩,f1⟩
 obtain⟨FS4,US4,u1,u2,u3⟩:=t1.land (w':=w') (d:=d3) (s:= .tup []) (v:= .tuple #[]) (F:=[]) (U:=[]) hN3' (by simp [Ex,NL]) C6 (by simp) (by simp) (A4 _) rfl rfl rfl (λ_ _ _=>rfl);rw [k3];exact hk _ _ _ _ _ _ _ _ u1 u2 u3
def zK:Option (List TV)->List TV
 |some (_::ts)=>ts
 |_=>[]
def rt0:Option (Root×List Nat×Nat)->Root
 |some (r,_,_)=>r
 |none=> .hand
def s2E (E:St) (ops:Array Oper) (i:Nat) (t:TV):St:=((((((E.put (some (SL (oA ops i))) (.one .junk)).put (some (SL (oA ops (i+1)))) (.one .junk))).setRoot (.ext 0) (t::zK (E.boxes (.ext 0)))).bump (.ext 0)).put (some (SL (oA ops (i+2)))) (.tup []))
theorem AAS {rr:β} {l:List γ} {kk:List γ->Option β} {x:Option (List γ)} (h:x.bind kk=some rr) {enc:γ->List TV} {sz e t b0:Nat} {a:FuncId} (hs:∀l',x=some l'->Uo P (O1 (oA ops (i+2))) t e sz enc a l l') (hk:∀l',x=some l'->kk l'=some rr->RW P N ops (i+3) (s2E E ops i (.sl true e sz (AR enc l'))) Q) (b:∀x,(enc x).length=sz) (d:∀x,(enc x).all TV.flat=true) (hpin:E.amb.pin=some b0:=by kernel_rfl) (hx:E.slots (eV (oA ops i))= .one (.view (.ext 0) (Zr (E.slots (eV (oA ops i)))) [] 0):=by kernel_rfl) (c:E.ver (.ext 0)=Zr (E.slots (eV (oA ops i))):=by kernel_rfl) (hp:E.ptr? (.tmp (bE (oA ops (i+1))))=some (rt0 (E.ptr? (.tmp (bE (oA ops (i+1))))),[],0):=by kernel_rfl) (hc:E.boxes (.ext 0)=some (.sl true e sz (AR enc l)::zK (E.boxes (.ext 0))):=by kernel_rfl) (f:E.boxes (rt0 (E.ptr? (.tmp (bE (oA ops (i+1))))))=some [.adr ⟨b0,0,none⟩]:=by kernel_rfl) (hm:(rt0 (E.ptr? (.tmp (bE (oA ops (i+1)))))).mem=true:=by kernel_rfl) (h1:(oA ops i).op= .makeInterface t (.tmp (eV (oA ops i))):=by kernel_rfl) (h2:(oA ops (i+1)).op= .makeFunc (.func a) #[] #[.tmp (bE (oA ops (i+1)))]:=by kernel_rfl) (h3:(oA ops (i+2)).op= .call {callee:= .value (.func (O1 (oA ops (i+2)))),args:= #[.tmp (SL (oA ops i)),.tmp (SL (oA ops (i+1)))],argTypes:=AAk (oA ops (i+2))}:=by kernel_rfl) (k1:(oA ops i).dst=some (SL (oA ops i)):=by kernel_rfl) (k2:(oA ops (i+1)).dst=some (SL (oA ops (i+1))):=by kernel_rfl) (k3:(oA ops (i+2)).dst=some (SL (oA ops (i+2))):=by kernel_rfl) (g1:(oA ops i).guard=none:=by kernel_rfl) (g2:(oA ops (i+1)).guard=none:=by kernel_rfl) (g3:(oA ops (i+2)).guard=none:=by kernel_rfl) (hN:(Nat.blt (SL (oA ops i)) N&&Nat.blt (SL (oA ops (i+1))) N&&Nat.blt (SL (oA ops (i+2))) N&&!Nat.beq (SL (oA ops i)) (SL (oA ops (i+1)))&&!Nat.beq (bE (oA ops (i+1))) (SL (oA ops i))&&Nat.blt 0 sz&&Nat.blt (i+2) ops.size)=true:=by kernel_rfl) (ht:P.underlying t=some (.slice e):=by kernel_rfl) (hf:Sa P N (oA ops (i+2))=true:=by kernel_rfl):RW P N ops i E Q:=by
 obtain⟨l',hl',h⟩:=Ar.1 h;simp only [Al,CE]at hN;obtain⟨⟨⟨⟨⟨⟨q1,q2⟩,q3⟩,q4⟩,q5⟩,q6⟩,q7⟩:=hN;have b2:Nat.blt (i+1) ops.size=true:=by rw [Bq]at q7⊢;omega
 have b1:Nat.blt i ops.size=true:=by rw [Bq]at q7⊢;omega
 have hk':=hk l' hl' h;unfold RW at hk'⊢;rw [G3 b1,G3 b2,G3 q7];exact zF (hs l' hl') hk' b d hpin hx c hp hc f hm h1 h2 h3 k1 k2 k3 g1 g2 g3 q1 q2 q3 q4 q5 q6 ht (NF hf).choose_spec.choose_spec.2.1
theorem ACe {f:FuncId} {c:Code} {a cells':List TV} {b:SV} (hf:P.funcs[f]?=some fn) (hb:fn.body=some c) (hN:fn.ntmps=N) (h:∀b0,Wp P N c (DH (.ext a::as) (fX b0)) λe E=>(e= .normal\/e= .ret)/\∃ss E',DU P E fn.results.toList=some (ss,E')/\EC ss=b/\E'.boxes (.ext 0)=some cells') (d:cells'.isEmpty=false:=by rfl):AL P f (.ext a::as) b (.ext cells'::List.replicate as.length .gone):=XR fX wT hf hb (by rw [hN];exact h) d
end Go.TI
