/- What walks of Go code need. No condition. -/
import Derived.Test.YtnlbnbfafkgldaaGreatSWT2
import Derived.KernelRfl
import Derived.Laws.StructEq
set_option linter.unusedVariables false
namespace Go.TI
open Go Go.RowKit
def oA (ops:Array Oper) (i:Nat):Oper:=match ops[i]? with
 |some o=>o
 | none => { dst := none, op := .load 0 (.tmp 0), type := 0, pos := "", after := #[], guard := none }
variable {E E':St} {P:Program} {N i sz m d by_ j:Nat} {Q:Exit->St->Prop} {ops ops2:Array Oper} {α β V γ S W A:Type} {dn FA UA:List Nat} {n:Int} {s:SV} {w:World} {y:Code} {K:St->Prop} {as:List AV} {blk:Root->Nat} {fn:Func} {FS US:Root->List Nat} {b mv:Bool} {row row':List TV} {t':TV} {sf:FuncId} {rest:List Oper} {r:β} {f:α->List TV} {l:List α} {kk:α->Option β} {s0:S} {tx:Option β} {ty:Option β} {k:V->Option β} {u:List α} {Am:List γ->Nz} {l':List γ} {fin:α->List TV} {xl:List γ}
theorem H0 {ops:Array Oper} (h:Nat.blt i ops.size=true):ops[i]?=some (oA ops i):=by
 have:i<ops.size:=by simpa[Bi]using h
 unfold oA;rw[Array.getElem?_eq_getElem this]
theorem FT {ops:Array Oper} (h:Nat.blt i ops.size=true):ops.toList.drop i=oA ops i::ops.toList.drop (i+1):=by
 have hi:i<ops.toList.length:=by simpa[Bi]using h
 have h1:=H0 h;rw[<-Array.getElem?_toList,Ad hi]at h1
 injection h1 with h1
 rw[BP hi,h1]
def PB (P:Program) (ops:Array Oper) (E:St) (i:Nat):Bool:=Nat.blt i ops.size&&(match Bp P ops E (oA ops i)with|some b=>b|none=>false)
theorem Hd {ops:Array Oper} (h:PB P ops E i=true):Nat.blt i ops.size=true/\Bp P ops E (oA ops i)=some true:=by
 simp only[PB,Ai]at h;refine⟨h.1,?_⟩;have h2:=h.2;split at h2
 ·rename_i b hb;rw[hb,h2]
 cases h2
def EW (N:Nat) (o:Oper):Bool:=match o.dst with
 |some d=>Nat.blt d N
 |none=>false
theorem DS {o:Oper} (h:EW N o=true):∃d,o.dst=some d/\Nat.blt d N=true/\d<N:=by
 unfold EW at h;split at h
 ·rename_i d hd;exact⟨d,hd,h,by simpa[Bi]using h⟩
 cases h
def kY (P:Program) (N:Nat) (ops:Array Oper) (mv:Bool) (E:St) (i:Nat):Option St:=bif Nat.blt i ops.size then
  match Bp P ops E (oA ops i)with
  |some true=>Cc P N mv E (oA ops i)
  |some false=>bif EW N (oA ops i)then some (E.put (oA ops i).dst (.tup []))else none
  |none=>none else none
def NR (P:Program) (N:Nat) (ops:Array Oper):Nat->Nat->Nat->St->Option St
 |0,_,_,E=>some E
 |k+1,m,i,E=>match kY P N ops (Nat.beq (m %2) 1) E i with
  |some E'=>NR P N ops k (m/2) (i+1) E'
  |none=>none
def M5 (P:Program) (N:Nat) (ops:Array Oper) (k m i:Nat) (E:St):St:=(NR P N ops k m i E).getD E
theorem getD_some {α:Type _} {x:Option α} {a:α} (h:x.isSome=true):x=some (x.getD a):=by
 cases x with
 |none=>cases h
 |some y=>rfl
def RW (P:Program) (N:Nat) (ops:Array Oper) (i:Nat) (E:St) (Q:Exit->St->Prop):Prop:=EY P N ops (ops.toList.drop i) E Q
def SW (P:Program) (N:Nat) (ops:Array Oper) (m i:Nat) (E:St) (K:St->Prop):Prop:=Fx P N ops ((ops.toList.take m).drop i) E K
theorem bd {k:α->Option β} {G:Prop} {x:Option α} (h:x.bind k=some r) (hk:∀a,x=some a->k a=some r->G):G:=by
 obtain⟨a,ha,h⟩:=Ao.1 h;exact hk a ha h
theorem RW.nil (h:Q .normal E) (hi:Nat.ble ops.size i=true:=by kernel_rfl):RW P N ops i E Q:=by
 have:ops.size<=i:=by simpa[Mh]using hi
 unfold RW;rw[Cx (by simpa using this)];exact EY.nil h
theorem BL (hs:Cc P N mv E (oA ops i)=some E') (h:RW P N ops (i+1) E' Q) (hk:PB P ops E i=true:=by kernel_rfl):RW P N ops i E Q:=by
 obtain⟨h1,h2⟩:=Hd hk;unfold RW;rw[FT h1];exact EY.op mv h2 hs h
theorem RW.st (hs:kY P N ops mv E i=some E') (h:RW P N ops (i+1) E' Q):RW P N ops i E Q:=by
 unfold kY at hs
 cases hi:Nat.blt i ops.size with
 |false=>rw[hi]at hs;cases hs
 |true=>
  rw[hi]at hs;simp only[Af]at hs;unfold RW;rw[FT hi];split at hs
  ·rename_i hg;exact EY.op mv hg hs h
  ·rename_i hg
   cases hd:EW N (oA ops i)with
   |false=>rw[hd]at hs;cases hs
   |true=>
    rw[hd]at hs;simp only[Af]at hs
    injection hs with hs
    subst hs;obtain⟨d,h1,_,h2⟩:=DS hd;rw[h1]at h;exact oC h1 h2 hg h
  cases hs
theorem RW.run:∀{k m i:Nat} {E E':St},NR P N ops k m i E=some E'->RW P N ops (i+k) E' Q->RW P N ops i E Q
 |0,m,i,E,E',h,hw=>by
  simp only[NR]at h
  injection h with h
  subst h;exact hw
 |k+1,m,i,E,E',h,hw=>by
  simp only[NR]at h;split at h
  ·rename_i E1 h1;exact RW.st h1 (RW.run h (by rw[Gr,Tn 1 k];exact hw))
  cases h
theorem n9 (k m:Nat) (h:RW P N ops (i+k) (M5 P N ops k m i E) Q) (hk:(NR P N ops k m i E).isSome=true:=by kernel_rfl):RW P N ops i E Q:=RW.run (getD_some hk) h
def lT (P:Program) (N:Nat) (ops:Array Oper) (i:Nat) (E:St):Bool:=PB P ops E i&&pk (oA ops i)&&EW N (oA ops i)
theorem dE (h:lT P N ops i E=true):PB P ops E i=true/\pk (oA ops i)=true/\∃d,(oA ops i).dst=some d/\Nat.blt d N=true/\d<N:=by
 simp only[lT,Ai]at h;exact⟨h.1.1,h.1.2,DS h.2⟩
theorem s5 (hp:AU P E (oA ops i)=some s) (h:RW P N ops (i+1) (E.put (oA ops i).dst s) Q) (hk:lT P N ops i E=true:=by kernel_rfl):RW P N ops i E Q:=by
 obtain⟨h1,h2,d,h3,h4,_⟩:=dE hk;rw[h3]at h;exact BL (fU hp h3 h4 h2) h h1
theorem uT (t:Nat) (h:(bif b then tx else ty)=some r) (ht:tx=some r->RW P N ops i (E.rs t true) Q) (hf:ty=some r->RW P N ops i (E.rs t false) Q) (hc:E.slots t=B b:=by kernel_rfl):RW P N ops i E Q:=s8 h t ht hf hc
theorem MY (h:Nat.blt i ops.size=true) (hm:Nat.blt i m=true):(ops.toList.take m).drop i=oA ops i::(ops.toList.take m).drop (i+1):=by
 have hi:i<ops.size:=by simpa[Bi]using h
 have a:i<m:=by simpa[Bi]using hm
 have hl:i<(ops.toList.take m).length:=by simp;omega
 have h1:=H0 h;rw[BP hl];congr 1;rw[HX];rw[<-Array.getElem?_toList,Ad (by simpa using hi)]at h1;injection h1
theorem SW.nil (h:K E) (hi:(Nat.ble ops.size i||Nat.ble m i)=true:=by kernel_rfl):SW P N ops m i E K:=by
 unfold SW
 rw[Cx (by
  rw[BM]at hi
  rcases hi with hi|hi
  ·have:ops.size<=i:=by simpa[Mh]using hi
   simp;omega
  have:m<=i:=by simpa[Mh]using hi
  simp;omega)]
 exact Fx.nil h
def cV (P:Program) (N:Nat) (ops:Array Oper) (m:Nat) (E:St) (i:Nat):Option St:=bif Nat.blt i ops.size&&Nat.blt i m&&EW N (oA ops i)then
  match Bp P ops E (oA ops i)with
  |some true=>match Hy P E (oA ops i)with
   |some s=>some (E.put (oA ops i).dst s)
   |none=>none
  |some false=>some (E.put (oA ops i).dst (.tup []))
  |none=>none else none
def Wq (P:Program) (N:Nat) (ops:Array Oper) (m:Nat):Nat->Nat->St->Option St
 |0,_,E=>some E
 |k+1,i,E=>match cV P N ops m E i with
  |some E'=>Wq P N ops m k (i+1) E'
  |none=>none
theorem SW.st (hs:cV P N ops m E i=some E') (h:SW P N ops m (i+1) E' K):SW P N ops m i E K:=by
 unfold cV at hs
 cases hb:(Nat.blt i ops.size&&Nat.blt i m&&EW N (oA ops i))with
 |false=>rw[hb]at hs;cases hs
 |true=>
  rw[hb]at hs;simp only[Af]at hs;simp only[Ai]at hb;obtain⟨d,h1,_,h2⟩:=DS hb.2;unfold SW;rw[MY hb.1.1 hb.1.2];split at hs
  ·rename_i hg;split at hs
   ·rename_i s a
    injection hs with hs
    subst hs;rw[h1]at h;exact Fx.op s hg h1 h2 a h
   cases hs
  ·rename_i hg
   injection hs with hs
   subst hs;rw[h1]at h;exact n7 h1 h2 hg h
  cases hs
theorem SW.run:∀{k i:Nat} {E E':St},Wq P N ops m k i E=some E'->SW P N ops m (i+k) E' K->SW P N ops m i E K
 |0,i,E,E',h,hw=>by
  simp only[Wq]at h
  injection h with h
  subst h;exact hw
 |k+1,i,E,E',h,hw=>by
  simp only[Wq]at h;split at h
  ·rename_i E1 h1;exact SW.st h1 (SW.run h (by rw[Gr,Tn 1 k];exact hw))
  cases h
theorem Cb (k:Nat) (h:SW P N ops m (i+k) ((Wq P N ops m k i E).getD E) K) (hk:(Wq P N ops m k i E).isSome=true:=by kernel_rfl):SW P N ops m i E K:=SW.run (getD_some hk) h
theorem Bn (hp:AU P E (oA ops i)=some s) (h:SW P N ops m (i+1) (E.put (oA ops i).dst s) K) (hk:(lT P N ops i E&&Nat.blt i m)=true:=by kernel_rfl):SW P N ops m i E K:=by
 rw[Ai]at hk;obtain⟨h1,h2,d,h3,h4,h5⟩:=dE hk.1;obtain⟨h6,h7⟩:=Hd h1;rw[h3]at h;unfold SW;rw[MY h6 hk.2];exact Fx.op s h7 h3 h5 (fV hp h2) h
theorem SX (t:Nat) (h:(bif b then tx else ty)=some r) (ht:tx=some r->SW P N ops m i (E.rs t true) K) (hf:ty=some r->SW P N ops m i (E.rs t false) K) (hc:E.slots t=B b:=by kernel_rfl):SW P N ops m i E K:=sW h t ht hf hc
def sC (n:Nat):List Nat->Array Bool
 |[]=>Array.replicate n false
 |i::l=>(sC n l).setIfInBounds i true
def KW (P:Program) (N:Nat) (ops:Array Oper) (ts:List Nat) (dn:List Nat) (E:St) (Q:Exit->St->Prop):Prop:=SZ P N ops ts (ops.size-dn.length) (sC ops.size dn) E Q
def KB (P:Program) (N:Nat) (ops:Array Oper) (ts:List Nat) (dn:List Nat) (i:Nat) (E:St) (Q:Exit->St->Prop):Prop:=Vy P N ops ts i E (λE'=>KW P N ops ts (i::dn) E' Q) Q
theorem Be {ts:List Nat} (h:Q .normal E) (hr:(Region.ready .any ops (sC ops.size dn)).isEmpty=true:=by kernel_rfl):KW P N ops ts dn E Q:=oD h (by simpa using hr)
def oG (ops:Array Oper) (dn l:List Nat):Bool:=(Region.ready .any ops (sC ops.size dn)==l)&&Nat.blt dn.length ops.size
theorem Rl (h:Nat.blt dn.length ops.size=true):ops.size-dn.length=(ops.size-(i::dn).length)+1:=by
 have:dn.length<ops.size:=by simpa[Bi]using h
 simp only[AH];omega
theorem KW.all {ts:List Nat} (l:List Nat) (h:∀i∈l,KB P N ops ts dn i E Q) (a:l≠ []) (hr:oG ops dn l=true):KW P N ops ts dn E Q:=by
 simp only[oG,Ai,DF]at hr;unfold KW;rw[Rl (i:=0) hr.2];exact SZ.all l (λi hi=>h i hi) hr.1 a
theorem B7 {ts:List Nat} (i:Nat) (h:KB P N ops ts dn i E Q) (hr:oG ops dn [i]=true:=by kernel_rfl):KW P N ops ts dn E Q:=KW.all [i] (λj hj=>by simp only[A7]at hj;subst hj;exact h) (by simp) hr
theorem DU {ts:List Nat} (i j:Nat) (h:KB P N ops ts dn i E Q) (h2:KB P N ops ts dn j E Q) (hr:oG ops dn [i,j]=true:=by kernel_rfl):KW P N ops ts dn E Q:=KW.all [i,j] (λm hm=>by
 simp only[B6,List.not_mem_nil,or_false]at hm
 rcases hm with rfl|rfl<;>assumption) (by simp) hr
theorem IL {ts:List Nat} (hs:Cc P N mv E (oA ops i)=some E') (h:KW P N ops ts (i::dn) E' Q) (hk:(PB P ops E i&&(kp (oA ops i)||ts.contains i))=true:=by kernel_rfl):KB P N ops ts dn i E Q:=by
 rw[Ai]at hk;obtain⟨h1,h2⟩:=Hd hk.1;exact Vy.op i mv h hs (H0 h1) h2 hk.2
theorem bF {ts:List Nat} (hp:AU P E (oA ops i)=some s) (h:KW P N ops ts (i::dn) (E.put (oA ops i).dst s) Q) (hk:(lT P N ops i E&&(kp (oA ops i)||ts.contains i))=true:=by kernel_rfl):KB P N ops ts dn i E Q:=by
 rw[Ai]at hk;obtain⟨h1,h2,d,h3,h4,h5⟩:=dE hk.1;rw[h3]at h;exact IL (fU hp h3 h4 h2) h (by rw[h1,hk.2];rfl)
def bH (ops:Array Oper) (ts dn:List Nat) (i:Nat):Bool:=Nat.blt dn.length ops.size&&Pf ops ts ops.size i (sC ops.size dn)
theorem tD {ts:List Nat} (i:Nat) (hp:Hy P E (oA ops i)=some s) (h:KW P N ops ts (i::dn) (E.put (oA ops i).dst s) Q) (hk:(PB P ops E i&&EW N (oA ops i)&&bH ops ts dn i)=true):KW P N ops ts dn E Q:=by
 simp only[Ai,bH]at hk;obtain⟨⟨h1,h2⟩,h3,h4⟩:=hk;obtain⟨h5,h6⟩:=Hd h1;obtain⟨d,h7,h8,_⟩:=DS h2;unfold KW at h⊢;rw[Rl (i:=i) h3];rw[h7]at h;exact SZ.take ops.size i d s h hp (H0 h5) h4 h6 h7 h8
theorem wG {ts:List Nat} (i:Nat) (hp:AU P E (oA ops i)=some s) (h:KW P N ops ts (i::dn) (E.put (oA ops i).dst s) Q) (hk:(lT P N ops i E&&bH ops ts dn i)=true:=by kernel_rfl):KW P N ops ts dn E Q:=by
 rw[Ai]at hk;have h0:=hk.1;simp only[lT,Ai]at h0;exact tD i (fV hp h0.1.2) h (by rw[h0.1.1,h0.2,hk.2];rfl)
theorem uX {ts:List Nat} (i:Nat) (h:KW P N ops ts (i::dn) (E.put (oA ops i).dst (.tup [])) Q) (hg:Bp P ops E (oA ops i)=some false) (hk:(Nat.blt i ops.size&&EW N (oA ops i)&&bH ops ts dn i)=true):KW P N ops ts dn E Q:=by
 simp only[Ai,bH]at hk;obtain⟨⟨h1,h2⟩,h3,h4⟩:=hk;obtain⟨d,h7,h8,_⟩:=DS h2;unfold KW at h⊢;rw[Rl (i:=i) h3];rw[h7]at h;exact Y8 ops.size i d h (H0 h1) h4 hg h7 h8
def mT (P:Program) (N:Nat) (ops:Array Oper) (ts:List Nat) (mv:Bool) (dn:List Nat) (E:St) (i:Nat):Option St:=match Bp P ops E (oA ops i)with
 |some false=>bif Nat.blt i ops.size&&EW N (oA ops i)&&bH ops ts dn i then some (E.put (oA ops i).dst (.tup []))else none
 |some true=>bif Nat.blt i ops.size&&EW N (oA ops i)&&bH ops ts dn i&&!mv then
   (match Hy P E (oA ops i)with
   |some s=>some (E.put (oA ops i).dst s)
   |none=>bif oG ops dn [i]&&(kp (oA ops i)||ts.contains i)then Cc P N mv E (oA ops i)else none) else bif Nat.blt i ops.size&&oG ops dn [i]&&(kp (oA ops i)||ts.contains i)then Cc P N mv E (oA ops i)else none
 |none=>none
def jI (P:Program) (N:Nat) (ops:Array Oper) (ts:List Nat):List Nat->Nat->List Nat->St->Option St
 |[],_,_,E=>some E
 |i::l,m,dn,E=>match mT P N ops ts (Nat.beq (m %2) 1) dn E i with
  |some E'=>jI P N ops ts l (m/2) (i::dn) E'
  |none=>none
def XF:List Nat->List Nat->List Nat
 |[],dn=>dn
 |i::l,dn=>XF l (i::dn)
section
variable {ts:List Nat}
theorem KW.st (hs:mT P N ops ts mv dn E i=some E') (h:KW P N ops ts (i::dn) E' Q):KW P N ops ts dn E Q:=by
 unfold mT at hs;split at hs
 ·rename_i hg
  cases hb:(Nat.blt i ops.size&&EW N (oA ops i)&&bH ops ts dn i)with
  |false=>rw[hb]at hs;cases hs
  |true=>
   rw[hb]at hs;simp only[Af]at hs
   injection hs with hs
   subst hs;exact uX i h hg hb
 ·rename_i hg;have one:(Nat.blt i ops.size&&oG ops dn [i]&&(kp (oA ops i)||ts.contains i))=true->Cc P N mv E (oA ops i)=some E'->KW P N ops ts dn E Q:=by
   intro hb hs;simp only[Ai]at hb;refine B7 i (IL hs h ?_) hb.1.2;simp only[PB,hb.1.1,hg,hb.2,Gs]
  cases hb:(Nat.blt i ops.size&&EW N (oA ops i)&&bH ops ts dn i&&!mv)with
  |false=>
   rw[hb]at hs;simp only[Ac]at hs
   cases a:(Nat.blt i ops.size&&oG ops dn [i]&&(kp (oA ops i)||ts.contains i))with
   |false=>rw[a]at hs;cases hs
   |true=>rw[a]at hs;exact one a hs
  |true=>
   rw[hb]at hs;simp only[Af]at hs;simp only[Ai]at hb;split at hs
   ·rename_i s b
    injection hs with hs
    subst hs;refine tD i b h ?_;simp only[PB,hb.1.1.1,hb.1.1.2,hb.1.2,hg,Gs]
   cases a:(oG ops dn [i]&&(kp (oA ops i)||ts.contains i))with
   |false=>rw[a]at hs;cases hs
   |true=>rw[a]at hs;exact one (by rw[hb.1.1.1,BI];exact a) hs
 cases hs
end
theorem KW.run {ts:List Nat}:∀{l:List Nat} {m:Nat} {dn:List Nat} {E E':St},jI P N ops ts l m dn E=some E'->KW P N ops ts (XF l dn) E' Q->KW P N ops ts dn E Q
 |[],m,dn,E,E',h,hw=>by
  simp only[jI]at h
  injection h with h
  subst h;exact hw
 |i::l,m,dn,E,E',h,hw=>by
  simp only[jI]at h;split at h
  ·rename_i E1 h1;exact KW.st h1 (KW.run h hw)
  cases h
theorem Bq {ts:List Nat} (l:List Nat) (m:Nat) (h:KW P N ops ts (XF l dn) ((jI P N ops ts l m dn E).getD E) Q) (hk:(jI P N ops ts l m dn E).isSome=true:=by kernel_rfl):KW P N ops ts dn E Q:=KW.run (getD_some hk) h
theorem Nn {ts:List Nat} (t:Nat) (h:(bif b then tx else ty)=some r) (ht:tx=some r->KW P N ops ts dn (E.rs t true) Q) (hf:ty=some r->KW P N ops ts dn (E.rs t false) Q) (hc:E.slots t=B b:=by kernel_rfl):KW P N ops ts dn E Q:=tC h t ht hf hc
theorem rD {id:Nat} (h:RW P N ops 0 E Q):Wp P N (.region id ops false) E Q:=by
 have:=Wp.region (id:=id) (l:=ops.toList) (P:=P) (N:=N) (E:=E) (Q:=Q) (by simpa[RW]using h);simpa using this
theorem JR {id:Nat} (hm:P.follows .mixedOrders=true) (h:SW P N ops ops.size 0 E (λE'=>Q .normal E')) (hB:Region.lexB .any ops=true:=by kernel_rfl):Wp P N (.region id ops true) E Q:=by
 have:=Qr (id:=id) (l:=ops.toList) (P:=P) (N:=N) (E:=E) (Q:=Q) hm (by simpa using hB) (by
  have h2:=h;unfold SW at h2;rw[AT (by simp)]at h2
  simpa using h2)
 simpa using this
theorem Hb {id:Nat} (n:Nat) (hm:P.follows .mixedOrders=true) (h:SW P N ops n 0 E (λE'=>RW P N ops n E' Q)) (hB:Region.lexTailB .any ops n=true:=by kernel_rfl):Wp P N (.region id ops true) E Q:=by
 have:=e7 (id:=id) (l:=ops.toList) (P:=P) (N:=N) (E:=E) (Q:=Q) n hm (by simpa using hB) (by simpa[SW,RW]using h);simpa using this
theorem DT {id:Nat} (ts:List Nat) (hm:P.follows .mixedOrders=true) (hQ:∀c E,Q (.panic c) E->False) (h:KW P N ops ts [] E Q):Wp P N (.region id ops true) E Q:=
 e8 ops.size ts hm hQ (by simpa[KW,sC]using h) rfl
def W0 (E:St) (x:Operand) (sz:Nat):Option (List TV):=match E.ref x with
 |some (r,q,j)=>match E.place r q j with
  |some (.sl _ _ s cells)=>bif Nat.beq s sz then some cells else none
  |_=>none
 |none=>none
theorem M6 {x:Operand} {a:List TV} (h:W0 E x sz=some a):∃r q j b e,E.ref x=some (r,q,j)/\E.place r q j=some (.sl b e sz a):=by
 unfold W0 at h;split at h
 ·rename_i r q j hr;split at h
  ·rename_i b e s cells' hp
   cases hs:Nat.beq s sz with
   |false=>rw[hs]at h;cases h
   |true=>
    rw[hs]at h;simp only[Af]at h
    injection h with h
    have:=Bc hs;subst h this;exact⟨r,q,j,b,e,hr,hp⟩
  cases h
 cases h
def Th (P:Program) (t:TypeId):TypeId:=match P.underlying t with
 |some (.slice e)=>e
 |_=>0
def Ug (P:Program) (t:TypeId) (sz:Nat):Bool:=match P.underlying t with
 |some (.slice e)=>Nat.beq (P.cellsOf e) sz&&Nat.blt 0 sz
 |_=>false
theorem Le {t:TypeId} (h:Ug P t sz=true):∃e,P.underlying t=some (.slice e)/\P.cellsOf e=sz/\Nat.blt 0 sz=true:=by
 unfold Ug at h;split at h
 ·rename_i e he;rw[Ai]at h;exact⟨e,he,Bc h.1,h.2⟩
 cases h
def G8 (E:St) (x:Operand):Root×List Nat×Nat:=(E.ptr? x).getD (.hand,[],0)
def Z9 (E:St) (x:Operand):Root×List Nat×Nat:=(E.ref x).getD (.hand,[],0)
def Uw (E:St) (x:Operand):Option (List TV×Nat):=match E.ptr? x with
 |some (r,q,j)=>match(E.root r).bind λcs=>BN cs q with
  |some row=>some (row,j)
  |none=>none
 |none=>none
theorem Ob {x:Operand} {a:List TV} (h:Uw E x=some (a,j)):E.ptr? x=some ((G8 E x).1,(G8 E x).2.1,j)/\(E.root (G8 E x).1).bind (λcs=>BN cs (G8 E x).2.1)=some a:=by
 unfold Uw at h;split at h
 ·rename_i r q j' hp;split at h
  ·rename_i row' hr
   injection h with h
   injection h with h1 h2
   subst h1 h2;simp only[G8,hp,Bu];exact⟨trivial,hr⟩
  cases h
 cases h
def HK (o:Oper):TypeId×Operand×Operand:=match o.op with
 | .indexAddr t a i=>(t,a,i)
 |_=>(0,.tmp 0,.tmp 0)
def mY (o:Oper):Bool:=match o.op with
 | .indexAddr .. =>true
 |_=>false
theorem g6 {o:Oper} (h:mY o=true):o.op= .indexAddr (HK o).1 (HK o).2.1 (HK o).2.2:=by
 unfold mY at h;unfold HK;split at h
 ·rename_i h1;simp only[h1]
 cases h
def Ro (P:Program) (E:St) (x:Operand):Option Int:=match E.cell1 P 0 x with
 |some (.int _ n)=>some n
 |_=>none
theorem H8 {x:Operand} (h:Ro P E x=some n):∃k,E.cell1 P 0 x=some (.int k n):=by
 unfold Ro at h;split at h
 ·rename_i k m hc
  injection h with h
  subst h;exact⟨k,hc⟩
 cases h
def mX (P:Program) (E:St) (o:Oper) (sz:Nat):Option (List TV×Int):=bif mY o&&Ug P (HK o).1 sz then(match W0 E (HK o).2.1 sz,Ro P E (HK o).2.2 with
 |some c,some n=>some (c,n)
 |_,_=>none)else none
def mW (E:St) (o:Oper) (m:Nat):SV:= .one (.ptr (Z9 E (HK o).2.1).1 (E.ver (Z9 E (HK o).2.1).1) ((Z9 E (HK o).2.1).2.1++ [(Z9 E (HK o).2.1).2.2]) m)
section
variable {o:Oper} {x:α}
theorem FW (hf:∀x,(f x).length=sz) (hx:gi l n=some x) (hc:mX P E o sz=some (AB f l,n):=by kernel_rfl):AU P E o=some (mW E o (n.toNat*sz+0)):=by
 unfold mX at hc
 cases hb:(mY o&&Ug P (HK o).1 sz)with
 |false=>rw[hb]at hc;cases hc
 |true=>
  rw[hb]at hc;simp only[Af]at hc;rw[Ai]at hb;split at hc
  ·rename_i c n' h1 h2
   injection hc with hc
   injection hc with a b
   subst a b;obtain⟨r,q,j,d,e',h3,h4⟩:=M6 h1;obtain⟨k,h5⟩:=H8 h2;obtain⟨e,h6,h7,h8⟩:=Le hb.2;have:=vN hf r q j hx h4 (g6 hb.1) h6 h5 h3 h7 h8;rw[this];simp only[mW,Z9,h3,Bu]
  cases hc
end
def Ov (o:Oper):TypeId×Operand×Nat:=match o.op with
 | .fieldAddr t a i=>(t,a,i)
 |_=>(0,.tmp 0,0)
def sJ (o:Oper):Bool:=match o.op with
 | .fieldAddr .. =>true
 |_=>false
theorem pR {o:Oper} (h:sJ o=true):o.op= .fieldAddr (Ov o).1 (Ov o).2.1 (Ov o).2.2:=by
 unfold sJ at h;unfold Ov;split at h
 ·rename_i h1;simp only[h1]
 cases h
def qZ (P:Program) (o:Oper):Option Nat:=match P.underlying (Ov o).1 with
 |some (.struct fs)=>match fs[(Ov o).2.2]? with
  |some fd=>bif Nat.beq (P.cellsOf fd.type) 0 then none else some fd.offset
  |none=>none
 |_=>none
def uM (E:St) (o:Oper) (m:Nat):SV:= .one (.ptr (G8 E (Ov o).2.1).1 (E.stamp (G8 E (Ov o).2.1).1 (G8 E (Ov o).2.1).2.1) (G8 E (Ov o).2.1).2.1 m)
section
variable {o:Oper} {x:α}
theorem DV (hf:∀x,(f x).length=sz) (hx:gi l n=some x) (k m:Nat) (hr:Uw E (Ov o).2.1=some (AB f l,n.toNat*sz+k):=by kernel_rfl) (ho:(sJ o&&Nat.blt m sz)=true:=by kernel_rfl) (a:qZ P o=some (m-k):=by kernel_rfl) (b:Nat.ble k m=true:=by kernel_rfl):AU P E o=some (uM E o (n.toNat*sz+m)):=by
 rw[Ai]at ho;obtain⟨h1,h2⟩:=Ob hr;have d:k<=m:=by simpa[Mh]using b
 unfold qZ at a;split at a
 ·rename_i fs hs;split at a
  ·rename_i fd c
   cases hb:Nat.beq (P.cellsOf fd.type) 0 with
   |true=>rw[hb]at a;cases a
   |false=>
    rw[hb]at a;simp only[Ac]at a
    injection a with a
    have hm:k+fd.offset=m:=by omega
    exact vO hf _ _ k hx h2 (pR ho.1) hs h1 c hb hm (by rw[hm];exact ho.2)
  cases a
 cases a
end
def Ls (o:Oper):TypeId×Operand:=match o.op with
 | .load t a=>(t,a)
 |_=>(0,.tmp 0)
def pQ (o:Oper):Bool:=match o.op with
 | .load .. =>true
 |_=>false
theorem gZ {o:Oper} (h:pQ o=true):o.op= .load (Ls o).1 (Ls o).2:=by
 unfold pQ at h;unfold Ls;split at h
 ·rename_i h1;simp only[h1]
 cases h
def qV (P:Program) (o:Oper) (k sz:Nat):Bool:=pQ o&&!VR P (Ls o).1&&Nat.beq (P.cellsOf (Ls o).1) 1&&(P.underlying (Ls o).1).isSome&&Nat.blt k sz
def qW (P:Program) (o:Oper) (k m sz:Nat):Bool:=pQ o&&VR P (Ls o).1&&Nat.beq (P.cellsOf (Ls o).1) m&&Nat.ble (k+m) sz
def wY (E:St) (o:Oper) (j:Nat) (u:TV):SV:= .one (rP E (G8 E (Ls o).2).1 (G8 E (Ls o).2).2.1 j u)
def wZ (E:St) (o:Oper) (j:Nat) (us:List TV):SV:= .agg (QW E (G8 E (Ls o).2).1 (G8 E (Ls o).2).2.1 j us)
section
variable {o:Oper} {x:α}
theorem CD (hf:∀x,(f x).length=sz) (hx:gi l n=some x) (k:Nat) (hr:Uw E (Ls o).2=some (AB f l,n.toNat*sz+k):=by kernel_rfl) (ho:qV P o k sz=true:=by kernel_rfl):AU P E o=some (wY E o (n.toNat*sz+k) (((f x)[k]?).getD .junk)):=by
 simp only[qV,Ai,CH]at ho;obtain⟨⟨⟨⟨h3,h4⟩,h5⟩,h6⟩,h7⟩:=ho;obtain⟨h1,h2⟩:=Ob hr;have hk:k<(f x).length:=by rw[hf];simpa[Bi]using h7
 refine vM hf _ _ k _ hx h2 (gZ h3) h1 h4 (Bc h5) h6 h7 ?_;rw[Ad hk];rfl
end
section
variable {o:Oper} {x:α}
theorem Hf (hf:∀x,(f x).length=sz) (hx:gi l n=some x) (k m:Nat) (hr:Uw E (Ls o).2=some (AB f l,n.toNat*sz+k):=by kernel_rfl) (ho:qW P o k m sz=true:=by kernel_rfl):AU P E o=some (wZ E o (n.toNat*sz+k) (((f x).drop k).take m)):=by
 simp only[qW,Ai]at ho;obtain⟨⟨⟨h3,h4⟩,h5⟩,h6⟩:=ho;obtain⟨h1,h2⟩:=Ob hr;exact vK hf _ _ k m hx h2 (gZ h3) h1 h4 (Bc h5) h6
end
section
variable {x:α}
def ZP (o:Oper):TypeId×Operand:=match o.op with
 | .call c=>match c.callee,c.args.toList,c.argTypes.toList with
  | .builtin .len,[x],[t]=>(t,x)
  |_,_,_=>(0,.tmp 0)
 |_=>(0,.tmp 0)
end
section
variable {x:α}
def sH (o:Oper):Bool:=match o.op with
 | .call c=>match c.callee,c.args.toList,c.argTypes.toList with
  | .builtin .len,[x],[t]=>true
  |_,_,_=>false
 |_=>false
end
theorem pP {o:Oper} (h:sH o=true):o.op= .call {callee:= .builtin .len,args:= #[(ZP o).2],argTypes:= #[(ZP o).1]}:=by
 unfold sH at h;unfold ZP;split at h
 ·rename_i c hc;split at h
  ·rename_i x t h1 h2 h3;obtain⟨callee,args,types⟩:=c;simp only at h1 h2 h3;subst h1;obtain rfl:args= #[x]:=by cases args;simp_all
   obtain rfl:types= #[t]:=by cases types;simp_all
   rw[hc]
  cases h
 cases h
section
variable {o:Oper} {x:α}
theorem BR (hf:∀x,(f x).length=sz) (l:List α) (hr:W0 E (ZP o).2 sz=some (AB f l):=by kernel_rfl) (ho:(sH o&&Ug P (ZP o).1 sz)=true:=by kernel_rfl):AU P E o=some (.one (.int .i64 (ln l))):=by
 rw[Ai]at ho;obtain⟨r,q,j,a,e',h3,h4⟩:=M6 hr;obtain⟨e,h6,h7,h8⟩:=Le ho.2;exact vL hf l (pP ho.1) h6 h3 h4 h8
end
def S7 (P:Program) (E:St) (t:TypeId) (x:Operand):Option ByteArray:=match E.cell1 P t x with
 |some (.str s)=>some s
 |_=>none
theorem I3 {s:ByteArray} {t:TypeId} {x:Operand} (h:S7 P E t x=some s):E.cell1 P t x=some (.str s):=by
 unfold S7 at h;split at h
 ·rename_i u hu
  injection h with h
  rw[hu,h]
 cases h
def WF (P:Program) (t:TypeId):Bool:=match P.underlying t with
 |some .string=>true
 |_=>false
theorem Rn {t:TypeId} (h:WF P t=true):P.underlying t=some .string:=by
 unfold WF at h;split at h
 ·assumption
 cases h
def qP (P:Program) (E:St) (o:Oper):Option (ByteArray×Int):=match o.op with
 | .index t a i=>match WF P t,S7 P E t a,Ro P E i with
  |true,some s,some n=>some (s,n)
  |_,_,_=>none
 |_=>none
theorem VD {o:Oper} {s:ByteArray} {b:Int} (h:sx s n=some b) (hc:qP P E o=some (s,n):=by kernel_rfl):AU P E o=some (.one (.int .u8 b)):=by
 unfold qP at hc;split at hc
 ·rename_i t a i ho;split at hc
  ·rename_i s' n' h1 h2 h3
   injection hc with hc
   injection hc with c d
   subst c d;obtain⟨k,h3⟩:=H8 h3;exact vJ h ho (Rn h1) (I3 h2) h3
  cases hc
 cases hc
section
variable {x:α}
def WL (P:Program) (E:St) (d:Int):Option Operand->Option Int
 |none=>some d
 |some x=>Ro P E x
end
def kW (P:Program) (E:St) (o:Oper):Option (ByteArray×Int×Int):=match o.op with
 | .slice t a lo hi none=>match WF P t,S7 P E t a with
  |true,some s=>match WL P E 0 lo,WL P E (s.size:Nat) hi with
   |some l,some h=>some (s,l,h)
   |_,_=>none
  |_,_=>none
 |_=>none
section
variable {o:Oper}
theorem MU {d:Int} {x:Option Operand} (h:WL P E d x=some n):∃k,(match x with|some o=>E.cell1 P 0 o|none=>some (.int .i64 d))=some (.int k n):=by
 cases x with
 |none=>
  simp only[WL]at h
  injection h with h
  exact⟨.i64,by rw[h]⟩
 |some x=>exact H8 h
end
theorem Oc {o:Oper} {s u:ByteArray} {l h:Int} (hx:sub s l h=some u) (hc:kW P E o=some (s,l,h):=by kernel_rfl):AU P E o=some (.one (.str u)):=by
 unfold kW at hc;split at hc
 ·rename_i t a lo hi ho;split at hc
  ·rename_i s' h1 h2;split at hc
   ·rename_i l' h' h3 h4
    injection hc with hc
    injection hc with c b
    injection b with b d
    subst c b d;obtain⟨k1,h3⟩:=MU h3;obtain⟨k2,h4⟩:=MU h4;exact t6 hx ho (Rn h1) (I3 h2) h3 h4
   cases hc
  cases hc
 cases hc
section
variable {x:α}
def nR (P:Program) (E:St) (o:Oper):Option (ByteArray×ByteArray):=match o.op with
 | .binOp .add t x y _=>match S7 P E t x,S7 P E t y with
  |some a,some b=>some (a,b)
  |_,_=>none
 |_=>none
end
theorem Ps {o:Oper} {a b u:ByteArray} (hx:T9 a b=some u) (hc:nR P E o=some (a,b):=by kernel_rfl):AU P E o=some (.one (.str u)):=by
 unfold nR at hc;split at hc
 ·rename_i t x y t' ho;split at hc
  ·rename_i a' b' h1 h2
   injection hc with hc
   injection hc with c d
   subst c d;exact uA hx ho (I3 h1) (I3 h2)
  cases hc
 cases hc
section
variable {x:α}
def Nl (o:Oper):TypeId×TypeId×Operand:=match o.op with
 | .convert s d x=>(s,d,x)
 |_=>(0,0,.tmp 0)
end
section
variable {x:α}
def uO (P:Program) (o:Oper):Bool:=match o.op with
 | .convert s d x=>(match P.underlying s,P.underlying d with
  |some (.slice e),some .string=>(match P.underlying e with
   |some (.int .u8)=>true
   |_=>false)
  |_,_=>false)
 |_=>false
end
theorem o6 {o:Oper} {f:Int->List TV} (hf:∀n,f n=[.int .u8 n]) (l:List Int) (hr:W0 E (Nl o).2.2 1=some (AB f l):=by kernel_rfl) (ho:uO P o=true:=by kernel_rfl):AU P E o=some (.one (.str (H3 l))):=by
 obtain⟨r,q,j,b,e',h3,h4⟩:=M6 hr;unfold uO at ho;split at ho
 ·rename_i s d x a;split at ho
  ·rename_i e hs hd;split at ho
   ·rename_i he;simp only[Nl,a]at h3;exact vQ hf l a hs hd he h3 h4
   cases ho
  cases ho
 cases ho
section
variable {x:α}
def lD (P:Program) (E:St) (o:Oper) (k:IntKind):Option (Int×Int):=match o.op with
 | .binOp .shl t x y _=>match E.cell1 P t x,E.cell1 P t y with
  |some (.int k' a),some (.int _ b)=>bif decide (k'=k)then some (a,b)else none
  |_,_=>none
 |_=>none
end
theorem vG {o:Oper} {k:IntKind} {a b v:Int} (hx:shl k a b=some v) (hc:lD P E o k=some (a,b):=by kernel_rfl):AU P E o=some (.one (.int k v)):=by
 unfold lD at hc;split at hc
 ·rename_i t x y t' ho;split at hc
  ·rename_i k' a' k2 b' h1 h2
   cases hk:decide (k'=k)with
   |false=>rw[hk]at hc;cases hc
   |true=>
    rw[hk]at hc;simp only[Af]at hc
    injection hc with hc
    injection hc with hc1 hc2
    have:=of_decide_eq_true hk;subst hc1 hc2 this;exact t7 hx ho h1 h2
  cases hc
 cases hc
section
variable {x:α}
def Mf (o:Oper):TypeId×Operand×Option Operand×Option Operand:=match o.op with
 | .slice t x lo hi none=>(t,x,lo,hi)
 |_=>(0,.tmp 0,none,none)
end
section
variable {x:α}
def pS (o:Oper):Bool:=match o.op with
 | .slice t x lo hi none=>true
 |_=>false
end
theorem g7 {o:Oper} (h:pS o=true):o.op= .slice (Mf o).1 (Mf o).2.1 (Mf o).2.2.1 (Mf o).2.2.2 none:=by
 unfold pS at h;unfold Mf;split at h
 ·rename_i h1;simp only[h1]
 cases h
def f9 (E:St) (x:Operand) (sz:Nat):Option (Nat×List TV):=match E.ref x with
 |some (r,q,j)=>match E.place r q j with
  |some (.sl false e s cells)=>bif Nat.beq s sz then some (e,cells)else none
  |_=>none
 |none=>none
theorem Uq {x:Operand} {a:List TV} {e:Nat} (h:f9 E x sz=some (e,a)):∃r q j,E.ref x=some (r,q,j)/\E.place r q j=some (.sl false e sz a):=by
 unfold f9 at h;split at h
 ·rename_i r q j hr;split at h
  ·rename_i e' s cells' hp
   cases hs:Nat.beq s sz with
   |false=>rw[hs]at h;cases h
   |true=>
    rw[hs]at h;simp only[Af]at h
    injection h with h
    injection h with h1 h2
    have:=Bc hs;subst h1 h2 this;exact⟨r,q,j,hr,hp⟩
  cases h
 cases h
section
variable {o:Oper} {x:α}
theorem wI (hf:∀x,(f x).length=sz) {v:List α} {a b:Int} (e:Nat) (hx:dr l a b=some v) (hr:f9 E (Mf o).2.1 sz=some (e,AB f l):=by kernel_rfl) (ha:WL P E 0 (Mf o).2.2.1=some a:=by kernel_rfl) (hb:((Mf o).2.2.2.bind (Ro P E))=some b:=by kernel_rfl) (ho:(pS o&&Ug P (Mf o).1 sz)=true:=by kernel_rfl):AU P E o=some (.one (.sl false e sz (AB f v))):=by
 rw[Ai]at ho;obtain⟨r,q,j,h1,h2⟩:=Uq hr;obtain⟨e1,h6,h7,h8⟩:=Le ho.2;obtain⟨k1,h3⟩:=MU ha;obtain⟨oh,h4,h5⟩:=Ao.1 hb;obtain⟨k2,h5⟩:=H8 h5;have:=g7 ho.1;rw[h4]at this;exact vP hf hx this h6 h1 h2 h3 h5 h7 h8
end
section
variable {o:Oper} {x:α}
theorem r6 (hf:∀x,(f x).length=sz) {v:List α} {a:Int} (e:Nat) (hx:dr l a (ln l)=some v) (hr:f9 E (Mf o).2.1 sz=some (e,AB f l):=by kernel_rfl) (ha:WL P E 0 (Mf o).2.2.1=some a:=by kernel_rfl) (ho:(pS o&&Ug P (Mf o).1 sz&&(Mf o).2.2.2.isNone)=true:=by kernel_rfl):AU P E o=some (.one (.sl false e sz (AB f v))):=by
 simp only[Ai]at ho;obtain⟨r,q,j,h1,h2⟩:=Uq hr;obtain⟨e1,h6,h7,h8⟩:=Le ho.1.2;obtain⟨k1,h3⟩:=MU ha;have:=g7 ho.1.1;rw[Option.isNone_iff_eq_none.1 ho.2]at this;exact t8 hf hx this h6 h1 h2 h3 h7 h8
end
def tP (P:Program) (E:St) (o:Oper) (m:Nat):Bool:=match P.underlying (HK o).1 with
 |some (.array len e)=>mY o&&Nat.beq (P.cellsOf e) 1&&Nat.blt m len&&(match E.ptr? (HK o).2.1 with
  |some (r,q,j)=>(E.place r q (j+m)).isSome
  |none=>false)
 |_=>false
def qM (E:St) (o:Oper) (m:Nat):SV:= .one (.ptr (G8 E (HK o).2.1).1 (E.stamp (G8 E (HK o).2.1).1 (G8 E (HK o).2.1).2.1) (G8 E (HK o).2.1).2.1 ((G8 E (HK o).2.1).2.2+m))
theorem u0 {o:Oper} (m:Nat) (hn:n=(m:Int)) (hi:Ro P E (HK o).2.2=some n:=by kernel_rfl) (ho:tP P E o m=true:=by kernel_rfl):AU P E o=some (qM E o m):=by
 unfold tP at ho;split at ho
 ·rename_i len e ht;simp only[Ai]at ho;obtain⟨⟨⟨h1,h2⟩,h3⟩,h4⟩:=ho;obtain⟨k,hi⟩:=H8 hi;split at h4
  ·rename_i r q j hp;have:=vI r q j hn (g6 h1) ht hi hp (Bc h2) h3 h4;rw[this];simp only[qM,G8,hp,Bu]
  cases h4
 cases ho
section
variable {x:α}
def DC (o:Oper):TypeId×TypeId×Operand×Operand:=match o.op with
 | .call c=>match c.callee,c.args.toList,c.argTypes.toList with
  | .builtin .append,[s,x],[t,t']=>(t,t',s,x)
  |_,_,_=>(0,0,.tmp 0,.tmp 0)
 |_=>(0,0,.tmp 0,.tmp 0)
end
section
variable {x:α}
def mZ (o:Oper):Bool:=match o.op with
 | .call c=>match c.callee,c.args.toList,c.argTypes.toList with
  | .builtin .append,[s,x],[t,t']=>true
  |_,_,_=>false
 |_=>false
end
theorem XT {o:Oper} (h:mZ o=true):o.op= .call {callee:= .builtin .append,args:= #[(DC o).2.2.1,(DC o).2.2.2],argTypes:= #[(DC o).1,(DC o).2.1]}:=by
 unfold mZ at h;unfold DC;split at h
 ·rename_i c hc;split at h
  ·rename_i s x t t' h1 h2 h3;obtain⟨callee,args,types⟩:=c;simp only at h1 h2 h3;subst h1;obtain rfl:args= #[s,x]:=by cases args;simp_all
   obtain rfl:types= #[t,t']:=by cases types;simp_all
   rw[hc]
  cases h
 cases h
def qE (P:Program) (N:Nat) (o:Oper) (sz by_:Nat):Bool:=mZ o&&Nat.beq (DC o).1 (DC o).2.1&&Ug P (DC o).1 sz&&(IN P (Th P (DC o).1)).isSome&&Nat.beq (P.bytesOf (Th P (DC o).1)) by_&&Nat.blt 0 by_&&EW N o
def PK (P:Program) (E:St) (o:Oper) (sz:Nat):Option (List TV×St):=match E.cell1 P (DC o).1 (DC o).2.2.1 with
 |some sv=>match Da E sv with
  |some (.sl true e s cells,E1)=>bif Nat.beq e (Th P (DC o).1)&&Nat.beq s sz then some (cells,E1)else none
  |_=>none
 |none=>none
def qF (P:Program) (E:St) (o:Oper) (sz:Nat):St:=((PK P E o sz).map Prod.snd).getD E
def tK (P:Program) (o:Oper) (sz:Nat) (a:List TV):SV:= .one (.sl true (Th P (DC o).1) sz a)
def nX (P:Program) (E1:St) (o:Oper) (sz:Nat):Option (Nat×List TV×St):=match E1.ref (DC o).2.2.2 with
 |some (r,q,j)=>match E1.place r q j with
  |some (.sl _ _ s cells)=>bif Nat.beq s sz then(match Ea E1 (QW E1 r (q++ [j]) 0 cells)with
   |some (news,E2)=>some (cells.length,news,E2)
   |none=>none)else none
  |_=>none
 |none=>none
theorem T5 {t:TypeId} {e:TypeId} (h:P.underlying t=some (.slice e)):Th P t=e:=by unfold Th;rw[h]
section
variable {o:Oper} {x:α}
theorem uL {E1 E2:St} {r:Root} {e2:Nat} {cells2:List TV} (hf:∀x,(f x).length=sz) (l m:List α) (h:ap by_ l m=some u) (hd:PK P E o sz=some (AB f l,E1)) {q:List Nat} {g:Bool} (hr:E1.ref (DC o).2.2.2=some (r,q,j)) (hp:E1.place r q j=some (.sl g e2 sz cells2)) (hn:Ea E1 (QW E1 r (q++ [j]) 0 cells2)=some (AB f m,E2)) (hl:cells2.length=m.length*sz) (ho:qE P N o sz by_=true):Cc P N false E o=some (E2.put o.dst (tK P o sz (AB f u))):=by
 obtain⟨rfl,i⟩:=qD h;simp only[qE,Ai]at ho;obtain⟨⟨⟨⟨⟨⟨a1,a2⟩,a3⟩,a4⟩,a5⟩,a6⟩,a7⟩:=ho;obtain⟨d,a8,_,a9⟩:=DS a7;obtain⟨e,b1,b2,b3⟩:=Le a3;have a:=T5 b1;rw[a]at a4 a5;have h0':0<sz:=by simpa[Bi]using b3
 have hb0':0<by_:=by simpa[Bi]using a6
 have hb:=Bc a5;have k:=Bc a2;unfold PK at hd;rw[a]at hd;split at hd
 ·rename_i sv hs;split at hd
  ·rename_i e1 s n E1' h1
   cases hc:(Nat.beq e1 e&&Nat.beq s sz)with
   |false=>rw[hc]at hd;cases hd
   |true=>
    rw[hc]at hd;simp only[Af]at hd
    injection hd with hd
    injection hd with hd1 hd2
    rw[Ai]at hc;have c1:=Bc hc.1;have c2:=Bc hc.2;subst hd1 hd2 c1 c2;have b:(AB f l).length/s=l.length:=by rw[Em hf];exact Ee _ h0'
    have c:cells2.length/s=m.length:=by rw[hl];exact Ee _ h0'
    have p:l.length+m.length<=(l.length+m.length)*by_:=Nat.le_mul_of_pos_right _ hb0';unfold Cc;rw[a8];simp only[Ar a9,XT a1,Ar k,Kt,b1,hs,h1,hr,hp,hn];rw[Ar ⟨trivial,b2.symm,trivial,h0',a4,by rw[b,c];omega,by rw[b,c,hb];exact i⟩,Oy,tK,a]
  cases hd
 cases hd
end
theorem Qq {o:Oper} {a:List TV} (h:(PK P E o sz).map Prod.fst=some a):PK P E o sz=some (a,qF P E o sz):=by
 unfold qF
 cases hx:PK P E o sz with
 |none=>rw[hx]at h;cases h
 |some z=>
  rw[hx]at h;simp only[Bt]at h
  injection h with h
  subst h;rfl
section
variable {o:Oper} {x:α}
theorem CI {m:List α} (hf:∀x,(f x).length=sz) (hg:∀x,Ho (f x)=true) (l:List α) (h:ap by_ l m=some u) (hd:(PK P E o sz).map Prod.fst=some (AB f l):=by kernel_rfl) (hm:W0 (qF P E o sz) (DC o).2.2.2 sz=some (AB f m):=by kernel_rfl) (ho:qE P N o sz by_=true:=by kernel_rfl):
  Cc P N false E o=some ((qF P E o sz).put o.dst (tK P o sz (AB f u))):=by
 obtain⟨r,q,j,a,e,h1,h2⟩:=M6 hm;exact uL hf l m h (Qq hd) h1 h2 (by rw[Ui _ (Qa hg m),Nj (Qa hg m)]) (Em hf m) ho
end
section
variable {o:Oper} {x:α}
theorem R0 (hf:∀x,(f x).length=sz) (l m:List α) (h:ap by_ l m=some u) (hd:(PK P E o sz).map Prod.fst=some (AB f l):=by kernel_rfl) (hm:(nX P (qF P E o sz) o sz).map (λz=>(z.1,z.2.1))=some (m.length*sz,AB f m):=by kernel_rfl) (ho:qE P N o sz by_=true:=by kernel_rfl):
  Cc P N false E o=some ((((nX P (qF P E o sz) o sz).map (λz=>z.2.2)).getD E).put o.dst (tK P o sz (AB f u))):=by
 have hd':=Qq hd;generalize hE:qF P E o sz=E1 at hm hd'⊢;unfold nX at hm⊢
 cases hr:E1.ref (DC o).2.2.2 with
 |none=>simp only[hr]at hm;cases hm
 |some z=>
  obtain⟨r,q,j⟩:=z;simp only[hr]at hm⊢
  cases hp:E1.place r q j with
  |none=>simp only[hp]at hm;cases hm
  |some t=>
   simp only[hp]at hm⊢
   cases t with
   |sl own e2 s cells=>
    simp only at hm⊢
    cases hb:Nat.beq s sz with
    |false=>rw[hb]at hm;cases hm
    |true=>
     rw[hb]at hm;simp only[Af]at hm⊢;have:=Bc hb;subst this
     cases hn:Ea E1 (QW E1 r (q++ [j]) 0 cells)with
     |none=>simp only[hn]at hm;cases hm
     |some y=>
      obtain⟨news,E2⟩:=y;simp only[hn,Bt]at hm⊢
      injection hm with hm
      injection hm with hm1 hm2
      subst hm2;exact uL hf l m h hd' hr hp hn hm1 ho
   |_=>simp only at hm;cases hm
end
def rC (P:Program) (N:Nat) (o:Oper):Bool:=mZ o&&Ug P (DC o).1 1&&WF P (DC o).2.1&&!Nat.beq (DC o).1 (DC o).2.1&&pL P (Th P (DC o).1)&&EW N o
section
variable {o:Oper}
theorem eE {f:Int->List TV} {b:ByteArray} {u:List Int} (hf:∀n,f n=[.int .u8 n]) (l:List Int) (h:tJ l b=some u) (hd:(PK P E o 1).map Prod.fst=some (AB f l):=by kernel_rfl) (hx:S7 P E (DC o).2.1 (DC o).2.2.2=some b:=by kernel_rfl) (ho:rC P N o=true:=by kernel_rfl):
  Cc P N false E o=some ((qF P E o 1).put o.dst (tK P o 1 (AB f u))):=by
 have hd':=Qq hd;simp only[rC,Ai,CH]at ho;obtain⟨⟨⟨⟨⟨a1,a2⟩,a3⟩,a4⟩,a5⟩,a6⟩:=ho;obtain⟨d,a8,_,a9⟩:=DS a6;obtain⟨e,b1,b2,b3⟩:=Le a2;have a:=T5 b1;have c:=Rn a3;have g:=I3 hx;have hne':(DC o).1≠(DC o).2.1:=by intro e;rw[e]at a4;simp at a4
 rw[a]at a5;unfold tJ at h;split at h
 case isFalse=>cases h
 rename_i hb
 injection h with h
 subst h;have hl:(AB f l).length=l.length:=by rw[Em (sz:=1) (λn=>by rw[hf];rfl),Qs]
 generalize hE:qF P E o 1=E1 at hd'⊢;unfold PK at hd';rw[a]at hd';split at hd'
 ·rename_i sv hs;split at hd'
  ·rename_i e1 s i E1' h1
   cases hc:(Nat.beq e1 e&&Nat.beq s 1)with
   |false=>rw[hc]at hd';cases hd'
   |true=>
    rw[hc]at hd';simp only[Af]at hd'
    injection hd' with hd'
    injection hd' with hd1 hd2
    rw[Ai]at hc;have c1:=Bc hc.1;have c2:=Bc hc.2;subst hd1 hd2 c1 c2;unfold Cc;rw[a8];simp only[Ar a9,XT a1,Au hne',MX,b1,c,hs,g,h1];rw[Ar ⟨trivial,trivial,a5,by rw[hl];exact hb⟩,S6 hf,Oy,tK,a]
  cases hd'
 cases hd'
end
def PC (o:Oper):TypeId×Operand×Operand:=match o.op with
 | .makeSlice t l c=>(t,l,c)
 |_=>(0,.tmp 0,.tmp 0)
def sG (o:Oper):Bool:=match o.op with
 | .makeSlice .. =>true
 |_=>false
theorem pO {o:Oper} (h:sG o=true):o.op= .makeSlice (PC o).1 (PC o).2.1 (PC o).2.2:=by
 unfold sG at h;unfold PC;split at h
 ·rename_i h1;simp only[h1]
 cases h
def uE (P:Program) (N:Nat) (o:Oper) (sz by_:Nat):Bool:=sG o&&Ug P (PC o).1 sz&&Nat.beq (P.bytesOf (Th P (PC o).1)) by_&&EW N o
section
variable {o:Oper} {x:α}
theorem iA (hf:∀x,(f x).length=sz) (z:α) (h:mk by_ z n=some u) (hl:Ro P E (PC o).2.1=some n:=by kernel_rfl) (hc:Ro P E (PC o).2.2=some n:=by kernel_rfl) (hz:IN P (Th P (PC o).1)=some (f z):=by kernel_rfl) (ho:uE P N o sz by_=true:=by kernel_rfl):
  Cc P N false E o=some (E.put o.dst (.one (.sl true (Th P (PC o).1) sz (AB f u)))):=by
 simp only[uE,Ai]at ho;obtain⟨⟨⟨a1,a2⟩,a3⟩,a4⟩:=ho;obtain⟨d,a5,a6,_⟩:=DS a4;obtain⟨e,b1,b2,b3⟩:=Le a2;have a:=T5 b1;rw[a]at hz a3⊢;obtain⟨k1,hl⟩:=H8 hl;obtain⟨k2,hc⟩:=H8 hc;rw[a5];exact vE z h (pO a1) a5 a6 b1 hl hc hz rfl (Bc a3) b2
end
def sF (o:Oper):Bool:=match o.op with
 | .convert .. =>true
 |_=>false
theorem pN {o:Oper} (h:sF o=true):o.op= .convert (Nl o).1 (Nl o).2.1 (Nl o).2.2:=by
 unfold sF at h;unfold Nl;split at h
 ·rename_i h1;simp only[h1]
 cases h
def tX (P:Program) (N:Nat) (o:Oper):Bool:=sF o&&WF P (Nl o).1&&Ug P (Nl o).2.1 1&&ZS P (Th P (Nl o).2.1)&&EW N o
theorem w5 {o:Oper} {f:Int->List TV} {b:ByteArray} (hf:∀n,f n=[.int .u8 n]) (hx:S7 P E (Nl o).1 (Nl o).2.2=some b) (ho:tX P N o=true:=by kernel_rfl):Cc P N false E o=some (E.put o.dst (.one (.sl false (Th P (Nl o).2.1) 1 (AB f (f0 b))))):=by
 simp only[tX,Ai]at ho;obtain⟨⟨⟨⟨a1,a2⟩,a3⟩,a4⟩,a5⟩:=ho;obtain⟨d,a6,a7,_⟩:=DS a5;obtain⟨e,b1,b2,b3⟩:=Le a3;have a:=T5 b1;rw[a]at a4⊢;rw[a6];exact vD hf (pN a1) a6 a7 (Rn a2) b1 (I3 hx) a4
section
variable {x:α}
def P9 (o:Oper):TypeId×Operand×Operand:=match o.op with
 | .store t a x=>(t,a,x)
 |_=>(0,.tmp 0,.tmp 0)
end
def sE (o:Oper):Bool:=match o.op with
 | .store .. =>o.dst.isNone
 |_=>false
theorem pM {o:Oper} (h:sE o=true):o.op= .store (P9 o).1 (P9 o).2.1 (P9 o).2.2/\o.dst=none:=by
 unfold sE at h;unfold P9;split at h
 ·rename_i h1;simp only[h1];exact⟨trivial,Option.isNone_iff_eq_none.1 h⟩
 cases h
def RV (P:Program) (E:St) (o:Oper):Option (List TV×St):=match E.val P (P9 o).1 (P9 o).2.2 with
 |some s=>JF E s
 |none=>none
def oQ (P:Program) (E:St) (o:Oper):List TV:=((RV P E o).map Prod.fst).getD []
def kZ (P:Program) (E:St) (o:Oper):St:=((RV P E o).map Prod.snd).getD E
def tT (P:Program) (E:St) (o:Oper):Root×List Nat×Nat:=G8 (kZ P E o) (P9 o).2.1
def oR (P:Program) (E:St) (o:Oper) (k sz:Nat):Bool:=sE o&&(RV P E o).isSome&&Nat.beq (oQ P E o).length (P.cellsOf (P9 o).1)&&Nat.blt 0 (oQ P E o).length&&Nat.ble (k+(oQ P E o).length) sz
section
variable {o:Oper} {x:α}
theorem vW {r:Root} (hf:∀x,(f x).length=sz) (hx:gi l n=some x) (k:Nat) {c:Nat} {q:List Nat} {cs cs':List TV} (ho:oR P E o k sz=true) (hp:(kZ P E o).ptr? (P9 o).2.1=some (r,c::q,n.toNat*sz+k)) (hr:(kZ P E o).root r=some cs) (A:At cs (c::q) (AB f l) (λa=>setRow a (n.toNat*sz+k) (oQ P E o)) cs'):Cc P N false E o=some (((kZ P E o).setRoot r cs').bump r):=by
 simp only[oR,Ai]at ho;obtain⟨⟨⟨⟨a1,a2⟩,a3⟩,a4⟩,a5⟩:=ho;obtain⟨b1,b2⟩:=pM a1;have ht:RV P E o=some (oQ P E o,kZ P E o):=by
  unfold oQ kZ
  cases hh:RV P E o with
  |none=>rw[hh]at a2;cases a2
  |some z=>rfl
 generalize hX:oQ P E o=xs at*;generalize hE:kZ P E o=E1 at*;unfold RV at ht;split at ht
 ·rename_i s hs;have h0':0<xs.length:=by simpa[Bi]using a4
  simp only[Cc,b2,b1,R2,hs,ht,hp,hr,A.c];rw[Ar ⟨A.o,Bc a3,h0',sL hf hx a5⟩,Au (by simp),A.u]
 cases ht
end
section
variable {o:Oper}
def rV (E:St) (r:Root) (c:Nat) (a:List TV):List TV:=match E.root r with
 |some cs=>match cs[c]? with
  |some (.sl o e s _)=>cs.set c (.sl o e s a)
  |_=>cs
 |none=>[]
end
def Qc (E:St) (r:Root) (c:Nat):Option (List TV):=match E.root r with
 |some cs=>match cs[c]? with
  |some (.sl true e s row)=>some row
  |_=>none
 |none=>none
theorem SI {r:Root} {c:Nat} {a:List TV} (h:Qc E r c=some a):∃cs e s,E.root r=some cs/\cs[c]?=some (.sl true e s a)/\∀row',rV E r c row'=cs.set c (.sl true e s row'):=by
 unfold Qc at h;unfold rV;split at h
 ·rename_i cs hr;split at h
  ·rename_i e s row' hc
   injection h with h
   subst h;exact⟨cs,e,s,hr,hc,λrow''=>by simp only[hc]⟩
  cases h
 cases h
section
variable {o:Oper} {x:α}
theorem HU (hf:∀x,(f x).length=sz) (hx:gi l n=some x) (k c:Nat) (z:α) (ho:oR P E o k sz=true:=by kernel_rfl) (hp:(kZ P E o).ptr? (P9 o).2.1=some ((tT P E o).1,[c],n.toNat*sz+k):=by kernel_rfl) (hr:Qc (kZ P E o) (tT P E o).1 c=some (AB f l):=by kernel_rfl) (hz:setRow (f x) k (oQ P E o)=f z:=by kernel_rfl):Cc P N false E o=some (((kZ P E o).setRoot (tT P E o).1 (rV (kZ P E o) (tT P E o).1 c (AB f (si l n z)))).bump (tT P E o).1):=by
 obtain⟨cs,e,s,h1,h2,h3⟩:=SI hr;refine vW hf hx k ho hp h1 ?_;rw[h3];have hk:Nat.ble (k+(oQ P E o).length) sz=true:=by
  simp only[oR,Ai]at ho;exact ho.2
 exact At.one (Ws hf hx hk hz) h2 rfl
end
theorem KB.o {ops:Array Oper} {ts dn:List Nat} (mv:Bool) (h:KW P N ops ts (i::dn) ((Cc P N mv E (oA ops i)).getD E) Q) (hs:(Cc P N mv E (oA ops i)).isSome=true:=by kernel_rfl) (hk:(PB P ops E i&&(kp (oA ops i)||ts.contains i))=true:=by kernel_rfl):KB P N ops ts dn i E Q:=IL (getD_some hs) h hk
def bits:Nat->List (TypeId×Operand)->List (Bool×TypeId×Operand)
 |_,[]=>[]
 |m,(t,x)::l=>(Nat.beq (m %2) 1,t,x)::bits (m/2) l
def Pu (o:Oper):Nat:=match o.op with
 | .call c=>match c.callee with
  | .value (.func f)=>f
  |_=>0
 |_=>0
def Gj (o:Oper):List (TypeId×Operand):=match o.op with
 | .call c=>c.argTypes.toList.zip c.args.toList
 |_=>[]
def Ti (P:Program) (N:Nat) (o:Oper):Bool:=(match o.op with
 | .call c=>match c.callee with
  | .value (.func f)=>Nat.beq c.argTypes.size c.args.size&&(match P.funcs[f]? with
   | some fn => !(fn.name == "runtime.NumGoroutine") && !fn.body.isNone
   |none=>false)
  |_=>false
 |_=>false)&&(match o.dst with
 |some d=>Nat.blt d N
 |none=>true)
theorem R6:∀{l:List (TypeId×Operand)} {m:Nat},(bits m l).map (λx=>x.2.2)=l.map Prod.snd
 |[],m=>rfl
 |(t,x)::l,m=>by simp only[bits,BO,R6]
theorem Pj {o:Oper} (h:Ti P N o=true):∃args tys,o.op= .call {callee:= .value (.func (Pu o)),args:=args,argTypes:=tys}/\Yk P (Pu o)/\(∀d,o.dst=some d->d<N)/\(Gj o).map Prod.snd=args.toList:=by
 simp only[Ti,Ai]at h;obtain⟨h1,h2⟩:=h;have hN:∀d,o.dst=some d->d<N:=by
  intro d hd;rw[hd]at h2;simpa[Bi]using h2
 unfold Pu Gj;split at h1
 ·rename_i c hc;split at h1
  ·rename_i f a;rw[Ai]at h1;obtain⟨h3,h4⟩:=h1;split at h4
   ·rename_i fn b;simp only[Ai,CH]at h4;obtain⟨callee,args,types⟩:=c;simp only at a h3;subst a;have hz:=Bc h3;refine⟨args,types,by simp only[hc],?_,hN,?_⟩
    ·exact⟨fn,b,by intro e;rw[e]at h4;simp at h4,h4.2⟩
    exact List.map_snd_zip (by simp[hz])
   cases h4
  cases h1
 cases h1
def vS (P:Program) (E:St) (o:Oper) (m:Nat):Option (List (Option SV)×St):=KE P E (bits m (Gj o))
def sN (P:Program) (E:St) (o:Oper) (m:Nat):St:=((vS P E o m).map Prod.snd).getD E
def vC (P:Program) (E:St) (o:Oper) (m:Nat):Option (List AV×Bool):=match vS P E o m with
 |some (ss,E1)=>Ia P E1 (bits m (Gj o)) ss
 |none=>none
def cY (P:Program) (E:St) (o:Oper) (m:Nat):Option (List AV):=(vC P E o m).map Prod.fst
def rN (P:Program) (E:St) (o:Oper) (m:Nat):Bool:=match vC P E o m with
 |some (_,b)=>b
 |none=>false
theorem nJ {o:Oper} {a:SV} (h:cY P E o m=some as) (hc:rN P E o m=true\/BG a=false):T7 P E o.dst (bits m (Gj o)) as a ((sN P E o m).put o.dst a):=by
 unfold cY rN vC at*;unfold sN
 cases hm:vS P E o m with
 |none=>rw[hm]at h;cases h
 |some z=>
  obtain⟨ss,E1⟩:=z;rw[hm]at h hc;simp only at h hc
  cases hs:Ia P E1 (bits m (Gj o)) ss with
  |none=>rw[hs]at h;cases h
  |some y=>
   obtain⟨as',c⟩:=y;rw[hs]at h hc;simp only[Bt]at h hc
   injection h with h
   subst h;exact⟨ss,E1,c,hm,hs,hc,rfl⟩
theorem ca {γ:Type _} {l l':List γ} {a b:γ} (h:a=b) (k:l=l'):a::l=b::l':=by rw[h,k]
theorem cs {e sz:Nat} {a b:List TV} (h:By a=b):TV.sl false e sz (By a)= .sl false e sz b:=by rw[h]
theorem co {a b:TV} (h:a=b):AV.sv (.one a)= .sv (.one b):=by rw[h]
theorem WQ {a b:List TV} (h:a=b):AV.sv (.agg a)= .sv (.agg b):=by rw[h]
theorem RW.c {l:List AV} {n:Nat} {x:Option α} (m:Nat) (h:x.bind kk=some r) {enc:α->SV} (a:∀v,x=some v->A3 P (Pu (oA ops i)) l (enc v) (List.replicate n .gone)) (hk:∀v,x=some v->kk v=some r->RW P N ops (i+1) ((sN P E (oA ops i) m).put (oA ops i).dst (enc v)) Q) (b:cY P E (oA ops i) m=some l:=by kernel_rfl) (hc:rN P E (oA ops i) m=true\/∀v,BG (enc v)=false:=by exact .inl (by kernel_rfl)) (ho:(PB P ops E i&&Ti P N (oA ops i))=true:=by kernel_rfl):RW P N ops i E Q:=by
 obtain⟨v,hv,h⟩:=Ao.1 h;rw[Ai]at ho;obtain⟨h1,h2⟩:=Hd ho.1;obtain⟨args,tys,h3,h4,h5,h6⟩:=Pj ho.2;unfold RW;rw[FT h1];exact EY.call h3 h4 h2 h5 (bits m (Gj (oA ops i))) (by rw[R6,h6]) (a v hv) (nJ b (hc.imp id (λh=>h v))) (hk v hv h)
section
variable {ts:List Nat}
theorem KB.c {l:List AV} {n:Nat} {x:Option α} (m:Nat) (h:x.bind kk=some r) {enc:α->SV} (a:∀v,x=some v->A3 P (Pu (oA ops i)) l (enc v) (List.replicate n .gone)) (hk:∀v,x=some v->kk v=some r->KW P N ops ts (i::dn) ((sN P E (oA ops i) m).put (oA ops i).dst (enc v)) Q) (b:cY P E (oA ops i) m=some l:=by kernel_rfl) (hc:rN P E (oA ops i) m=true\/∀v,BG (enc v)=false:=by exact .inl (by kernel_rfl)) (ho:(PB P ops E i&&Ti P N (oA ops i)&&((bits m (Gj (oA ops i))).all (λx=>!x.1)||ts.contains i))=true:=by kernel_rfl):KB P N ops ts dn i E Q:=by
 obtain⟨v,hv,h⟩:=Ao.1 h;simp only[Ai]at ho;obtain⟨h1,h2⟩:=Hd ho.1.1;obtain⟨args,tys,h3,h4,h5,h6⟩:=Pj ho.1.2;exact Vy.call i (H0 h1) h3 h4 h2 h5 (bits m (Gj (oA ops i))) (by rw[R6,h6]) ho.2 (a v hv) (nJ b (hc.imp id (λh=>h v))) (hk v hv h)
end
theorem gs {f:FuncId} {l l':List AV} {n:Nat} {x:Option α} {enc:α->SV} (e:l=l') (h:∀v,x=some v->A3 P f l' (enc v) (List.replicate n .gone)):∀v,x=some v->A3 P f l (enc v) (List.replicate n .gone):=e▸h
def nL (E:St) (o:Oper):Root:=match Gj o with
 |(_,x)::_=>(G8 E x).1
 |[]=> .hand
def p7 (E:St) (o:Oper):Bool:=match Gj o with
 |(_,x)::_=>(match E.ptr? x with
  |some (r,[],0)=>r.mem
  |_=>false)
 |[]=>false
def vZ (P:Program) (E:St) (o:Oper):Option (List AV×Bool):=Ia P (E.without (nL E o)) (bits 0 (Gj o).tail) (List.replicate (bits 0 (Gj o).tail).length none)
def p8 (P:Program) (E:St) (o:Oper):Option (List AV):=(vZ P E o).map Prod.fst
def u6 (P:Program) (E:St) (o:Oper):Bool:=match vZ P E o with
 |some (_,b)=>b
 |none=>false
theorem uN {o:Oper} (h:p7 E o=true):∃t x l,Gj o=(t,x)::l/\E.ptr? x=some (nL E o,[],0)/\(nL E o).mem=true:=by
 unfold p7 at h;unfold nL;split at h
 ·rename_i t x l hl;split at h
  ·rename_i r hp;refine⟨t,x,l,hl,?_,?_⟩
   ·simp only[G8,hp,Bu]
   simpa only[G8,hp,Bu]using h
  cases h
 cases h
theorem sM {p:Prop} {o:Oper} (h:p8 P E o=some as) (hc:u6 P E o=true\/p):∃c,Ia P (E.without (nL E o)) (bits 0 (Gj o).tail) (List.replicate (bits 0 (Gj o).tail).length none)=some (as,c)/\(c=true\/p):=by
 unfold p8 u6 at*
 cases hs:vZ P E o with
 |none=>rw[hs]at h;cases h
 |some y=>
  obtain⟨as',c⟩:=y;rw[hs]at h hc;simp only[Bt]at h hc
  injection h with h
  subst h;exact⟨c,hs,hc⟩
theorem uV {l:List AV} {n:Nat} {x:Option α} (h:x.bind kk=some r) {enc:α->SV} {b:List TV} (e:∀v,x=some v->A3 P (Pu (oA ops i)) (.ext b::l) (enc v) (.ext (fin v)::List.replicate n .gone)) (d:∀v,(fin v).length=b.length) (hk:∀v,x=some v->kk v=some r->RW P N ops (i+1) (((E.setRoot (nL E (oA ops i)) (fin v)).bump (nL E (oA ops i))).put (oA ops i).dst (enc v)) Q) (f:p8 P E (oA ops i)=some l:=by kernel_rfl) (hb:E.boxes (nL E (oA ops i))=some b:=by kernel_rfl) (hc:u6 P E (oA ops i)=true\/∀v,BG (enc v)=false/\Bb (fin v)=false:=by exact .inl (by kernel_rfl)) (ho:(PB P ops E i&&Ti P N (oA ops i)&&p7 E (oA ops i))=true:=by kernel_rfl):RW P N ops i E Q:=by
 obtain⟨v,hv,h⟩:=Ao.1 h;simp only[Ai]at ho;obtain⟨h1,h2⟩:=Hd ho.1.1;obtain⟨args,tys,h3,h4,h5,h6⟩:=Pj ho.1.2;obtain⟨t,x0,l0,h7,h8,h9⟩:=uN ho.2;obtain⟨c,h10,h11⟩:=sM f hc;unfold RW;rw[FT h1];intro w0 FA UA w a blk FS US hr hF hU;simp only[wpList,BS hr h2,BU];refine .inl (nT hr hF hU h3 h4 h5 (x:=x0) (l:=bits 0 (Gj (oA ops i)).tail) ?_ h9 h8 hb (d v) h10 (h11.imp id (λh=>h v)) (e v hv) λw' v' blk' FS' US' k1 k2 k3=>hk v hv h _ _ _ _ _ _ _ _ k1 k2 k3);rw[R6,<-h6,h7];rfl
theorem wc {c:Operand} {x y:Code} (h:(bif b then tx else ty)=some r) (ht:tx=some r->Wp P N x E Q) (hf:ty=some r->Wp P N y E Q) (hc:E.cell1 P 0 c=some (.bool b):=by kernel_rfl):Wp P N (.cond c x y) E Q:=Wp.c h ht hf hc
theorem wt {c:Operand} {x y:Code} (ht:Wp P N x E Q) (hc:E.cell1 P 0 c=some (.bool true):=by kernel_rfl):Wp P N (.cond c x y) E Q:=uR ht hc
theorem wf {c:Operand} {x y:Code} (hf:Wp P N y E Q) (hc:E.cell1 P 0 c=some (.bool false):=by kernel_rfl):Wp P N (.cond c x y) E Q:=uS hf hc
theorem wV {rs:List ResultVar} {a:SV} (h:(Dg P E rs).map (λz=>D6 z.1)=some a):∃ss E',Dg P E rs=some (ss,E')/\D6 ss=a:=by
 obtain⟨z,h1,h2⟩:=AN.1 h;exact⟨z.1,z.2,h1,h2⟩
theorem wW {rt:Root} {rs:List ResultVar} {b:SV} {a:List TV} (h:(Dg P E rs).map (λz=>(D6 z.1,z.2.boxes rt))=some (b,some a)):∃ss E',Dg P E rs=some (ss,E')/\D6 ss=b/\E'.boxes rt=some a:=by
 obtain⟨z,h1,h2⟩:=AN.1 h
 injection h2 with h3 h4
 exact⟨z.1,z.2,h1,h3,h4⟩
theorem w4 {f:FuncId} {c:Code} {a cells':List TV} {b:SV} (hf:P.funcs[f]?=some fn) (hb:fn.body=some c) (hN:fn.ntmps=N) (h:Wp P N c (Dc (.ext a::as)) λe E=>(e= .normal\/e= .ret)/\∃ss E',Dg P E fn.results.toList=some (ss,E')/\D6 ss=b/\E'.boxes (.ext 0)=some cells') (d:cells'.isEmpty=false:=by rfl):A3 P f (.ext a::as) b (.ext cells'::List.replicate as.length .gone):=jS hf hb (by rw[hN];exact h) d
theorem gk {f:FuncId} {c:Code} {a:SV} (hf:P.funcs[f]?=some fn) (hb:fn.body=some c) (hN:fn.ntmps=N) (h:Wp P N c (Dc as) λe E=>(e= .normal\/e= .ret)/\∃ss E',Dg P E fn.results.toList=some (ss,E')/\D6 ss=a):A3 P f as a (List.replicate as.length .gone):=m9 hf hb (by rw[hN];exact h)
theorem cW:∀t:TV,(Jk t).isSl=t.isSl:=by intro t;cases t<;>rfl
theorem HZ:∀(cs:List TV) (j:Nat),(By cs)[j]?=cs[j]?.map Jk
 |[],j=>by simp[By]
 |t::ts,0=>by simp[By]
 |t::ts,j+1=>by simpa[By]using HZ ts j
theorem SQ:∀(q:List Nat) (cs:List TV),BN (By cs) q=(BN cs q).map By
 |[],cs=>rfl
 |c::q,cs=>by
  simp only[BN,HZ]
  cases cs[c]? with
  |none=>rfl
  |some t=>
   cases t with
   |sl o e sz cells=>exact SQ q cells
   |_=>rfl
def eD:TV->List TV->TV
 | .sl _ e s _,row=> .sl false e s row
 |t,_=>t
def UW (cs:List TV) (j:Nat) (a:List TV):List TV:=match cs[j]? with
 |some t=>cs.set j (eD t a)
 |none=>cs
theorem Yo {cs:List TV} {j e s:Nat} {a:List TV} (h:cs[j]?=some (.sl true e s a)) (c:Nat):(UW cs j (By a))[c]?=if c=j then some (.sl false e s (By a))else cs[c]? :=by
 have hj:=(Ag.1 h).1;simp only[UW,h,eD];rw[BY];by_cases hc:j=c
 ·subst hc;simp[hj]
 rw[Au hc,Au (λe=>hc e.symm)]
theorem nD {r1:List TV} {cs:List TV} {j e s:Nat} {a:List TV} (h:cs[j]?=some (.sl true e s a)) {q:List Nat} (hq:BN cs q=some r1) (i:Nat):
  ∃r2,BN (UW cs j (By a)) q=some r2/\(r1[i]?.isSome=true->r2[i]?.isSome=true)/\(Iw r1[i]?=true->Iw r2[i]?=true):=by
 cases q with
 |nil=>
  simp only[BN]at hq
  injection hq with hq
  subst hq;refine⟨_,rfl,?_,?_⟩
  ·rw[Yo h];split
   ·intro _;rfl
   exact id
  rw[Yo h];split
  ·intro _;rfl
  exact id
 |cons c q=>
  simp only[BN,Yo h];simp only[BN]at hq;by_cases hc:c=j
  ·subst hc;rw[h]at hq;simp only at hq;rw[Ar rfl];simp only[SQ,hq,Bt];refine⟨_,rfl,?_,?_⟩
   ·rw[HZ];simp
   rw[HZ]
   cases r1[i]? with
   |none=>exact id
   |some t=>simp only[Iw,Bt,cW];exact id
  rw[Au hc];exact⟨r1,hq,id,id⟩
theorem Ut:∀{ts:List TV} {vs:List Value} {F U:List Nat} {j:Nat} {t:TV},Bl w ts vs F U->ts[j]?=some t->F.Nodup->(∀v F1 U1,Cd w t v F1 U1->∃F2 U2,Cd w t' v F2 U2/\Ha F1 U1 F2 U2)->
  ∃F' U',Bl w (ts.set j t') vs F' U'/\Ha F U F' U'
 |[],vs,F,U,j,t,h,hj,_,_=>by simp at hj
 |x::ts,vs,F,U,0,t,h,hj,hn,hk=>by
  simp at hj;subst hj;simp only[Bl]at h;obtain⟨v,a,F1,F2,U1,U2,rfl,rfl,rfl,h1,h2⟩:=h;obtain⟨F1',U1',a1,a2⟩:=hk v F1 U1 h1;exact⟨F1'++F2,U1'++U2,by simp only[Dz,Bl];exact⟨v,a,F1',F2,U1',U2,rfl,rfl,rfl,a1,h2⟩,OV hn a2 Ha.refl⟩
 |x::ts,vs,F,U,j+1,t,h,hj,hn,hk=>by
  simp only[Bl]at h;obtain⟨v,a,F1,F2,U1,U2,rfl,rfl,rfl,h1,h2⟩:=h;obtain⟨F2',U2',a1,a2⟩:=Ut h2 (by simpa using hj) (AY.1 hn).2.1 hk;exact⟨F1++F2',U1++U2',by simp only[Kk,Bl];exact⟨v,a,F1,F2',U1,U2',rfl,rfl,rfl,h1,a1⟩,OV hn Ha.refl a2⟩
theorem Vg {a:Act} {blk:Root->Nat}:∀{ts:List TV} {vs:List Value} {F U:List Nat} {j:Nat} {t:TV},Cy w a E blk ts vs F U->ts[j]?=some t->F.Nodup->(∀v F1 U1,C1 w a E blk t v F1 U1->∃F2 U2,C1 w a E blk t' v F2 U2/\Ha F1 U1 F2 U2)->
  ∃F' U',Cy w a E blk (ts.set j t') vs F' U'/\Ha F U F' U'
 |[],vs,F,U,j,t,h,hj,_,_=>by simp at hj
 |x::ts,vs,F,U,0,t,h,hj,hn,hk=>by
  simp at hj;subst hj;obtain⟨v,b,F1,F2,U1,U2,rfl,rfl,rfl,h1,h2⟩:=h;obtain⟨F1',U1',a1,a2⟩:=hk v F1 U1 h1;exact⟨F1'++F2,U1'++U2,by rw[Dz];exact⟨v,b,F1',F2,U1',U2,rfl,rfl,rfl,a1,h2⟩,OV hn a2 Ha.refl⟩
 |x::ts,vs,F,U,j+1,t,h,hj,hn,hk=>by
  obtain⟨v,b,F1,F2,U1,U2,rfl,rfl,rfl,h1,h2⟩:=h;obtain⟨F2',U2',a1,a2⟩:=Vg h2 (by simpa using hj) (AY.1 hn).2.1 hk;exact⟨F1++F2',U1++U2',by rw[Kk];exact⟨v,b,F1,F2',U1,U2',rfl,rfl,rfl,h1,a1⟩,OV hn Ha.refl a2⟩
def uH (E:St) (r:Root) (j:Nat) (a:List TV):St:=match E.root r with
 |some cs=>E.setRoot r (UW cs j a)
 |none=>E
theorem eC {a:Act} {r:Root} {cs:List TV} {j e s:Nat} {b:List TV} (hr:E.root r=some cs) (hj:cs[j]?=some (.sl true e s b)) (hh:r≠ .hand) (R:Root):BW w w a a E (E.setRoot r (UW cs j (By b))) blk blk R:=by
 have d:(E.setRoot r (UW cs j (By b))).ver=E.ver:=by cases r<;>rfl
 have f:(E.setRoot r (UW cs j (By b))).gen=E.gen:=by cases r<;>rfl
 have g:(UW cs j (By b)).length=cs.length:=by simp[UW,hj]
 have c:∀cs0,E.root R=some cs0->∃cs1,(E.setRoot r (UW cs j (By b))).root R=some cs1/\∀q r1,BN cs0 q=some r1->∀i:Nat,∃r2,BN cs1 q=some r2/\(r1[i]?.isSome=true->r2[i]?.isSome=true)/\(Iw r1[i]?=true->Iw r2[i]?=true):=by
  intro cs0 h0;by_cases hR:R=r
  ·subst hR;rw[hr]at h0
   injection h0 with h0
   subst h0;refine⟨UW cs j (By b),?_,λq r1 hq i=>nD hj hq i⟩
   cases R with
   |slot n=>
    simp only[St.root,St.setRoot,BX,BU]at hr⊢
    injection hr with hr
    congr 1
    cases hs:E.slots n with
    |one t=>
     rw[hs]at hr;simp only[SV.cells]at hr;subst hr;have:(UW [t] j (By b)).length=1:=g
     match hf:UW [t] j (By b),this with
     |[x],_=>rfl
    |agg ts=>rfl
    |tup ss=>
     rw[hs]at hr;simp only[SV.cells]at hr;subst hr;simp at hj
   |box n=>simp[St.root,St.setRoot,BX]
   |ext n=>simp[St.root,St.setRoot,BX]
   |hand=>exact absurd rfl hh
  refine⟨cs0,?_,λq r1 hq i=>⟨r1,hq,id,id⟩⟩;rw[<-h0];cases r<;>cases R<;>simp only[St.root,St.setRoot,BX]<;>first
   |exact absurd rfl hh
   |rfl
   |(rw[Au];intro e;exact hR (by rw[e]))
   |(rw[Au];intro e;injection e with e;exact hR (by rw[e]))
   |(rw[Au];intro e;cases e)
 constructor
 ·refine .inr ⟨by rw[d],λq i v h1 h2=>⟨h1,?_⟩,λq i ad hq h1 h2=>⟨h1,?_⟩⟩
  ·unfold St.place at h2⊢
   cases h0:E.root R with
   |none=>rw[h0]at h2;cases h2
   |some cs0=>
    rw[h0]at h2;obtain⟨cs1,k1,k2⟩:=c cs0 h0;simp only[Aa]at h2
    cases hc:BN cs0 q with
    |none=>rw[hc]at h2;cases h2
    |some r1=>
     rw[hc]at h2;obtain⟨r2,k3,_,k4⟩:=k2 q r1 hc i;rw[k1];simp only[Aa,k3];exact k4 h2
  unfold St.place at h2⊢
  cases h0:E.root R with
  |none=>rw[h0]at h2;cases h2
  |some cs0=>
   rw[h0]at h2;obtain⟨cs1,k1,k2⟩:=c cs0 h0;simp only[Aa]at h2
   cases hc:BN cs0 q with
   |none=>rw[hc]at h2;cases h2
   |some r1=>
    rw[hc]at h2;obtain⟨r2,k3,k4,_⟩:=k2 q r1 hc i;rw[k1];simp only[Aa,k3];exact k4 h2
 refine .inr ⟨by rw[f],λi ad h1 h2=>⟨h1,?_⟩⟩;unfold St.place at h2⊢
 cases h0:E.root R with
 |none=>rw[h0]at h2;cases h2
 |some cs0=>
  rw[h0]at h2;obtain⟨cs1,k1,k2⟩:=c cs0 h0;simp only[Aa]at h2;obtain⟨r2,k3,k4,_⟩:=k2 [] cs0 rfl i;rw[k1];simp only[Aa,k3];exact k4 h2
section
variable {w0:Base} {a:Act}
theorem Cu.freeze {r:Root} (h:Cu w0 FA UA N w a E blk FS US) {cs:List TV} {j e s:Nat} {c:List TV} (hr:E.root r=some cs) (hj:cs[j]?=some (.sl true e s c)) (hh:r≠ .hand):
  ∃FS' US',Cu w0 FA UA N w a (E.setRoot r (UW cs j (By c))) blk FS' US'/\FS' .hand=FS .hand/\US' .hand=US .hand:=by
 have x:=eC (w:=w) (a:=a) (blk:=blk) hr hj hh;have f:UW cs j (By c)=cs.set j (.sl false e s (By c)):=by simp only[UW,hj,eD]
 have l:∀v F1 U1,Cd w (.sl true e s c) v F1 U1->∃F2 U2,Cd w (.sl false e s (By c)) v F2 U2/\Ha F1 U1 F2 U2:=λv F1 U1 h1=>rW h1 (qU.s rfl)
 have y:∃F' U',Ha (FS r) (US r) F' U'/\(∀n,r= .slot n->DD w a (E.setRoot r (UW cs j (By c))) blk ((E.slots n).withCells (UW cs j (By c))) (a.eval (.tmp n)) F' U')/\
   (r.mem=true->∃d T F,w.heap[blk r]?=some (.cells d T (0,0))/\Bl w (UW cs j (By c)) d.toList F U'/\F'=blk r::F):=by
  cases r with
  |slot n=>
   simp only[St.root]at hr
   injection hr with hr
   have hs:=Gu x (h.slot n) (λ_ _=>rfl) (λ_ _=>rfl)
   cases g:E.slots n with
   |one t=>
    rw[g]at hr hs;simp only[SV.cells]at hr;subst hr;have z:j=0:=by
     have:=(Ag.1 hj).1;simpa using this
    subst z;simp at hj;subst hj;simp only[DD]at hs;obtain⟨F2,U2,k1,k2⟩:=l _ _ _ hs.1;refine⟨F2,U2,k2,λm hm=>?_,λhm=>by cases hm⟩
    injection hm with hm
    subst hm;rw[g,f];simp only[Dz,SV.withCells,DD];exact⟨k1,λ_=>hs.2 rfl⟩
   |agg ts=>
    rw[g]at hr hs;simp only[SV.cells]at hr;subst hr;simp only[DD]at hs;obtain⟨vs,k0,k1⟩:=hs;obtain⟨F2,U2,k2,k3⟩:=Vg (t':= .sl false e s (By c)) k1 hj (h.nodup _) l;refine⟨F2,U2,k3,λm hm=>?_,λhm=>by cases hm⟩
    injection hm with hm
    subst hm;rw[g,f];simp only[SV.withCells,DD];rw[f]at k2;exact⟨vs,k0,k2⟩
   |tup ss=>
    rw[g]at hr;simp only[SV.cells]at hr;subst hr;simp at hj
  |hand=>exact absurd rfl hh
  |box n=>
   rcases h.box (.box n) rfl with⟨k,_⟩|⟨cs0,d,T,F,k1,k2,k3,k4⟩
   ·simp only[St.root]at hr;rw[k]at hr;cases hr
   simp only[St.root]at hr;rw[k1]at hr
   injection hr with hr
   subst hr;have i:=h.nodup (.box n);rw[k4]at i;obtain⟨o,p⟩:=CS.1 i;obtain⟨F2,U2,k5,k6⟩:=Ut (t':= .sl false e s (By c)) k3 hj p l;refine⟨blk (.box n)::F2,U2,?_,λm hm=>(by cases hm),λ_=>⟨d,T,F2,k2,by rw[f];exact k5,rfl⟩⟩;rw[k4];refine⟨k6.1.cons_cons _,λb hb=>?_⟩
   rcases k6.2 b hb with q|⟨q1,q2⟩
   ·exact .inl q
   refine .inr ⟨by simp[q1],λhc=>?_⟩
   rcases B6.1 hc with rfl|hc
   ·exact o q1
   exact q2 hc
  |ext n=>
   rcases h.box (.ext n) rfl with⟨k,_⟩|⟨cs0,d,T,F,k1,k2,k3,k4⟩
   ·simp only[St.root]at hr;rw[k]at hr;cases hr
   simp only[St.root]at hr;rw[k1]at hr
   injection hr with hr
   subst hr;have i:=h.nodup (.ext n);rw[k4]at i;obtain⟨o,p⟩:=CS.1 i;obtain⟨F2,U2,k5,k6⟩:=Ut (t':= .sl false e s (By c)) k3 hj p l;refine⟨blk (.ext n)::F2,U2,?_,λm hm=>(by cases hm),λ_=>⟨d,T,F2,k2,by rw[f];exact k5,rfl⟩⟩;rw[k4];refine⟨k6.1.cons_cons _,λb hb=>?_⟩
   rcases k6.2 b hb with q|⟨q1,q2⟩
   ·exact .inl q
   refine .inr ⟨by simp[q1],λhc=>?_⟩
   rcases B6.1 hc with rfl|hc
   ·exact o q1
   exact q2 hc
 obtain⟨F',U',hl,h0,h2⟩:=y
 have u:∀b∈F',b∈FS r:=λb hb=>hl.1.subset hb
 refine⟨BX FS r F',BX US r U',?_,by rw[Bg (λe=>hh e.symm)],by rw[Bg (λe=>hh e.symm)]⟩;have hF:∀R b,b∈BX FS r F' R->b∈FS R:=by
  intro R b hb;by_cases hR:R=r
  ·subst hR;rw[BA]at hb;exact u b hb
  rw[Bg hR]at hb;exact hb
 have hU:∀R b,b∈BX US r U' R->b∈US R\/(R=r/\b∈FS r/\b∉F'):=by
  intro R b hb;by_cases hR:R=r
  ·subst hR;rw[BA]at hb
   rcases hl.2 b hb with q|⟨q1,q2⟩
   ·exact .inl q
   exact .inr ⟨rfl,q1,q2⟩
  rw[Bg hR]at hb;exact .inl hb
 constructor
 ·intro n;by_cases hn:r= .slot n
  ·subst hn;rw[BA,BA];have:=h0 n rfl;simpa only[St.setRoot,BX,BU]using this
  rw[Bg (λe=>hn e.symm),Bg (λe=>hn e.symm)];have h1:(E.setRoot r (UW cs j (By c))).slots n=E.slots n:=by
   cases r with
   |slot m=>
    simp only[St.setRoot,BX];rw[Au];intro e;exact hn (by rw[e])
   |_=>rfl
  rw[h1];exact Gu x (h.slot n) (λ_ _=>rfl) (λ_ _=>rfl)
 ·intro R hm;by_cases hR:R=r
  ·subst hR;right;obtain⟨d,T,F,k1,k2,k3⟩:=h2 hm;refine⟨_,d,T,F,?_,k1,by rw[BA];exact k2,by rw[BA,k3]⟩
   cases R with
   |slot n=>cases hm
   |hand=>cases hm
   |box n=>simp[St.setRoot,BX]
   |ext n=>simp[St.setRoot,BX]
  rw[Bg hR,Bg hR];have h1:(E.setRoot r (UW cs j (By c))).boxes R=E.boxes R:=by
   cases r<;>simp only[St.setRoot,BX]<;>first
    |rfl
    |(rw[Au hR])
  rw[h1];exact h.box R hm
 ·have:(E.setRoot r (UW cs j (By c))).boxes .hand=E.boxes .hand:=by
   cases r<;>simp only[St.setRoot,BX]<;>first
    |exact absurd rfl hh
    |rfl
    |(rw[Au (by simp)])
  rw[this];exact h.nohand
 ·intro R;by_cases hR:R=r
  ·subst hR;rw[BA];exact hl.1.nodup (h.nodup R)
  rw[Bg hR];exact h.nodup R
 ·exact λR S h3 b hb hb'=>h.dis R S h3 b (hF R b hb) (hF S b hb')
 ·intro R S b hb hb'
  rcases hU S b hb' with q|⟨rfl,q1,q2⟩
  ·exact h.disU R S b (hF R b hb) q
  by_cases hR:R=S
  ·subst hR;rw[BA]at hb;exact q2 hb
  exact h.dis R S hR b (hF R b hb) q1
 ·exact λR b hb=>h.inF R b (hF R b hb)
 ·intro R b hb
  rcases hU R b hb with q|⟨rfl,q1,_⟩
  ·exact h.inU R b q
  obtain⟨q2,q3⟩:=h.inF R b q1;exact⟨.inr q2,q3⟩
 ·exact h.disA
 ·exact h.os
 ·exact h.tape
 ·exact h.output
 ·exact h.size
 ·exact h.keep
 ·exact h.len
 ·exact h.nodef
 ·exact h.xblk
 ·rw[Dr];exact h.ambB
 ·rw[Dr];exact h.ambI
 ·rw[Gx];exact h.frz
 ·exact h.ambF
 rw[Dr];exact h.pin
end
theorem nE {r:Root} (h:Qc E r j=some row):∃cs e s,E.root r=some cs/\cs[j]?=some (.sl true e s row)/\uH E r j (By row)=E.setRoot r (UW cs j (By row)):=by
 obtain⟨cs,e,s,h1,h2,_⟩:=SI h;exact⟨cs,e,s,h1,h2,by unfold uH;rw[h1]⟩
def Ty:Root->Bool
 | .hand=>false
 |_=>true
theorem Qe {r:Root} (h:Ty r=true):r≠ .hand:=by rintro rfl;cases h
theorem RW.fz (r:Root) (j:Nat) (hs:By row=row') (h:RW P N ops i (uH E r j row') Q) (ho:Qc E r j=some row:=by kernel_rfl) (hh:Ty r=true:=by rfl):RW P N ops i E Q:=by
 intro w0 FA UA w a blk FS US hr hF hU;obtain⟨cs,e,s,h1,h2,h3⟩:=nE ho;obtain⟨FS',US',k1,k2,k3⟩:=hr.freeze h1 h2 (Qe hh);rw[<-hs,h3]at h;exact h _ _ _ _ _ _ _ _ k1 (by rw[k2,hF]) (by rw[k3,hU])
theorem KW.fz {ts:List Nat} (r:Root) (j:Nat) (hs:By row=row') (h:KW P N ops ts dn (uH E r j row') Q) (ho:Qc E r j=some row:=by kernel_rfl) (hh:Ty r=true:=by rfl):KW P N ops ts dn E Q:=by
 intro hq hc w0 FA UA w a blk FS US hr hF hU;obtain⟨cs,e,s,h1,h2,h3⟩:=nE ho;obtain⟨FS',US',k1,k2,k3⟩:=hr.freeze h1 h2 (Qe hh);rw[<-hs,h3]at h;exact h hq hc _ _ _ _ _ _ _ _ k1 (by rw[k2,hF]) (by rw[k3,hU])
theorem Wp.fz {c:Code} (r:Root) (j:Nat) (hs:By row=row') (h:Wp P N c (uH E r j row') Q) (ho:Qc E r j=some row:=by kernel_rfl) (hh:Ty r=true:=by rfl):Wp P N c E Q:=by
 intro w0 FA UA w a blk FS US hr hF hU;obtain⟨cs,e,s,h1,h2,h3⟩:=nE ho;obtain⟨FS',US',k1,k2,k3⟩:=hr.freeze h1 h2 (Qe hh);rw[<-hs,h3]at h;exact h _ _ _ _ _ _ _ _ k1 (by rw[k2,hF]) (by rw[k3,hU])
def St.fzs (E:St) (f:Option Nat):St:={E with fz:=f}
theorem cU {a:Act} {f:Option Nat} (r:Root):BW w w a a E (E.fzs f) blk blk r:=by
 have hp:∀q j,(E.fzs f).place r q j=E.place r q j:=λq j=>by cases r<;>rfl
 exact⟨.inr ⟨rfl,λq j v h1 h2=>⟨h1,by rw[hp];exact h2⟩,λq j ad _ h1 h2=>⟨h1,by rw[hp];exact h2⟩⟩,.inr ⟨rfl,λj ad h1 h2=>⟨h1,by rw[hp];exact h2⟩⟩⟩
theorem Cu.fzs {w0:Base} {a:Act} (h:Cu w0 FA UA N w a E blk FS US) (f:Option Nat) (hf:∀n,f=some n->oJ w0 a n):Cu w0 FA UA N w a (E.fzs f) blk FS US where
 slot:=λn=>Gu cU (h.slot n) (λ_ _=>rfl) (λ_ _=>rfl)
 box:=h.box
 nohand:=h.nohand
 nodup:=h.nodup
 dis:=h.dis
 disU:=h.disU
 inF:=h.inF
 inU:=h.inU
 disA:=h.disA
 os:=h.os
 tape:=h.tape
 output:=h.output
 size:=h.size
 keep:=h.keep
 len:=h.len
 nodef:=h.nodef
 xblk:=h.xblk
 ambB:=h.ambB
 ambI:=h.ambI
 frz:=hf
 ambF:=h.ambF
 pin:=h.pin
theorem gT (n:Nat):(2*n+1)/2=n:=by omega
theorem gR (n:Nat):¬(2*n+1) %2=0:=by omega
def pT (o:Oper):Bool:=match o.op with
 | .buildSlice t len parts=>Nat.beq len 0&&Nat.beq parts.size 0
 |_=>false
theorem rQ {a:Act} {nx:Next} {w':World} {o:Oper} (hb:pT o=true) (hd:o.dst=some d) (hN:d<N) (hs:Cc P N false E o=some E') (hr:(execOp a.eval o).run P w= .ok nx w'):∃B,nx= .value (.slice B 0 0):=by
 unfold pT at hb;split at hb
 ·rename_i t len parts ho;rw[Ai]at hb;have h1:=Bc hb.1;have h2:=Bc hb.2;subst h1;have h3:parts= #[]:=Array.eq_empty_of_size_eq_zero h2;subst h3;simp only[Cc,hd,Ar hN,ho,Jd]at hs;split at hs
  ·rename_i e hu;split at hs
   ·rename_i zs ss hz b;obtain⟨i,z,hi,c,f,g⟩:=HE (w:=w) hz;simp[execOp,ho,Instr.buildSlice,run_underlying hu,sizeOf,typeInfo,hi,newRow,Instr.fill]at hr;obtain⟨hr,_⟩:=hr;exact⟨_,hr.symm⟩
   cases hs
  cases hs
 cases hb
def lC (x:Operand):Nat:=match x with
 | .tmp n=>n
 |_=>0
theorem fE {ts:List Nat} (h:KW P N ops ts (i::dn) (((Cc P N false E (oA ops i)).getD E).fzs (some (2*((oA ops i).dst.getD 0)+1))) Q) (hs:(Cc P N false E (oA ops i)).isSome=true:=by kernel_rfl) (hk:(PB P ops E i&&pT (oA ops i)&&EW N (oA ops i))=true:=by kernel_rfl):KB P N ops ts dn i E Q:=by
 have hs':=getD_some (a:=E) hs;generalize hE:(Cc P N false E (oA ops i)).getD E=E' at h hs';simp only[Ai]at hk;obtain⟨h1,h2⟩:=Hd hk.1.1;obtain⟨d,h3,_,h4⟩:=DS hk.2;rw[h3]at h;simp only[Bu]at h;have b:kp (oA ops i)=true:=by
  have:=hk.1.2;unfold pT at this;unfold kp;split at this
  ·rename_i ho;rw[ho]
  cases this
 intro w0 FA UA w a blk FS US hr hF hU;unfold wpOp;simp only[H0 h1,BS hr h2,BU];obtain⟨nx,w',v,blk',FS',US',k1,k2,k3,k4,k5,k6⟩:=NH hr hF hU hs';obtain⟨B,hB⟩:=rQ (N:=N) hk.1.2 h3 h4 hs' k1;have hv:v= .slice B 0 0:=by
  rcases k2 with k2|⟨k2,_⟩
  ·rw[hB]at k2;injection k2 with k2;exact k2.symm
  rw[hB]at k2;cases k2
 refine .inl ?_;unfold Oper.wp;rw[k1,hB];refine⟨λ_=>k6 b,_,blk',FS',US',h,?_,k4,k5⟩;rw[hv]at k3;refine k3.fzs _ (λn hn=>?_)
 injection hn with hn
 subst hn;unfold oJ;rw[Au (gR d),gT d,h3];refine⟨B,?_⟩;have:=k3.len;simp only[Act.eval,Act.put];rw[D3];have hl:=hr.len;have c:d<a.tmps.size:=AJ h4 hl;simp[Array.getElem?_setIfInBounds_self,c]
theorem KB.a {ts:List Nat} (hs:Cc P N false E (oA ops i)=some E') (h:KW P N ops ts (i::dn) (E'.fzs none) Q) (hk:(PB P ops E i&&mZ (oA ops i)&&Nat.beq (DC (oA ops i)).1 (DC (oA ops i)).2.1&&EW N (oA ops i))=true:=by kernel_rfl) (hx:(DC (oA ops i)).2.2.1= .tmp (lC (DC (oA ops i)).2.2.1):=by kernel_rfl) (hz:E.fz=some (2*lC (DC (oA ops i)).2.2.1+1):=by kernel_rfl):KB P N ops ts dn i E Q:=by
 simp only[Ai]at hk;obtain⟨⟨⟨h0,h5⟩,h6⟩,h7⟩:=hk;obtain⟨h1,h2⟩:=Hd h0;obtain⟨d,h3,_,h4⟩:=DS h7;have c:=Bc h6;have ho:=XT h5;rw[<-c]at ho;intro w0 FA UA w a blk FS US hr hF hU;unfold wpOp;simp only[H0 h1,BS hr h2,BU];have he:Kt P E d (DC (oA ops i)).1 (DC (oA ops i)).2.2.1 (DC (oA ops i)).2.2.2=some E':=by
  unfold Cc at hs;rw[h3]at hs;simpa only[Ar h4,ho,BU]using hs
 obtain⟨nx,w',v,blk',FS',US',k1,k2,k3,k4,k5,_,k6⟩:=RD hr hF hU ho h3 h4 he;have b:=hr.frz _ hz;unfold oJ at b;rw[Au (gR _),gT,<-hx]at b;obtain⟨B,hB⟩:=b;refine .inl ?_;unfold Oper.wp;rw[k1]
 rcases k2 with rfl|⟨rfl,rfl⟩
 ·exact⟨λ_=>k6 B hB,_,blk',FS',US',h,k3.fzs none (λn hn=>by cases hn),k4,k5⟩
 exact⟨λ_=>k6 B hB,_,blk',FS',US',h,k3.fzs none (λn hn=>by cases hn),k4,k5⟩
def tE (N:Nat) (E:St) (o:Oper):Option St:=match o.op,o.dst with
 | .extract t ix,some d=>bif Nat.blt d N then KO E d t ix else none
 |_,_=>none
theorem rG {w0:Base} {a:Act} (h:Cu w0 FA UA N w a E blk FS US) (hF:FS .hand=[]) (hU:US .hand=[]) {o:Oper} (he:tE N E o=some E'):
  ∃v blk' FS' US',(∀w2,(execOp a.eval o).run P w2= .ok (.value v) w2)/\Cu w0 FA UA N w (a.put o.dst v) E' blk' FS' US'/\FS' .hand=[]/\US' .hand=[]:=by
 unfold tE at he;split at he
 ·rename_i t ix d ho hd
  cases hN:Nat.blt d N with
  |false=>rw[hN]at he;cases he
  |true=>
   rw[hN]at he;simp only[Af]at he;have hN':d<N:=by simpa[Bi]using hN
   obtain⟨nx,w',v,blk',FS',US',k1,k2,k3,k4,k5,_⟩:=D8.extract (P:=P) h hF hU ho hd hN' he;have b:∃x,∀w2,(execOp a.eval o).run P w2= .ok (.value x) w2:=by
    unfold KO at he;split at he
    ·rename_i n;split at he
     ·rename_i ss c;split at he
      ·rename_i s e;have hs:=h.slot n;rw[c]at hs;simp only[DD]at hs;obtain⟨vs,f,hx⟩:=hs;obtain⟨v,A,B,C,D,F1,U1,h1,h2,h3,h4,h5⟩:=TR ix hx e;exact⟨v,λw2=>by simp[execOp,ho,Instr.extract,f,h1]⟩
      cases he
     cases he
    cases he
   obtain⟨x,hx⟩:=b;rw[hx w]at k1
   injection k1 with q1 q2
   subst q1 q2
   rcases k2 with k2|⟨k2,_⟩
   ·injection k2 with k2
    subst k2;exact⟨_,blk',FS',US',hx,k3,k4,k5⟩
   cases k2
 cases he
theorem RA {ts:List Nat} (i:Nat) (h:KW P N ops ts (i::dn) ((tE N E (oA ops i)).getD E) Q) (hs:(tE N E (oA ops i)).isSome=true:=by kernel_rfl) (hk:(PB P ops E i&&bH ops ts dn i)=true:=by kernel_rfl):KW P N ops ts dn E Q:=by
 have hs':=getD_some (a:=E) hs;generalize hE:(tE N E (oA ops i)).getD E=E' at h hs';simp only[Ai,bH]at hk;obtain⟨h1,h3,h4⟩:=hk;obtain⟨h5,h6⟩:=Hd h1;unfold KW at h⊢;rw[Rl (i:=i) h3];intro hQ hc w0 FA UA w a blk FS US k1 k2 k3;obtain⟨e1,e2,e3,e4,e5⟩:=Rz h4;obtain⟨v,blk',FS',US',g1,g2,g3,g4⟩:=rG (P:=P) k1 k2 k3 hs';refine JT (v:=v) (n:=ops.size) (H0 h5) (Region.noSelect_spec e1) (λc a w hx=>?_) e4 e5 _ _ a w hc (Region.free_spec (H0 h5) e2) e3 (.inl ⟨BS k1 h6,λw2 _=>g1 w2⟩) ?_
 ·obtain⟨E',blk',FS',US',m1,_⟩:=hx;exact(hQ c E' m1).elim
 exact h hQ (II hc e3) _ _ _ _ _ _ _ _ g2 g3 g4
def fC (P:Program) (E:St) (o:Oper) (s:SV):Prop:=∀(N:Nat) (w0:Base) (FA UA:List Nat) (w:World) (a:Act) (blk:Root->Nat) (FS US:Root->List Nat),Cu w0 FA UA N w a E blk FS US->DX P w a E blk FS US o s
theorem w9 (hp:fC P E (oA ops i) s) (h:RW P N ops (i+1) (E.put (oA ops i).dst s) Q) (hk:(PB P ops E i&&EW N (oA ops i))=true:=by kernel_rfl):RW P N ops i E Q:=by
 rw[Ai]at hk;obtain⟨h1,h2⟩:=Hd hk.1;obtain⟨d,h3,_,h4⟩:=DS hk.2;rw[h3]at h;unfold RW;rw[FT h1];intro w0 FA UA w a blk FS US hr hF hU;simp only[wpList,BS hr h2,BU];exact .inl ((IM hr hF hU (hp _ _ _ _ _ _ _ _ _ hr) h3 h4).wp λw' v blk' FS' US' k1 k2 k3 _=>h _ _ _ _ _ _ _ _ k1 k2 k3)
theorem w8 (hp:fC P E (oA ops i) s) (h:SW P N ops m (i+1) (E.put (oA ops i).dst s) K) (hk:(PB P ops E i&&EW N (oA ops i)&&Nat.blt i m)=true:=by kernel_rfl):SW P N ops m i E K:=by
 simp only[Ai]at hk;obtain⟨h1,h2⟩:=Hd hk.1.1;obtain⟨d,h3,_,h4⟩:=DS hk.1.2;rw[h3]at h;unfold SW;rw[MY h1 hk.2];intro w0 FA UA w a blk FS US k1 k2 k3;obtain⟨v,U,g1,g2,g3⟩:=hp _ _ _ _ _ _ _ _ _ k1;have hr:=g1 w (λr _=>⟨λ_ _=>rfl,λ_ _=>rfl⟩);simp only[wpStill,BS k1 h2,BU,Oper.still,hr,Oper.stillUpon_value];rw[h3];refine h _ _ _ _ _ _ _ _ (k1.put h4 g2 (Kr k1 g3 _)) ?_ ?_
 ·rw[Bg (by simp),k2]
 rw[Bg (by simp),k3]
theorem xE {ts:List Nat} (i:Nat) (hp:fC P E (oA ops i) s) (h:KW P N ops ts (i::dn) (E.put (oA ops i).dst s) Q) (hk:(PB P ops E i&&EW N (oA ops i)&&bH ops ts dn i)=true:=by kernel_rfl):KW P N ops ts dn E Q:=by
 simp only[Ai,bH]at hk;obtain⟨⟨h1,h2⟩,h3,h4⟩:=hk;obtain⟨h5,h6⟩:=Hd h1;obtain⟨d,h7,_,h8⟩:=DS h2;unfold KW at h⊢;rw[Rl (i:=i) h3];rw[h7]at h;intro hQ hc w0 FA UA w a blk FS US k1 k2 k3;obtain⟨e1,e2,e3,e4,e5⟩:=Rz h4;obtain⟨v,U,g1,g2,g3⟩:=hp _ _ _ _ _ _ _ _ _ k1;refine JT (v:=v) (n:=ops.size) (H0 h5) (Region.noSelect_spec e1) (λc a w hx=>?_) e4 e5 _ _ a w hc (Region.free_spec (H0 h5) e2) e3 (.inl ⟨BS k1 h6,λw2 e=>?_⟩) ?_
 ·obtain⟨E',blk',FS',US',m1,_⟩:=hx;exact(hQ c E' m1).elim
 ·exact g1 w2 (λr hr=>⟨λb hb=>e.2 b (k1.inF r b hb).2,λb hb=>e.2 b (k1.inU r b hb).2⟩)
 rw[h7];refine h hQ (II hc e3) _ _ _ _ _ _ _ _ (k1.put h8 g2 (Kr k1 g3 _)) ?_ ?_
 ·rw[Bg (by simp),k2]
 rw[Bg (by simp),k3]
abbrev pb (n:Nat):SV:= .one (.ptr (.box n) 0 [] 0)
abbrev px (n:Nat):SV:= .one (.ptr (.ext n) 0 [] 0)
abbrev i6 (n:Int):TV:= .int .i64 n
abbrev tb (b:Bool):TV:= .bool b
abbrev ts (s:ByteArray):TV:= .str s
abbrev rg (n:Nat):List AV:=List.replicate n .gone
theorem jr {w:β} {f:V->Option β} {a:V⊕β} (h:some (.inr w)=some a) (hk:Sum.elim f some a=some r):some w=some r:=by
 injection h with h
 subst h;exact hk
theorem jo {w:β} {f:V->Option β} {o:S⊕(V⊕β)} (h:some (.inr (.inr w))=some o) (hk:∀w,o= .inr (.inr w)->Sum.elim f some (.inr w)=some r):some w=some r:=by
 injection h with h
 exact hk w h.symm
theorem rr {v r:β} (h:some v=some r):v=r:=Option.some.inj h
theorem rq {e:Exit} {rs:List ResultVar} {a:SV} (he:e= .normal\/e= .ret:=by first|exact .inr rfl|exact .inl rfl) (hk:(Dg P E rs).map (λz=>D6 z.1)=some a:=by kernel_rfl):(e= .normal\/e= .ret)/\∃ss E',Dg P E rs=some (ss,E')/\D6 ss=a:=⟨he,wV hk⟩
theorem rx {e:Exit} {rs:List ResultVar} {b:SV} {a:List TV} (he:e= .normal\/e= .ret:=by first|exact .inr rfl|exact .inl rfl) (hk:(Dg P E rs).map (λz=>(D6 z.1,z.2.boxes (.ext 0)))=some (b,some a):=by kernel_rfl):(e= .normal\/e= .ret)/\∃ss E',Dg P E rs=some (ss,E')/\D6 ss=b/\E'.boxes (.ext 0)=some a:=⟨he,wW hk⟩
section
variable {id:Nat}
theorem ws (h:RW P N ops 0 E (HF (λE'=>Wp P N y E' Q) Q)):Wp P N (.seq (.region id ops false) y) E Q:=Wp.seq (rD h)
end
theorem Cp (hf:∀x,(f x).length=sz) (h:(gi l n).bind kk=some r) (hk:∀x,gi l n=some x->kk x=some r->RW P N ops (i+1) (E.put (oA ops i).dst (mW E (oA ops i) (n.toNat*sz+0))) Q) (hc:mX P E (oA ops i) sz=some (AB f l,n):=by kernel_rfl) (hq:lT P N ops i E=true:=by kernel_rfl):RW P N ops i E Q:=
 bd h λx gx h=>s5 (FW hf gx hc) (hk x gx h) hq
def fN (P:Program) (N:Nat) (ops:Array Oper) (ts dn:List Nat) (E:St) (i:Nat):Option St:=bif Nat.blt i ops.size&&EW N (oA ops i)&&bH ops ts dn i then
 (match Bp P ops E (oA ops i)with
 |some false=>some (E.put (oA ops i).dst (.tup []))
 |some true=>match Hy P E (oA ops i)with
  |some s=>some (E.put (oA ops i).dst s)
  |none=>tE N E (oA ops i)
 |none=>none)else none
theorem wS {ts:List Nat} (hs:fN P N ops ts dn E i=some E') (h:KW P N ops ts (i::dn) E' Q):KW P N ops ts dn E Q:=by
 unfold fN at hs
 cases hb:(Nat.blt i ops.size&&EW N (oA ops i)&&bH ops ts dn i)with
 |false=>rw[hb]at hs;cases hs
 |true=>
  rw[hb]at hs;simp only[Af]at hs;split at hs
  ·rename_i hg
   injection hs with hs
   subst hs;exact uX i h hg hb
  ·rename_i hg;simp only[Ai]at hb;have ho:PB P ops E i=true:=by simp only[PB,hb.1.1,hg,Gs]
   split at hs
   ·rename_i s a
    injection hs with hs
    subst hs;exact tD i a h (by rw[ho,hb.1.2,hb.2];rfl)
   exact RA i (by rw[hs];exact h) (by rw[hs];rfl) (by rw[ho,hb.2];rfl)
  cases hs
def hZ (P:Program) (N:Nat) (ops:Array Oper) (ts dn:List Nat) (E:St):List Nat->Option (Nat×St)
 |[]=>none
 |i::l=>match fN P N ops ts dn E i with
  |some E'=>some (i,E')
  |none=>hZ P N ops ts dn E l
theorem aG {ts:List Nat}:∀{l:List Nat} {E':St},hZ P N ops ts dn E l=some (i,E')->fN P N ops ts dn E i=some E'
 |[],_,h=>by cases h
 |j::l,E',h=>by
  simp only[hZ]at h;split at h
  ·rename_i E1 h1
   injection h with h
   injection h with h2 h3
   subst h2 h3;exact h1
  exact aG h
def rB (P:Program) (N:Nat) (ops:Array Oper) (ts:List Nat) (mv:List Nat) (E:St) (i:Nat):Option St:=bif PB P ops E i&&(kp (oA ops i)||ts.contains i)then Cc P N (mv.contains i) E (oA ops i)else none
def qG (f:A->Option (List St)):List A->Option (List St)
 |[]=>some []
 |x::l=>match f x,qG f l with
  |some a,some b=>some (a++b)
  |_,_=>none
theorem aU {f:A->Option (List St)}:∀{l:List A} {L:List St},qG f l=some L->∀x∈l,∃a,f x=some a/\∀E∈a,E∈L
 |[],_,_,x,hx=>by cases hx
 |y::l,L,h,x,hx=>by
  simp only[qG]at h;split at h
  ·rename_i a b h1 h2
   injection h with h
   subst h
   rcases B6.1 hx with rfl|hx
   ·exact⟨a,h1,λE hE=>Ax _ hE⟩
   obtain⟨a',h3,h4⟩:=aU h2 x hx;exact⟨a',h3,λE hE=>A8 _ (h4 E hE)⟩
  cases h
def i8 (P:Program) (N:Nat) (ops:Array Oper) (ts mv:List Nat):Nat->List Nat->St->Option (List St)
 |0,_,_=>none
 |n+1,dn,E=>match Region.ready .any ops (sC ops.size dn)with
  |[]=>some [E]
  |rs=>bif Nat.blt dn.length ops.size then(match hZ P N ops ts dn E rs with
   |some (i,E')=>i8 P N ops ts mv n (i::dn) E'
   |none=>qG (λi=>match rB P N ops ts mv E i with
    |some E'=>i8 P N ops ts mv n (i::dn) E'
    |none=>none) rs)else none
theorem fD {ts:List Nat} {mv:List Nat}:∀{n:Nat} {dn:List Nat} {E:St} {L:List St},i8 P N ops ts mv n dn E=some L->(∀E'∈L,Q .normal E')->KW P N ops ts dn E Q
 |0,_,_,_,h,_=>by cases h
 |n+1,dn,E,L,h,hq=>by
  simp only[i8]at h;split at h
  ·rename_i hr
   injection h with h
   subst h;exact Be (hq E (by simp)) (by rw[hr];rfl)
  rename_i b
  cases hb:Nat.blt dn.length ops.size with
  |false=>rw[hb]at h;cases h
  |true=>
   rw[hb]at h;simp only[Af]at h;split at h
   ·rename_i i E' hf;exact wS (aG hf) (fD h hq)
   refine KW.all _ (λi hi=>?_) b (by simp only[oG,hb,Bool.and_true,beq_self_eq_true]);obtain⟨a,h1,h2⟩:=aU h i hi;split at h1
   ·rename_i E' hs;unfold rB at hs
    cases hc:(PB P ops E i&&(kp (oA ops i)||ts.contains i))with
    |false=>rw[hc]at hs;cases hs
    |true=>
     rw[hc]at hs;exact IL hs (fD h1 λE'' hE=>hq E'' (h2 E'' hE)) hc
   cases h1
def mF (P:Program) (N:Nat) (ops:Array Oper) (ts mv dn:List Nat) (E:St):List St:=(i8 P N ops ts mv (ops.size+1) dn E).getD []
theorem nP {X:Prop} {c:List PanicEntry} (h:(Exit.panic c= .normal\/Exit.panic c= .ret)/\X):False:=by rcases h with⟨h|h,_⟩<;>cases h
section
variable {w0:Base} {a:Act}
theorem Cu.resay (h:Cu w0 FA UA N w a E blk FS US) (hd:d<N) (hs:DD w a E blk s (a.eval (.tmp d)) [] []):∃FS' US',Cu w0 FA UA N w a (E.put (some d) s) blk FS' US'/\FS' .hand=FS .hand/\US' .hand=US .hand:=by
 have k:=h.put (F:=[]) (U:=[]) hd hs VW.none;have e:a.put (some d) (a.eval (.tmp d))=a:=by
  cases a with
  |mk tmps defers=>
   have hl:d<tmps.size:=AJ hd h.len;simp only[Act.put,Act.eval];congr 1;apply Array.ext (by simp);intro i h1 h2;rw[Array.getElem_setIfInBounds];split
   ·rename_i e;subst e;simp[hl]
   rfl
 rw[e]at k;exact⟨_,_,k,Bg (by simp),Bg (by simp)⟩
end
theorem Cu.toAdr {w0:Base} {a:Act} {b:Nat} (h:Cu w0 FA UA N w a E blk FS US) (hd:d<N) (hs:E.ptr? (.tmp d)=some (.ext 0,[],0)) (hp:E.amb.pin=some b):∃FS' US',Cu w0 FA UA N w a (E.put (some d) (.one (.adr ⟨b,0,none⟩))) blk FS' US'/\FS' .hand=FS .hand/\US' .hand=US .hand:=by
 obtain⟨_,ad,h1,h2⟩:=IU h hs;refine h.resay hd ?_;rw[h2];have e:=h.xblk 0;rw[h.pin b hp]at e;simp only[pa,e,Addr.add]at h1
 injection h1 with h1
 subst h1;refine⟨?_,λ_=>rfl⟩;show Cd w (.adr ⟨b,0,none⟩) _ [] [];simp[Cd]
section
variable {w0:Base} {a:Act}
theorem Cu.toPtr {b:Nat} (h:Cu w0 FA UA N w a E blk FS US) (hd:d<N) (hs:E.slots d= .one (.adr ⟨b,0,none⟩)) (hp:E.amb.pin=some b) {f:List TV} (hb:E.boxes (.ext 0)=some f) (g:f.isEmpty=false):
  ∃FS' US',Cu w0 FA UA N w a (E.put (some d) (.one (.ptr (.ext 0) (E.gen (.ext 0)) [] 0))) blk FS' US'/\FS' .hand=FS .hand/\US' .hand=US .hand:=by
 have hv:a.eval (.tmp d)= .pointer (some ⟨b,0,none⟩):=by
  have:=h.slot d;rw[hs]at this;simp only[DD,C1,Cd]at this;exact this.1.1
 refine h.resay hd ?_;have e:=h.xblk 0;rw[h.pin b hp]at e;refine⟨⟨rfl,rfl,A5 _,λ_=>⟨?_,⟨b,0,none⟩,?_,hv⟩⟩,λ_=>by rw[hv];rfl⟩
 ·cases f with
  |nil=>cases g
  |cons c cs=>simp[St.place,St.root,hb,BN]
 simp[pa,e,Addr.add]
end
def wX (E:St) (d b:Nat):St:=E.put (some d) (.one (.adr ⟨b,0,none⟩))
def rZ (N:Nat) (E:St) (d:Nat):Bool:=Nat.blt d N&&(match E.ptr? (.tmp d)with
 |some (.ext 0,[],0)=>true
 |_=>false)
theorem o4 (h:rZ N E d=true):d<N/\E.ptr? (.tmp d)=some (.ext 0,[],0):=by
 simp only[rZ,Ai]at h;refine⟨by simpa[Bi]using h.1,?_⟩;have h2:=h.2;split at h2
 ·assumption
 cases h2
theorem uU {b:Nat} (d:Nat) (h:RW P N ops i (wX E d b) Q) (hp:E.amb.pin=some b:=by kernel_rfl) (ho:rZ N E d=true:=by kernel_rfl):RW P N ops i E Q:=by
 intro w0 FA UA w a blk FS US hr hF hU;obtain⟨h1,h2⟩:=o4 ho;obtain⟨FS',US',k1,k2,k3⟩:=hr.toAdr h1 h2 hp;exact h _ _ _ _ _ _ _ _ k1 (by rw[k2,hF]) (by rw[k3,hU])
def wJ (E:St) (d:Nat):St:=E.put (some d) (.one (.ptr (.ext 0) (E.gen (.ext 0)) [] 0))
def pF (N:Nat) (E:St) (d:Nat):Bool:=Nat.blt d N&&(match E.boxes (.ext 0)with
 |some cells=>!cells.isEmpty
 |none=>false)
theorem gV (h:pF N E d=true):d<N/\∃a,E.boxes (.ext 0)=some a/\a.isEmpty=false:=by
 simp only[pF,Ai]at h;refine⟨by simpa[Bi]using h.1,?_⟩;have h2:=h.2;split at h2
 ·rename_i a hc;exact⟨a,hc,by simpa using h2⟩
 cases h2
theorem bB {b:Nat} (d:Nat) (h:RW P N ops i (wJ E d) Q) (hp:E.amb.pin=some b:=by kernel_rfl) (hs:E.slots d= .one (.adr ⟨b,0,none⟩):=by kernel_rfl) (ho:pF N E d=true:=by kernel_rfl):RW P N ops i E Q:=by
 intro w0 FA UA w a blk FS US hr hF hU;obtain⟨h1,c,h2,h3⟩:=gV ho;obtain⟨FS',US',k1,k2,k3⟩:=hr.toPtr h1 hs hp h2 h3;exact h _ _ _ _ _ _ _ _ k1 (by rw[k2,hF]) (by rw[k3,hU])
theorem iH {ts:List Nat} {b:Nat} (d:Nat) (h:KW P N ops ts dn (wJ E d) Q) (hp:E.amb.pin=some b:=by kernel_rfl) (hs:E.slots d= .one (.adr ⟨b,0,none⟩):=by kernel_rfl) (ho:pF N E d=true:=by kernel_rfl):KW P N ops ts dn E Q:=by
 intro hq hc w0 FA UA w a blk FS US hr hF hU;obtain⟨h1,c,h2,h3⟩:=gV ho;obtain⟨FS',US',k1,k2,k3⟩:=hr.toPtr h1 hs hp h2 h3;exact h hq hc _ _ _ _ _ _ _ _ k1 (by rw[k2,hF]) (by rw[k3,hU])
structure Su (n c b g cap:Nat) (e T T':TypeId) (sz:Nat) (rest:List Value) (enc:γ->List TV) (w:World) (l:List γ):Prop where
 ne:b≠g/\c≠g/\c≠b
 len:l.length=n
 ptr:w.heap[c]?=some (.cells #[.pointer (some ⟨b,0,none⟩)] T' (0,0))
 box:w.heap[b]?=some (.cells (.slice (some ⟨g,0,none⟩) n cap::rest).toArray T (0,0))
 row:∃cur,w.heap[g]?=some (.cells cur e (0,0))/\cur.size=cap*sz/\cur.toList.take (l.length*sz)=(AB enc l).map TV.val
 le:l.length<=cap/\cap<=maxLen
theorem f7 {l:List γ} {k:Nat} {n c b g cap:Nat} {e T T':TypeId} {rest:List Value} {enc:γ->List TV} (h:Su n c b g cap e T T' sz rest enc w l) (hk:k<l.length*sz):w.cell? ⟨g,k,none⟩=((AB enc l).map TV.val)[k]? :=by
 obtain⟨a,h1,h2,h3⟩:=h.row;rw[<-h3,B9,Ar hk];simp[World.cell?,h1]
def Gn (n c b g cap:Nat) (e T T':TypeId) (sz:Nat) (rest:List Value) (enc:γ->List TV) (l:List γ):Nz where
 B:=[c,b,g]
 I:=λw=>Su n c b g cap e T T' sz rest enc w l
 st:=λw w' h hk=>⟨h.ne,h.len,by rw[hk c (by simp)];exact h.ptr,by rw[hk b (by simp)];exact h.box,by rw[hk g (by simp)];exact h.row,h.le⟩
 rd:=λad=>if ad.spot.isSome=true then none else if ad.block=c then(if ad.off=0 then some (.pointer (some ⟨b,0,none⟩))else none)else if ad.block=b then(if ad.off=0 then some (.slice (some ⟨g,0,none⟩) n cap)else none)else if ad.block=g then(if ad.off<l.length*sz then((AB enc l).map TV.val)[ad.off]? else none)else none
 rdI:=λw ad v h hr=>by
  obtain⟨bl,off,spot⟩:=ad
  cases spot with
  |some s=>simp at hr
  |none=>
   simp only[Hv,CN,Iu]at hr;split at hr
   ·rename_i hb;subst hb;split at hr
    ·rename_i ho;subst ho
     injection hr with hr
     subst hr;simp[World.cell?,h.ptr]
    cases hr
   split at hr
   ·rename_i hb;subst hb;split at hr
    ·rename_i ho;subst ho
     injection hr with hr
     subst hr;simp[World.cell?,h.box]
    cases hr
   split at hr
   ·rename_i hg;subst hg;split at hr
    ·rename_i ho;rw[f7 h ho];exact hr
    cases hr
   cases hr
theorem Zl {ie:TypeInfo} {c b g cap:Nat} {e T T':TypeId} {rest:List Value} {enc:γ->List TV} (h:∀x,(enc x).length=sz) (n:Nat) (gS:Bool) (hx:∀args W,(callFunc sf args).run P W=((Extern.ReflectliteSwapper.swap gS args).run P W).andThen λv w'=> .ok (.value v) w') (a3:P.info? e=some ie) (o:ie.size=sz) (h7:∀w,(isAgg e).run P w= .ok true w):
  JM P (Gn n c b g cap e T T' sz rest enc) sf #[.slice (some ⟨g,0,none⟩) n cap,typeHandle P e]:=by
 intro l i j x y hi hj w hI hB;obtain⟨⟨u,h0,h8⟩,hn,p,q,h9,h3⟩:=hI;have a4:b<w.heap.size:=hB b (by simp[Gn]);have a5:c<w.heap.size:=hB c (by simp[Gn]);have b3:g<w.heap.size:=hB g (by simp[Gn]);obtain⟨f,hg,h4,a0⟩:=h9;obtain⟨i0,i1⟩:=GI hi;obtain⟨j0,j1⟩:=GI hj;obtain⟨a,rfl⟩:=Co i0;obtain⟨d,rfl⟩:=Co j0;simp only[AZ]at i1 j1;have la:=(Ag.1 i1).1;have lc:=(Ag.1 j1).1;have hX:((enc x).map TV.val).length=sz:=by rw[AQ];exact h x
 have hY:((enc y).map TV.val).length=sz:=by rw[AQ];exact h y
 have r:l.length*sz<=f.size:=by rw[h4];exact B4 _ h3.1
 have a6:(a+1)*sz<=l.length*sz:=B4 _ la;have a7:(d+1)*sz<=l.length*sz:=B4 _ lc;rw[Df]at a6 a7;have hI:Su n c b g cap e T T' sz rest enc w l:=⟨⟨u,h0,h8⟩,hn,p,q,⟨f,hg,h4,a0⟩,h3⟩;have cell:∀(m:Nat) (z:γ),l[m]?=some z->∀k v,((enc z).map TV.val)[k]?=some v->w.cell? ⟨g,0+m*ie.size+k,none⟩=some v:=by
  intro m z hm k v hk;have a1:=(Ag.1 hk).1;rw[AQ,h]at a1;have lm:=(Ag.1 hm).1;have a8:(m+1)*sz<=l.length*sz:=B4 _ lm;rw[Df]at a8;rw[o,Gk,f7 hI (by omega)];have e1:(AB enc l)[m*sz+k]?=(enc z)[k]? :=by
   have h2:(AB enc l)[m*sz+k]?=((AB enc l).drop (m*sz))[k]? :=by rw[BJ]
   rw[h2,HO h l m,BP lm,MV];have e4:l[m]=z:=by rw[Ad lm]at hm;injection hm
   rw[e4,AS (by rw[h];exact a1)]
  rw[AF,e1,<-AF,hk]
 have frz:∀(m k:Nat),w.frozen? ⟨g,0+m*ie.size+k,none⟩=false:=by
  intro m k;simp[World.frozen?,hg]
 have s:=Go.Lib.run_swap_cells (P:=P) gS e ie a3 h7 g 0 n cap a d (by omega) (by omega) ((enc x).map TV.val) ((enc y).map TV.val) (by rw[hX,o]) (by rw[hY,o]) (λv hv=>by obtain⟨t,_,rfl⟩:=AG.1 hv;exact Tq) (λv hv=>by obtain⟨t,_,rfl⟩:=AG.1 hv;exact Tq) w (cell a x i1) (cell d y j1) (λk _=>frz a k) (λk _=>frz d k);simp only[Gk,o]at s;have h1:=Ht e (0,0) g ((enc y).map TV.val) (a*sz) f w hg (by rw[hY];omega);have a9:(setRow f.toList (a*sz) ((enc y).map TV.val)).toArray.size=f.size:=by
  rw[KZ,Dj (by rw[hY];simp;omega)];simp
 have h2:=Ht e (0,0) g ((enc x).map TV.val) (d*sz) _ _ h1 (by rw[a9,hX];omega);have kB:∀k,k<w.heap.size->k≠g->((w.setCells g (a*sz) ((enc y).map TV.val)).setCells g (d*sz) ((enc x).map TV.val)).heap[k]?=w.heap[k]? :=by
  intro k hk a2;have s1:(w.setCells g (a*sz) ((enc y).map TV.val)).heap.size=w.heap.size:=EN g _ _ _;rw[World.heap_setCells_other _ g _ _ (by rw[s1];exact hk) a2,World.heap_setCells_other _ g _ _ hk a2]
 refine⟨(w.setCells g (a*sz) ((enc y).map TV.val)).setCells g (d*sz) ((enc x).map TV.val),?_,⟨?_,?_,?_,?_,?_⟩,?_⟩
 ·rw[hx];have ea:(#[Value.int .i64 (a:Int),Value.int .i64 (d:Int)]++ #[Value.slice (some ⟨g,0,none⟩) n cap,typeHandle P e])= #[.int .i64 (a:Int),.int .i64 (d:Int),.slice (some ⟨g,0,none⟩) n cap,typeHandle P e]:=rfl;rw[ea,s];rfl
 ·rw[World.os_setCells,World.os_setCells]
 ·rw[Hg,Hg]
 ·rw[World.output_setCells,World.output_setCells]
 ·rw[EN,EN];exact A5 _
 ·intro k hk b0;exact kB k hk (λe=>b0 (by rw[e];simp[Gn]))
 have h5:(si (si l (a:Int) y) (d:Int) x).length=l.length:=by simp[si]
 have lcur:f.toList.length=f.size:=by simp
 have h6:(setRow f.toList (a*sz) ((enc y).map TV.val)).length=f.size:=by rw[Dj (by rw[hY,lcur];omega),lcur]
 have b1:(setRow (setRow f.toList (a*sz) ((enc y).map TV.val)) (d*sz) ((enc x).map TV.val)).length=f.size:=by rw[Dj (by rw[hX,h6];omega),h6]
 show Su n c b g cap e T T' sz rest enc _ (si (si l (a:Int) y) (d:Int) x);refine⟨⟨u,h0,h8⟩,h5.trans hn,by rw[kB c a5 h0];exact p,by rw[kB b a4 u];exact q,⟨_,h2,?_,?_⟩,by rw[h5];exact h3⟩
 ·rw[KZ];exact b1.trans h4
 rw[h5];show(setRow (setRow f.toList (a*sz) ((enc y).map TV.val)) (d*sz) ((enc x).map TV.val)).take (l.length*sz)=_;rw[Jj (by rw[hX];omega) (by rw[h6];exact r),Jj (by rw[hY];omega) (by rw[lcur];exact r),a0,<-MD,<-MD];have e1:setRow (AB enc l) (a*sz) (enc y)=AB enc (si l (a:Int) y):=by
  have:=OH h (z:=y) hi
  rwa [AZ]at this
 obtain⟨z0,b2⟩:∃z0,gi (si l (a:Int) y) (d:Int)=some z0:=by
  have lc2:d<(si l (a:Int) y).length:=by simp only[si,EL];exact lc
  refine⟨(si l (a:Int) y)[d],?_⟩;unfold gi;rw[Ar (by omega),AZ];exact Ad lc2
 have e2:=OH h (z:=x) b2;rw[AZ]at e2;rw[e1,e2]
theorem gH {l:List γ} {n c b g cap:Nat} {e T T':TypeId} {rest:List Value} {enc:γ->List TV}:(Gn n c b g cap e T T' sz rest enc l).rd ⟨c,0,none⟩=some (.pointer (some ⟨b,0,none⟩)):=by
 simp[Gn]
theorem gI {l:List γ} {n c b g cap:Nat} {e T T':TypeId} {rest:List Value} {enc:γ->List TV} (h:c≠b):(Gn n c b g cap e T T' sz rest enc l).rd ⟨b,0,none⟩=some (.slice (some ⟨g,0,none⟩) n cap):=by
 simp[Gn,h.symm]
theorem gG {l:List γ} {i:Int} {k:Nat} {n c b g cap:Nat} {e T T':TypeId} {rest:List Value} {enc:γ->List TV} (a:∀x,(enc x).length=sz) {x:γ} {t:TV} {ad:Addr} (hi:gi l i=some x) (hk:(enc x)[k]?=some t) (hb:b≠g) (hc:c≠g) (f:ad=⟨g,i.toNat*sz+k,none⟩):(Gn n c b g cap e T T' sz rest enc l).rd ad=some t.val:=by
 subst f;obtain⟨i0,i1⟩:=GI hi;have lm:=(Ag.1 i1).1;have d:=(Ag.1 hk).1;rw[a]at d;have h:(i.toNat+1)*sz<=l.length*sz:=B4 _ lm;rw[Df]at h;have e1:(AB enc l)[i.toNat*sz+k]?=(enc x)[k]? :=by
  have h2:(AB enc l)[i.toNat*sz+k]?=((AB enc l).drop (i.toNat*sz))[k]? :=by rw[BJ]
  rw[h2,HO a l i.toNat,BP lm,MV];have e4:l[i.toNat]=x:=by rw[Ad lm]at i1;injection i1
  rw[e4,AS (by rw[a];exact d)]
 simp only[Gn,Hv,CN,Iu];rw[Au (λe=>hc e.symm),Au (λe=>hb e.symm),BU,Ar (by omega),AF,e1,hk];rfl
theorem n8 {o:Oper} (d:Nat) {ad:Addr} {x:Nat} (hk:Fx P N ops rest (E.put (some d) (.one (.adr ad))) K) (hs:E.slots x= .one (.adr ad)) (ho:o.op= .nilCheck (.tmp x):=by rfl) (hd:o.dst=some d:=by rfl) (hN:Nat.blt d N=true:=by rfl) (hg:Bp P ops E o=some true:=by rfl):Fx P N ops (o::rest) E K:=
 Fx.any d (.adr ad) hk (λw0 FA UA w a blk FS US h=>by
  have h1:=Y3 h hs;refine⟨.pointer (some ad),?_,by simp[Cd],rfl⟩
  simp[execOp,ho,h1,Instr.sureAddr]) hd hN hg
def Ql (o:Oper):Nat:=o.dst.getD 0
def vB (E:St) (ops:Array Oper) (i:Nat) (r:Root) (t:TV):St:=(((((E.put (some (Ql (oA ops i))) (.one .junk)).put (some (Ql (oA ops (i+1)))) (.one .junk)).setRoot r [t]).bump r).put (some (Ql (oA ops (i+2)))) (.tup []))
def rH:Operand->Nat
 | .tmp n=>n
 |_=>0
def Zp (o:Oper):Nat:=match o.op with
 | .makeInterface _ x=>rH x
 |_=>0
def Xm (o:Oper):Nat:=match o.op with
 | .makeFunc _ _ c=>rH (c[0]?.getD (.tmp 0))
 |_=>0
def rL (o:Oper):Array TypeId:=match o.op with
 | .call c=>c.argTypes
 |_=> #[]
def Wc (s:SV):Nat:=match s with
 | .one (.view _ v _ _)=>v
 |_=>0
theorem RW.srt {rr:β} {l:List γ} {kk:List γ->Option β} {x:Option (List γ)} (h:x.bind kk=some rr) {enc:γ->List TV} {sz e t:Nat} {a:FuncId} (r:Root) (hs:∀l',x=some l'->TB P (Pu (oA ops (i+2))) t e sz enc a l l') (hk:∀l',x=some l'->kk l'=some rr->RW P N ops (i+3) (vB E ops i r (.sl true e sz (AB enc l'))) Q) (b:∀x,(enc x).length=sz) (d:∀x,(enc x).all TV.flat=true) (hx:E.slots (Zp (oA ops i))= .one (.view r (Wc (E.slots (Zp (oA ops i)))) [] 0):=by kernel_rfl) (c:E.ver r=Wc (E.slots (Zp (oA ops i))):=by kernel_rfl) (hp:E.ptr? (.tmp (Xm (oA ops (i+1))))=some (r,[],0):=by kernel_rfl) (hc:E.boxes r=some [.sl true e sz (AB enc l)]:=by kernel_rfl) (hm:r.mem=true:=by kernel_rfl) (h1:(oA ops i).op= .makeInterface t (.tmp (Zp (oA ops i))):=by kernel_rfl) (h2:(oA ops (i+1)).op= .makeFunc (.func a) #[] #[.tmp (Xm (oA ops (i+1)))]:=by kernel_rfl) (h3:(oA ops (i+2)).op= .call {callee:= .value (.func (Pu (oA ops (i+2)))),args:= #[.tmp (Ql (oA ops i)),.tmp (Ql (oA ops (i+1)))],argTypes:=rL (oA ops (i+2))}:=by kernel_rfl) (k1:(oA ops i).dst=some (Ql (oA ops i)):=by kernel_rfl) (k2:(oA ops (i+1)).dst=some (Ql (oA ops (i+1))):=by kernel_rfl) (k3:(oA ops (i+2)).dst=some (Ql (oA ops (i+2))):=by kernel_rfl) (g1:(oA ops i).guard=none:=by kernel_rfl) (g2:(oA ops (i+1)).guard=none:=by kernel_rfl) (g3:(oA ops (i+2)).guard=none:=by kernel_rfl) (hN:(Nat.blt (Ql (oA ops i)) N&&Nat.blt (Ql (oA ops (i+1))) N&&Nat.blt (Ql (oA ops (i+2))) N&&!Nat.beq (Ql (oA ops i)) (Ql (oA ops (i+1)))&&!Nat.beq (Xm (oA ops (i+1))) (Ql (oA ops i))&&Nat.blt 0 sz&&Nat.blt (i+2) ops.size)=true:=by kernel_rfl) (ht:P.underlying t=some (.slice e):=by kernel_rfl) (hf:Ti P N (oA ops (i+2))=true:=by kernel_rfl):RW P N ops i E Q:=by
 obtain⟨l',hl',h⟩:=Ao.1 h;simp only[Ai,CH]at hN;obtain⟨⟨⟨⟨⟨⟨q1,q2⟩,q3⟩,q4⟩,q5⟩,q6⟩,q7⟩:=hN;have b2:Nat.blt (i+1) ops.size=true:=by rw[Bi]at q7⊢;omega
 have b1:Nat.blt i ops.size=true:=by rw[Bi]at q7⊢;omega
 have hk':=hk l' hl' h;unfold RW at hk'⊢;rw[FT b1,FT b2,FT q7];exact EY.srt (hs l' hl') hk' b d hx c hp hc hm h1 h2 h3 k1 k2 k3 g1 g2 g3 q1 q2 q3 q4 q5 q6 ht (Pj hf).choose_spec.choose_spec.2.1
def Y2 (o:Oper):Nat:=match o.op with
 | .call c=>match c.args.toList with
  |[x]=>rH x
  |_=>0
 |_=>0
def Zd (s:SV):Nat:=match s with
 | .one (.view (.slot n) _ _ _)=>n
 |_=>0
def R7 (P:Program) (f:FuncId) (t e sz:Nat) (enc:γ->List TV) (g:FuncId) (l l':List γ):Prop:=∀(w:World) (c b:Nat) (v:Value) (rest:List Value) (T T':TypeId),w.heap[c]?=some (.cells #[.pointer (some ⟨b,0,none⟩)] T' (0,0))->w.heap[b]?=some (.cells (v::rest).toArray T (0,0))->w.ownsRow 0 e sz v l.length ((AB enc l).map TV.val)->b∉BH v->c∉BH v->c≠b->
  Calls P f #[.iface t v,.func (.func g) #[] #[.pointer (some ⟨c,0,none⟩)]] w λr w'=>r= .returned (.tuple #[])/\Fv w w' (c::b::BH v)/\w'.heap[c]?=w.heap[c]? /\w'.heap[b]?=w.heap[b]? /\w'.ownsRow 0 e sz v l'.length ((AB enc l').map TV.val)
def mV (c b:Nat) (v:Value) (rest:List Value) (T T':TypeId) (e sz n:Nat) (xs:List Value):Nz where
 B:=c::b::BH v
 I:=λw=>w.heap[c]?=some (.cells #[.pointer (some ⟨b,0,none⟩)] T' (0,0))/\w.heap[b]?=some (.cells (v::rest).toArray T (0,0))/\w.ownsRow 0 e sz v n xs
 st:=λw w' h hk=>⟨by rw[hk c (by simp)];exact h.1,by rw[hk b (by simp)];exact h.2.1,h.2.2.1,by
  rcases h.2.2.2 with q|⟨g,cap,a,rfl,q1,q2,q3⟩
  ·exact .inl q
  exact .inr ⟨g,cap,a,rfl,q1,by rw[hk g (by simp[BH,Value.ownBlock])];exact q2,q3⟩⟩
theorem qJ {l:List γ} {rc:Root} {o1 o2 o3:Oper} {ver:Nat} {enc:γ->List TV} {sz e t:Nat} {f g:FuncId} {rs:List TV} {d1 d2 d3 x p b0:Nat} {tys:Array TypeId} (hs:R7 P f t e sz enc g l l') (hk:EY P N ops rest (((((E.put (some d1) (.one .junk)).put (some d2) (.one .junk)).setRoot (.ext 0) (.sl true e sz (AB enc l')::rs)).bump (.ext 0)).put (some d3) (.tup [])) Q) (u:∀x,(enc x).length=sz) (j:∀x,(enc x).all TV.flat=true) (hpin:E.amb.pin=some b0) (hx:E.slots x= .one (.view (.ext 0) ver [] 0)) (y:E.ver (.ext 0)=ver) (hp:E.ptr? (.tmp p)=some (rc,[],0)) (hc:E.boxes (.ext 0)=some (.sl true e sz (AB enc l)::rs)) (c:E.boxes rc=some [.adr ⟨b0,0,none⟩]) (hm:rc.mem=true) (h1:o1.op= .makeInterface t (.tmp x)) (h2:o2.op= .makeFunc (.func g) #[] #[.tmp p]) (h3:o3.op= .call {callee:= .value (.func f),args:= #[.tmp d1,.tmp d2],argTypes:=tys}) (k1:o1.dst=some d1) (k2:o2.dst=some d2) (k3:o3.dst=some d3) (g1:o1.guard=none) (g2:o2.guard=none) (g3:o3.guard=none) (h9:Nat.blt d1 N=true) (a0:Nat.blt d2 N=true) (a1:Nat.blt d3 N=true) (a2:Nat.beq d1 d2=false) (z:Nat.beq p d1=false) (a3:Nat.blt 0 sz=true) (ht:P.underlying t=some (.slice e)) (hf:Yk P f):EY P N ops (o1::o2::o3::rest) E Q:=by
 have hN1':d1<N:=by simpa[Bi]using h9
 have hN2':d2<N:=by simpa[Bi]using a0
 have hN3':d3<N:=by simpa[Bi]using a1
 have hne':d1≠d2:=by intro e;subst e;simp at a2
 have hne2':p≠d1:=by intro e;subst e;simp at z
 have hsz':0<sz:=by simpa[Bi]using a3
 have a4:rc≠ .ext 0:=by
  rintro rfl;rw[hc]at c
  injection c with c
  injection c with c
  cases c
 intro w0 FA UA w a blk FS US hr hF hU;have h0:blk (.ext 0)=b0:=by rw[hr.xblk,hr.pin b0 hpin]
 obtain⟨v,vs,T,F2,U1,U2,b1,b2,b3,b4,b5⟩:∃v vs T F2 U1 U2,w.heap[blk (.ext 0)]?=some (.cells (v::vs).toArray T (0,0))/\(∃F1,Cd w (.sl true e sz (AB enc l)) v F1 U1/\FS (.ext 0)=blk (.ext 0)::(F1++F2))/\Bl w rs vs F2 U2/\US (.ext 0)=U1++U2/\True:=by
  rcases hr.box (.ext 0) rfl with⟨q1,_⟩|⟨cs,h,T,F,q1,q2,q3,q4⟩
  ·rw[hc]at q1;cases q1
  rw[hc]at q1
  injection q1 with q1
  subst q1;simp only[Bl]at q3;obtain⟨v,k,F1,F2,U1,U2,e1,rfl,e3,q5,q6⟩:=q3;have:h=(v::k).toArray:=by apply Pw;simpa using e1
  subst this;exact⟨v,k,T,F2,U1,U2,q2,⟨F1,q5,q4⟩,q6,e3,trivial⟩
 obtain⟨F1,b2,b6⟩:=b2;obtain⟨T',c1⟩:∃T',w.heap[blk rc]?=some (.cells #[.pointer (some ⟨b0,0,none⟩)] T' (0,0)):=by
  rcases hr.box rc hm with⟨q1,_⟩|⟨cs,h,T,F,q1,q2,q3,q4⟩
  ·rw[c]at q1;cases q1
  rw[c]at q1
  injection q1 with q1
  subst q1;simp only[Bl,Cd]at q3;obtain⟨v,k,F1,F2,U1,U2,e1,rfl,e3,⟨rfl,_⟩,rfl,_⟩:=q3;have:h= #[.pointer (some ⟨b0,0,none⟩)]:=by apply Pw;simpa using e1
  subst this;exact⟨T,q2⟩
 have a5:blk rc∈FS rc:=by
  rcases hr.box rc hm with⟨q1,_⟩|⟨cs,h,T,F,q1,q2,q3,q4⟩
  ·rw[c]at q1;cases q1
  rw[q4];simp
 simp only[Cd]at b2;obtain⟨n,xs,F',b7,b8,rfl⟩:=b2;have a6:=Rf b8 (E8 j l);obtain⟨rfl,rfl⟩:=IB b8 (E8 j l);subst a6;have a7:n=l.length:=by
  have q:=b7.1;rw[AQ,Em u l]at q;exact(Nat.eq_of_mul_eq_mul_right hsz' q).symm
 subst a7;rw[Aw]at b6;rw[AC]at b4;have h4:=hr.nodup (.ext 0);rw[b6]at h4
 have a8:blk (.ext 0)∉BH v:=λhx=>(CS.1 h4).1 (Ax _ hx)
 have h5:∀x∈FS (.ext 0),x≠blk rc:=λx hx e=>hr.dis _ _ a4 _ a5 (e▸hx)
 have a9:blk rc∉BH v:=λhx=>h5 (blk rc) (by rw[b6];exact CJ _ (Ax _ hx)) rfl
 have c0:blk rc≠blk (.ext 0):=λe=>h5 (blk (.ext 0)) (by rw[b6];simp) e.symm
 have evx:a.eval (.tmp x)=v:=by
  have q:=hr.slot x;rw[hx]at q;simp only[DD,C1]at q;obtain⟨⟨_,_,_,q4⟩,_⟩:=q;obtain⟨q5,_⟩:=q4 y;simpa[pv,B8,Addr.add,World.cell?,b1]using q5.symm
 have evp:a.eval (.tmp p)= .pointer (some ⟨blk rc,0,none⟩):=by
  obtain⟨_,ad,q1,q2⟩:=IU hr hp;rw[q2]
  cases rc with
  |slot n=>cases hm
  |hand=>cases hm
  |box n=>simp[pa,Addr.add]at q1;rw[<-q1]
  |ext n=>simp[pa,Addr.add]at q1;rw[<-q1]
 obtain⟨FS1,US1,r1,r2,r3⟩:=Rm hr hF hU hN1' (.iface t v);have e1:(execOp a.eval o1).run P w= .ok (.value (.iface t v)) w:=by
  simp[execOp,h1,Instr.makeInterface,run_underlying ht,evx]
 simp only[wpList,BS hr (H9 (P:=P) (ops:=ops) g1),BU];refine .inl ?_
 try unfold Oper.wp
 rw[e1,Oper.upon_value,k1];have evp1:(a.put (some d1) (.iface t v)).eval (.tmp p)= .pointer (some ⟨blk rc,0,none⟩):=by rw[CQ hne2',evp]
 obtain⟨FS2,US2,s1,s2,s3⟩:=Rm r1 r2 r3 hN2' (.func (.func g) #[] #[.pointer (some ⟨blk rc,0,none⟩)]);have e2:(execOp (a.put (some d1) (.iface t v)).eval o2).run P w= .ok (.value (.func (.func g) #[] #[.pointer (some ⟨blk rc,0,none⟩)])) w:=by
  simp[execOp,h2,Instr.makeFunc,evp1]
 simp only[wpList,BS r1 (H9 (P:=P) (ops:=ops) g2),BU];refine .inl ?_
 try unfold Oper.wp
 rw[e2,Oper.upon_value,k2];simp only[wpList,BS s1 (H9 (P:=P) (ops:=ops) g3),BU];refine .inl ?_;have c2:d1<a.tmps.size:=AJ hN1' hr.len;have d0:d2<(a.put (some d1) (.iface t v)).tmps.size:=AJ hN2' r1.len
 try unfold Oper.wp
 rw[HI h3 hf];have ea: #[Operand.tmp d1,.tmp d2].map ((a.put (some d1) (.iface t v)).put (some d2) (.func (.func g) #[] #[.pointer (some ⟨blk rc,0,none⟩)])).eval= #[.iface t v,.func (.func g) #[] #[.pointer (some ⟨blk rc,0,none⟩)]]:=by
  simp[EJ d0,CQ hne',EJ c2]
 rw[ea];simp only[Oper.upon];refine Calls.mono (hs w (blk rc) (blk (.ext 0)) v vs T T' (by rw[h0];exact c1) b1 b7 a8 a9 c0) ?_;rintro ee w' ⟨rfl,i,d4,h6,d5⟩;have o:((E.put (some d1) (.one .junk)).put (some d2) (.one .junk)).boxes (.ext 0)=some (.sl true e sz (AB enc l)::rs):=hc;obtain⟨G1,G2,V2,f1,f2,f3,f4⟩:∃G1 G2 V2,FS2 (.ext 0)=blk (.ext 0)::(G1++G2)/\G1=BH v/\US2 (.ext 0)=V2/\Bl w rs vs G2 V2:=by
  rcases s1.box (.ext 0) rfl with⟨q1,_⟩|⟨cs,h,T2,F2,q1,q2,q3,q4⟩
  ·rw[o]at q1;cases q1
  rw[o]at q1
  injection q1 with q1
  subst q1;rw[b1]at q2
  injection q2 with q2
  injection q2 with q2
  subst q2;simp only[Bl]at q3;obtain⟨v2,k,F3,F4,U1,U2,e1,rfl,e3,q5,q6⟩:=q3;simp at e1;obtain⟨rfl,rfl⟩:=e1;simp only[Cd]at q5;obtain⟨n,vs,F',c4,c5,rfl⟩:=q5;obtain⟨rfl,rfl⟩:=IB c5 (E8 j l);exact⟨_,_,_,q4,by simp,by rw[e3];rfl,q6⟩
 subst f2;have m:=s1.nodup (.ext 0);rw[f1]at m;have d6:blk rc∈FS2 rc:=by
  have h7:((E.put (some d1) (.one .junk)).put (some d2) (.one .junk)).boxes rc=some [.adr ⟨b0,0,none⟩]:=c
  rcases s1.box rc hm with⟨q1,_⟩|⟨cs,h,T,F,q1,q2,q3,q4⟩
  ·rw[h7]at q1;cases q1
  rw[q4];simp
 have keepb:∀b,b<w.heap.size->b∉BH v->w'.heap[b]?=w.heap[b]? :=by
  intro b hb hv;by_cases q1:b=blk rc
  ·rw[q1];exact d4
  by_cases q2:b=blk (.ext 0)
  ·rw[q2];exact h6
  exact i.keep b hb (by simp only[B6,not_or];exact⟨q1,q2,hv⟩)
 have h8:Fv w w' (FS2 (.ext 0)):=⟨i.os,i.tape,i.output,i.size,λb hb hn=>keepb b hb (λhv=>hn (by rw[f1];exact CJ _ (Ax _ hv)))⟩
 have hG:∀b∈G2,w'.heap[b]?=w.heap[b]? :=λb hb=>keepb b (s1.inF (.ext 0) b (by rw[f1];exact CJ _ (A8 _ hb))).2
  (λhv=>(AY.1 (CS.1 m).2).2.2 b hv b hb rfl)
 have hV:∀b∈V2,w'.heap[b]?=w.heap[b]? :=λb hb=>keepb b (s1.inU (.ext 0) b (by rw[f3];exact hb)).2
  (λhv=>s1.disU (.ext 0) (.ext 0) b (by rw[f1];exact CJ _ (Ax _ hv)) (by rw[f3];exact hb))
 obtain⟨FS3,US3,t1,t2,t3⟩:=s1.turn s2 s3 (r:= .ext 0) rfl o (cells':= .sl true e sz (AB enc l')::rs) (by simp) (w':=w') h8
  ⟨(
   v::vs).toArray,T,BH v++G2,by rw[h6];exact b1,by
   rw[f3];simp only[Bl];refine⟨v,vs,BH v,G2,[],V2,by simp,rfl,rfl,?_,E4 f4 hG hV⟩;simp only[Cd]
   exact⟨l'.length,_,[],d5,QE (E8 j l'),by simp⟩,f1⟩
 obtain⟨FS4,US4,u1,u2,u3⟩:=t1.land (w':=w') (d:=d3) (s:= .tup []) (v:= .tuple #[]) (F:=[]) (U:=[]) hN3' (by simp[DD,L3]) Ce (by simp) (by simp) (A5 _) rfl rfl rfl (λ_ _ _=>rfl);rw[k3];exact hk _ _ _ _ _ _ _ _ u1 u2 u3
def qO:Option (List TV)->List TV
 |some (_::ts)=>ts
 |_=>[]
def vF:Option (Root×List Nat×Nat)->Root
 |some (r,_,_)=>r
 |none=> .hand
def wU (E:St) (ops:Array Oper) (i:Nat) (t:TV):St:=(((((E.put (some (Ql (oA ops i))) (.one .junk)).put (some (Ql (oA ops (i+1)))) (.one .junk)).setRoot (.ext 0) (t::qO (E.boxes (.ext 0)))).bump (.ext 0)).put (some (Ql (oA ops (i+2)))) (.tup []))
theorem sZ {rr:β} {l:List γ} {kk:List γ->Option β} {x:Option (List γ)} (h:x.bind kk=some rr) {enc:γ->List TV} {sz e t b0:Nat} {a:FuncId} (hs:∀l',x=some l'->R7 P (Pu (oA ops (i+2))) t e sz enc a l l') (hk:∀l',x=some l'->kk l'=some rr->RW P N ops (i+3) (wU E ops i (.sl true e sz (AB enc l'))) Q) (b:∀x,(enc x).length=sz) (d:∀x,(enc x).all TV.flat=true) (hpin:E.amb.pin=some b0:=by kernel_rfl) (hx:E.slots (Zp (oA ops i))= .one (.view (.ext 0) (Wc (E.slots (Zp (oA ops i)))) [] 0):=by kernel_rfl) (c:E.ver (.ext 0)=Wc (E.slots (Zp (oA ops i))):=by kernel_rfl) (hp:E.ptr? (.tmp (Xm (oA ops (i+1))))=some (vF (E.ptr? (.tmp (Xm (oA ops (i+1))))),[],0):=by kernel_rfl) (hc:E.boxes (.ext 0)=some (.sl true e sz (AB enc l)::qO (E.boxes (.ext 0))):=by kernel_rfl) (f:E.boxes (vF (E.ptr? (.tmp (Xm (oA ops (i+1))))))=some [.adr ⟨b0,0,none⟩]:=by kernel_rfl) (hm:(vF (E.ptr? (.tmp (Xm (oA ops (i+1)))))).mem=true:=by kernel_rfl) (h1:(oA ops i).op= .makeInterface t (.tmp (Zp (oA ops i))):=by kernel_rfl) (h2:(oA ops (i+1)).op= .makeFunc (.func a) #[] #[.tmp (Xm (oA ops (i+1)))]:=by kernel_rfl) (h3:(oA ops (i+2)).op= .call {callee:= .value (.func (Pu (oA ops (i+2)))),args:= #[.tmp (Ql (oA ops i)),.tmp (Ql (oA ops (i+1)))],argTypes:=rL (oA ops (i+2))}:=by kernel_rfl) (k1:(oA ops i).dst=some (Ql (oA ops i)):=by kernel_rfl) (k2:(oA ops (i+1)).dst=some (Ql (oA ops (i+1))):=by kernel_rfl) (k3:(oA ops (i+2)).dst=some (Ql (oA ops (i+2))):=by kernel_rfl) (g1:(oA ops i).guard=none:=by kernel_rfl) (g2:(oA ops (i+1)).guard=none:=by kernel_rfl) (g3:(oA ops (i+2)).guard=none:=by kernel_rfl) (hN:(Nat.blt (Ql (oA ops i)) N&&Nat.blt (Ql (oA ops (i+1))) N&&Nat.blt (Ql (oA ops (i+2))) N&&!Nat.beq (Ql (oA ops i)) (Ql (oA ops (i+1)))&&!Nat.beq (Xm (oA ops (i+1))) (Ql (oA ops i))&&Nat.blt 0 sz&&Nat.blt (i+2) ops.size)=true:=by kernel_rfl) (ht:P.underlying t=some (.slice e):=by kernel_rfl) (hf:Ti P N (oA ops (i+2))=true:=by kernel_rfl):RW P N ops i E Q:=by
 obtain⟨l',hl',h⟩:=Ao.1 h;simp only[Ai,CH]at hN;obtain⟨⟨⟨⟨⟨⟨q1,q2⟩,q3⟩,q4⟩,q5⟩,q6⟩,q7⟩:=hN;have b2:Nat.blt (i+1) ops.size=true:=by rw[Bi]at q7⊢;omega
 have b1:Nat.blt i ops.size=true:=by rw[Bi]at q7⊢;omega
 have hk':=hk l' hl' h;unfold RW at hk'⊢;rw[FT b1,FT b2,FT q7];exact qJ (hs l' hl') hk' b d hpin hx c hp hc f hm h1 h2 h3 k1 k2 k3 g1 g2 g3 q1 q2 q3 q4 q5 q6 ht (Pj hf).choose_spec.choose_spec.2.1
theorem vU {f:FuncId} {c:Code} {a cells':List TV} {b:SV} (hf:P.funcs[f]?=some fn) (hb:fn.body=some c) (hN:fn.ntmps=N) (h:∀b0,Wp P N c (Dc (.ext a::as) (ZA b0)) λe E=>(e= .normal\/e= .ret)/\∃ss E',Dg P E fn.results.toList=some (ss,E')/\D6 ss=b/\E'.boxes (.ext 0)=some cells') (d:cells'.isEmpty=false:=by rfl):A3 P f (.ext a::as) b (.ext cells'::List.replicate as.length .gone):=UR ZA o5 hf hb (by rw[hN];exact h) d
def Yp (P:Program) (N:Nat) (ops:Array Oper) (E:St) (i:Nat):Option (FuncId×Array Value×Int×Int):=bif PB P ops E i&&EW N (oA ops i)then
 (match(oA ops i).op with
 | .call c=>match c.callee,c.args.toList with
  | .value (.tmp t),[o1,o2]=>match E.slots t,E.cell1 P 0 o1,E.cell1 P 0 o2 with
   | .one (.fn (.func g) fr cap),some (.int .i64 x),some (.int .i64 y)=>bif fr.isEmpty then some (g,cap,x,y)else none
   |_,_,_=>none
  |_,_=>none
 |_=>none)else none
theorem WJ {g:FuncId} {cap:Array Value} {x y:Int} (h:Yp P N ops E i=some (g,cap,x,y)):PB P ops E i=true/\(∃d,(oA ops i).dst=some d/\Nat.blt d N=true)/\∃t o1 o2 tys,(oA ops i).op= .call {callee:= .value (.tmp t),args:= #[o1,o2],argTypes:=tys}/\E.slots t= .one (.fn (.func g) #[] cap)/\E.cell1 P 0 o1=some (.int .i64 x)/\E.cell1 P 0 o2=some (.int .i64 y):=by
 unfold Yp at h
 cases hb:(PB P ops E i&&EW N (oA ops i))with
 |false=>rw[hb]at h;cases h
 |true=>
  rw[hb]at h;simp only[Af]at h;simp only[Ai]at hb;obtain⟨d,h1,h2,_⟩:=DS hb.2;refine⟨hb.1,⟨d,h1,h2⟩,?_⟩;split at h
  ·rename_i c hc;split at h
   ·rename_i t o1 o2 k1 k2;split at h
    ·rename_i g' fr cap' x' y' m1 m2 m3
     cases he:fr.isEmpty with
     |false=>rw[he]at h;cases h
     |true=>
      rw[he]at h;simp only[Af,Ak,Bk]at h;obtain⟨rfl,rfl,rfl,rfl⟩:=h;have a:fr= #[]:=by simpa using he
      subst a;refine⟨t,o1,o2,c.argTypes,?_,m1,m2,m3⟩;have ha:c.args= #[o1,o2]:=Array.toList_inj.1 k2;rw[hc];cases c;simp only at k1 ha;rw[k1,ha]
    cases h
   cases h
  cases h
theorem iG {rr:β} {lt:γ->γ->Bool} {l:List γ} {k:γ×γ->Option β} {g:FuncId} {cap:Array Value} (a:HD P Am lt g cap) {x y:Int} (h:(kI l x y).bind k=some rr) (hk:∀v,k v=some rr->RW P N ops (i+1) (E.put (oA ops i).dst (.one (.bool (lt v.1 v.2)))) Q) (hc:Yp P N ops E i=some (g,cap,x,y):=by kernel_rfl) (hA:E.amb=Am l:=by kernel_rfl):RW P N ops i E Q:=by
 obtain⟨h1,⟨d,h2,h3⟩,t,o1,o2,tys,h4,h5,h6,h7⟩:=WJ hc;obtain⟨h8,h9⟩:=Hd h1;unfold RW;rw[FT h8];exact qK a h d (λv hv=>by have:=hk v hv;rw[h2]at this;exact this) hA h4 h5 h6 h7 h2 h3 h9
theorem iF {rr:β} {l:List γ} {k:List γ->Option β} {cap:Array Value} (a:JM P Am sf cap) (hB:∀l l',(Am l).B=(Am l').B/\(Am l).pin=none) {x y:Int} (h:(cP l x y).bind k=some rr) (hk:∀v,k v=some rr->RW P N ops (i+1) (({E with amb:=Am v}:St).put (oA ops i).dst (.tup [])) Q) (hc:Yp P N ops E i=some (sf,cap,x,y):=by kernel_rfl) (hA:E.amb=Am l:=by kernel_rfl):RW P N ops i E Q:=by
 obtain⟨h1,⟨d,h2,h3⟩,t,o1,o2,tys,h4,h5,h6,h7⟩:=WJ hc;obtain⟨h8,h9⟩:=Hd h1;unfold RW;rw[FT h8];exact qI a hB h d (λv hv=>by have:=hk v hv;rw[h2]at this;exact this) hA h4 h5 h6 h7 h2 h3 h9
def rA (P:Program) (N:Nat) (ops:Array Oper) (E:St) (i:Nat):Option (FuncId×List AV):=bif PB P ops E i&&EW N (oA ops i)then
 (match(oA ops i).op with
 | .call c=>match c.callee with
  | .value (.func f)=>match P.funcs[f]? with
   |some fn=>match Ia P E ((c.argTypes.toList.zip c.args.toList).map λ(t,x)=>(false,t,x)) (List.replicate c.args.size none)with
    | some (l, b) => bif b && (l.all eX && (!(fn.name == "runtime.NumGoroutine") && (!fn.body.isNone && Nat.beq c.argTypes.size c.args.size))) then some (f, l) else none
    |none=>none
   |none=>none
  |_=>none
 |_=>none)else none
theorem O5 {rr:β} {f:FuncId} {l:List AV} {k:List γ->Option β} {x:Option (List γ)} (h:x.bind k=some rr) (hB:∀l l',(Am l).B=(Am l').B/\(Am l).pin=none) (e:∀v,x=some v->JO P f (Am xl) l (Am v)) (hk:∀v,k v=some rr->RW P N ops (i+1) (({E with amb:=Am v}:St).put (oA ops i).dst (.tup [])) Q) (hc:rA P N ops E i=some (f,l):=by kernel_rfl) (hA:E.amb=Am xl:=by kernel_rfl):RW P N ops i E Q:=by
 unfold rA at hc
 cases hb:(PB P ops E i&&EW N (oA ops i))with
 |false=>rw[hb]at hc;cases hc
 |true=>
  rw[hb]at hc;simp only[Af]at hc;simp only[Ai]at hb;obtain⟨d,h1,h2,_⟩:=DS hb.2;obtain⟨h8,h9⟩:=Hd hb.1;split at hc
  ·rename_i c g;split at hc
   ·rename_i f' a;split at hc
    ·rename_i fn j;split at hc
     ·rename_i l' b m
      cases hq : (b && (l'.all eX && (!(fn.name == "runtime.NumGoroutine") && (!fn.body.isNone && Nat.beq c.argTypes.size c.args.size)))) with
      |false=>rw[hq]at hc;cases hc
      |true=>
       rw[hq]at hc;simp only[Af,Ak,Bk]at hc;obtain⟨rfl,rfl⟩:=hc;simp only[Ai,CH]at hq;obtain⟨rfl,q1,q2,q3,q4⟩:=hq;unfold RW;rw[FT h8];refine tB (fn:=fn) h d Am (A:=Am xl) (args:=c.args) (tys:=c.argTypes) ?_ hA (λv=>⟨(hB _ _).1,(hB _ v).2⟩) m (Vr q1) e (λv _ hv=>by have:=hk v hv;rw[h1]at this;exact this) j q2 q3 h1 h2 (Bc q4) h9;rw[g];cases c;simp only at a;rw[a]
     cases hc
    cases hc
   cases hc
  cases hc
theorem ra {Am:α->Nz} {e:Exit} {v r:α} (h:some v=some r) (he:e= .normal\/e= .ret:=by first|exact .inr rfl|exact .inl rfl) (hA:E.amb=Am v:=by kernel_rfl):(e= .normal\/e= .ret)/\E.amb=Am r:=by
 injection h with h
 rw[<-h];exact⟨he,hA⟩
structure RS where
 s:List (Nat×SV)
 b:List (Root×List TV)
 a:Nz
def RS.st (x:RS):St:=uD x.s x.b x.a
abbrev rs (s:List (Nat×SV)) (b:List (Root×List TV)):RS:=⟨s,b,Nz.none⟩
abbrev NS (s:List (Nat×SV)) (b:List (Root×List TV)) (a:Nz):RS:=⟨s,b,a⟩
def RS.in (X:RS) (E:St):Bool:=X.b.all λr=>r.1.mem&&(E.boxes r.1).isSome
def RS.nf (X:RS) (E:St):St:=JH E (X.s.map Prod.fst) (X.b.map Prod.fst)
def Tw (X:RS) (E:St):Prop:=X.in E=true/\X.nf E=X.st
def jR (H:V->RS) (v:Option V) (Q:Exit->St->Prop):Exit->St->Prop
 | .normal,E=>∃a,v=some a/\Tw (H a) E
 |e,E=>Q e E
def lR (id:Nat) (H:S->RS) (H2:V->RS) (o:S⊕V⊕W) (Q:Exit->St->Prop):Exit->St->Prop
 | .normal,E=>∃s,o= .inl s/\Tw (H s) E
 | .exit i,E=>if i=id then∃v,o= .inr (.inl v)/\Tw (H2 v) E else Q (.exit i) E
 |e,E=>Q e E
def u5 (id:Nat) (H:S->RS) (H2:V->RS) (o:S⊕V) (Q:Exit->St->Prop):Exit->St->Prop
 | .normal,E=>∃s,o= .inl s/\Tw (H s) E
 | .exit i,E=>if i=id then∃v,o= .inr v/\Tw (H2 v) E else Q (.exit i) E
 |e,E=>Q e E
variable {X:RS} {H:V->RS} {H2:V->RS}
theorem A0 {c:Code} (h:Tw X E) (hw:Wp P N c X.st Q):Wp P N c E Q:=Wp.norm _ _ _ (by rw[List.all_map];exact h.1) h.2 hw
theorem aH {c:Code} {x:Option V} (h:x.bind k=some r) (H:V->RS) (h1:∀a,x=some a->Wp P N c E (jR H (some a) Q)) (h2:∀a,k a=some r->∀E',Tw (H a) E'->Q .normal E'):Wp P N c E Q:=by
 obtain⟨a,ha,h⟩:=Ao.1 h
 refine Wp.mono (h1 a ha) λe E' hq=>?_
 cases e<;>try exact hq
 obtain⟨a',h3,h4⟩:=hq
 injection h3 with h3
 subst h3;exact h2 a h E' h4
theorem tI {c:Code} {k:V⊕W->Option β} {x:Option (V⊕W)} (h:x.bind k=some r) (H:V->RS) (h1:∀a,x=some a->k a=some r->Wp P N c E (jR H a.getLeft? Q)) (h2:∀a,k (.inl a)=some r->∀E',Tw (H a) E'->Q .normal E'):Wp P N c E Q:=by
 obtain⟨a,ha,h⟩:=Ao.1 h
 refine Wp.mono (h1 a ha h) λe E' hq=>?_
 cases e<;>try exact hq
 obtain⟨a',h3,h4⟩:=hq
 cases a with
 |inl a=>
  injection h3 with h3
  subst h3;exact h2 a h E' h4
 |inr w=>cases h3
theorem NT {H:S->RS} {Q':Exit->St->Prop} {c:Code} {body:S->Option (S⊕A)} {a:A} (hb:∀s o,body s=some o->(∀a',o= .inr a'->a'=a)->Wp P N c (H s).st (λe E=>match e with| .normal=>∃s,o= .inl s/\Tw (H s) E|e=>Q' e E)):
  ∀{n:Nat} {s:S} {E:St},Tw (H s) E->M4 body n s=some a->Vw P N c Q' n E
 |0,s,E,_,h=>by cases h
 |n+1,s,E,hn,h=>by
  simp only[M4]at h;simp only[Vw];refine A0 hn ?_;split at h
  ·cases h
  ·rename_i s' hs
   refine Wp.mono (hb s _ hs (λa' h=>by cases h)) λe E' hq=>?_
   cases e<;>try exact hq
   obtain⟨s2,h2,h3⟩:=hq
   injection h2 with h2
   subst h2;exact NT hb h3 h
  rename_i a' hs
  injection h with h
  refine Wp.mono (hb s _ hs (λa2 h2=>by injection h2 with h2;rw[<-h2,h])) λe E' hq=>?_
  cases e<;>try exact hq
  obtain⟨s2,h2,h3⟩:=hq;cases h2
theorem uI {id:Nat} {c:Code} {k:V⊕W->Option β} {H:S->RS} {body:S->Option (S⊕V⊕W)} (h:(Aq body s0).bind k=some r) (h0:Tw (H s0) E) (hb:∀s o,body s=some o->(∀w,o= .inr (.inr w)->k (.inr w)=some r)->Wp P N c (H s).st (lR id H H2 o Q)) (h2:∀v,k (.inl v)=some r->∀E',Tw (H2 v) E'->Q .normal E'):Wp P N (.block id (.loop c)) E Q:=by
 obtain⟨a,ha,h⟩:=Ao.1 h;obtain⟨n,hn⟩:=Gd.1 ha;refine Wp.block (Wp.loop n (NT (H:=H) (a:=a) (λs o hs ho=>?_) h0 hn))
 refine Wp.mono (hb s o hs (λw hw=>by rw[ho _ hw];exact h)) λe E' hq=>?_
 cases e<;>try exact hq
 simp only[lR]at hq;simp only[Ss];split
 ·rename_i b;rw[Ar b]at hq;obtain⟨v,h3,h4⟩:=hq;have h5:=ho _ h3;subst h5;exact h2 v h E' h4
 rename_i b;rw[Au b]at hq;exact hq
theorem uK {id:Nat} {c:Code} {H:S->RS} {body:S->Option (S⊕V)} (h:(Aq body s0).bind k=some r) (h0:Tw (H s0) E) (hb:∀s o,body s=some o->Wp P N c (H s).st (u5 id H H2 o Q)) (h2:∀v,k v=some r->∀E',Tw (H2 v) E'->Q .normal E'):Wp P N (.block id (.loop c)) E Q:=by
 obtain⟨a,ha,h⟩:=Ao.1 h;obtain⟨n,hn⟩:=Gd.1 ha;refine Wp.block (Wp.loop n (NT (H:=H) (a:=a) (λs o hs ho=>?_) h0 hn))
 refine Wp.mono (hb s o hs) λe E' hq=>?_
 cases e<;>try exact hq
 simp only[u5]at hq;simp only[Ss];split
 ·rename_i b;rw[Ar b]at hq;obtain⟨v,h3,h4⟩:=hq;have h5:=ho _ h3;subst h5;exact h2 v h E' h4
 rename_i b;rw[Au b]at hq;exact hq
theorem Iy {id:Nat} {c:Code} {k:V⊕W->Option β} {body:S->Option (S⊕V⊕W)} (h:(Aq body s0).bind k=some r) (H:S->RS) (H2:V->RS) (hb:∀s o,body s=some o->(∀w,o= .inr (.inr w)->k (.inr w)=some r)->Wp P N c (H s).st (lR id H H2 o Q)) (h2:∀v,k (.inl v)=some r->∀E',Tw (H2 v) E'->Q .normal E') (h0:(H s0).in E=true:=by kernel_rfl) (hn:(H s0).nf E=(H s0).st:=by kernel_rfl):Wp P N (.block id (.loop c)) E Q:=uI h ⟨h0,hn⟩ hb h2
theorem ET {id:Nat} {c:Code} {body:S->Option (S⊕V)} (h:(Aq body s0).bind k=some r) (H:S->RS) (H2:V->RS) (hb:∀s o,body s=some o->Wp P N c (H s).st (u5 id H H2 o Q)) (h2:∀v,k v=some r->∀E',Tw (H2 v) E'->Q .normal E') (h0:(H s0).in E=true:=by kernel_rfl) (hn:(H s0).nf E=(H s0).st:=by kernel_rfl):Wp P N (.block id (.loop c)) E Q:=uK h ⟨h0,hn⟩ hb h2
theorem Ev {c:Code} {x:Option V} (h:x.bind k=some r) (H:V->RS) (h1:∀a,x=some a->Wp P N c E (jR H (some a) (HF (λE'=>Wp P N y E' Q) Q))) (h2:∀a,k a=some r->Wp P N y (H a).st Q):Wp P N (.seq c y) E Q:=Wp.seq (aH h H h1 λa ha E' hE=>A0 hE (h2 a ha))
theorem oF {id:Nat} {c:Code} {body:S->Option (S⊕V)} (h:(Aq body s0).bind k=some r) (H:S->RS) (H2:V->RS) (hb:∀s o,body s=some o->Wp P N c (H s).st (u5 id H H2 o (HF (λE'=>Wp P N y E' Q) Q))) (h2:∀v,k v=some r->Wp P N y (H2 v).st Q) (h0:(H s0).in E=true:=by kernel_rfl) (hn:(H s0).nf E=(H s0).st:=by kernel_rfl):Wp P N (.seq (.block id (.loop c)) y) E Q:=Wp.seq (uK h ⟨h0,hn⟩ hb λv hv E' hE=>A0 hE (h2 v hv))
theorem u9 {id:Nat} {c:Code} {k:V⊕W->Option β} {body:S->Option (S⊕V⊕W)} (h:(Aq body s0).bind k=some r) (H:S->RS) (H2:V->RS) (hb:∀s o,body s=some o->(∀w,o= .inr (.inr w)->k (.inr w)=some r)->Wp P N c (H s).st (lR id H H2 o (HF (λE'=>Wp P N y E' Q) Q))) (h2:∀v,k (.inl v)=some r->Wp P N y (H2 v).st Q) (h0:(H s0).in E=true:=by kernel_rfl) (hn:(H s0).nf E=(H s0).st:=by kernel_rfl):Wp P N (.seq (.block id (.loop c)) y) E Q:=Wp.seq (uI h ⟨h0,hn⟩ hb λv hv E' hE=>A0 hE (h2 v hv))
theorem en {a v:V} (h:some v=some a) (hb:(H v).in E=true:=by kernel_rfl) (hn:(H v).nf E=(H v).st:=by kernel_rfl):∃a',some a=some a'/\Tw (H a') E:=by
 injection h with h
 subst h;exact⟨_,rfl,hb,hn⟩
theorem em {a:V⊕W} {v:V} (h:some (.inl v)=some a) (hb:(H v).in E=true:=by kernel_rfl) (hn:(H v).nf E=(H v).st:=by kernel_rfl):∃a',a.getLeft? =some a'/\Tw (H a') E:=by
 injection h with h
 subst h;exact⟨_,rfl,hb,hn⟩
theorem el {H:S->RS} {s:S} {o:S⊕W} (h:some (.inl s)=some o) (hb:(H s).in E=true:=by kernel_rfl) (hn:(H s).nf E=(H s).st:=by kernel_rfl):∃s,o= .inl s/\Tw (H s) E:=by
 injection h with h
 subst h;exact⟨_,rfl,hb,hn⟩
theorem ex {o:S⊕(V⊕W)} {v:V} (h:some (.inr (.inl v))=some o) (hb:(H v).in E=true:=by kernel_rfl) (hn:(H v).nf E=(H v).st:=by kernel_rfl):∃v,o= .inr (.inl v)/\Tw (H v) E:=by
 injection h with h
 subst h;exact⟨_,rfl,hb,hn⟩
theorem ev {o:S⊕V} {v:V} (h:some (.inr v)=some o) (hb:(H v).in E=true:=by kernel_rfl) (hn:(H v).nf E=(H v).st:=by kernel_rfl):∃v,o= .inr v/\Tw (H v) E:=by
 injection h with h
 subst h;exact⟨_,rfl,hb,hn⟩
def r7 (P:Program) (N:Nat) (ops:Array Oper) (ts mv dn:List Nat) (E:St) (X:RS):Bool:=match i8 P N ops ts mv (ops.size+1) dn E with
 |some L=>L.all λE'=>X.in E'
 |none=>false
theorem o7 {ts:List Nat} {mv:List Nat} (hb:r7 P N ops ts mv dn E X=true) (hn:(mF P N ops ts mv dn E).map X.nf=(mF P N ops ts mv dn E).map λ_=>X.st) (hq:∀E',Tw X E'->Q .normal E'):KW P N ops ts dn E Q:=by
 unfold r7 at hb;split at hb
 ·rename_i L hL
  refine fD hL λE' hE=>hq E' ⟨Ca.1 hb E' hE,?_⟩
  rw[mF,hL,Bu]at hn;have:∀(L:List St),L.map X.nf=L.map (λ_=>X.st)->∀E'∈L,X.nf E'=X.st:=by
   intro L
   induction L with
   |nil=>intro _ _ h;cases h
   |cons x L ih=>
    intro h E' hE;rw[BO,BO]at h
    injection h with h1 h2
    rcases B6.1 hE with rfl|hE
    ·exact h1
    exact ih h2 E' hE
  exact this L hn E' hE
 cases hb
section
variable {ts:List Nat}
theorem kJ {Q0:Exit->St->Prop} {a v:V} (mv:List Nat) (h:some v=some a) (hb:r7 P N ops ts mv dn E (H v)=true:=by kernel_rfl) (hn:(mF P N ops ts mv dn E).map (H v).nf=(mF P N ops ts mv dn E).map (λ_=>(H v).st):=by kernel_rfl):KW P N ops ts dn E (jR H (some a) Q0):=
 o7 hb hn λE' hE=>by
  injection h with h
  subst h;exact⟨_,rfl,hE⟩
end
theorem rk (k:Nat) (h:RW P N ops (i+k) (M5 P N ops k 0 i E) Q) (hk:(NR P N ops k 0 i E).isSome=true:=by kernel_rfl):RW P N ops i E Q:=n9 k 0 h hk
theorem oX (a b:Nat):Nat.ble a (b+(a-b))=true:=by rw[Mh];omega
theorem gm (m:Nat) (h:Q .normal (M5 P N ops (ops.size-i) m i E)) (hk:(NR P N ops (ops.size-i) m i E).isSome=true:=by kernel_rfl):RW P N ops i E Q:=n9 (ops.size-i) m (RW.nil h (oX _ _)) hk
theorem g0 (h:Q .normal (M5 P N ops (ops.size-i) 0 i E)) (hk:(NR P N ops (ops.size-i) 0 i E).isSome=true:=by kernel_rfl):RW P N ops i E Q:=gm 0 h hk
section
variable {id:Nat}
theorem wm (m:Nat) (h:RW P N ops2 0 (M5 P N ops (ops.size-i) m i E) (HF (λE'=>Wp P N y E' Q) Q)) (hk:(NR P N ops (ops.size-i) m i E).isSome=true:=by kernel_rfl):RW P N ops i E (HF (λE'=>Wp P N (.seq (.region id ops2 false) y) E' Q) Q):=gm m (ws h) hk
end
section
variable {id:Nat}
theorem w0 (h:RW P N ops2 0 (M5 P N ops (ops.size-i) 0 i E) (HF (λE'=>Wp P N y E' Q) Q)) (hk:(NR P N ops (ops.size-i) 0 i E).isSome=true:=by kernel_rfl):RW P N ops i E (HF (λE'=>Wp P N (.seq (.region id ops2 false) y) E' Q) Q):=wm 0 h hk
end
section
variable {id:Nat}
theorem wg (h:HF (λE'=>Wp P N y E' Q) Q .normal (M5 P N ops (ops.size-0) 0 0 E)) (hk:(NR P N ops (ops.size-0) 0 0 E).isSome=true:=by kernel_rfl):Wp P N (.seq (.region id ops false) y) E Q:=ws (g0 h hk)
end
section
variable {x:Code}
theorem qs (h:Wp P N x E (HF (λE'=>Wp P N y E' Q) Q)):Wp P N (.seq x y) E Q:=Wp.seq h
end
theorem qk (h:Q .normal E):Wp P N .skip E Q:=Wp.skip h
theorem qt (h:Q .ret E):Wp P N .ret E Q:=Wp.ret h
theorem qx {id:Nat} (h:Q (.exit id) E):Wp P N (.exit id) E Q:=Wp.exit h
theorem qb {id:Nat} {c:Code} (h:Wp P N c E (Ss id Q)):Wp P N (.block id c) E Q:=Wp.block h
theorem qr {id:Nat} (h:RW P N ops 0 E Q):Wp P N (.region id ops false) E Q:=rD h
section
variable {id:Nat} {c:Code}
theorem qd {Q1:Exit->St->Prop} (h:Wp P N c E (Ss id (HF (λE'=>Wp P N y E' Q1) Q1))):Wp P N .skip E (HF (λE'=>Wp P N (.seq (.block id c) y) E' Q1) Q1):=qk (qs (qb h))
end
section
variable {id:Nat}
theorem qw {z:Code} (h:HF (λE'=>Wp P N y E' (HF (λE'=>Wp P N z E' Q) Q)) (HF (λE'=>Wp P N z E' Q) Q) .normal (M5 P N ops (ops.size-0) 0 0 E)) (hk:(NR P N ops (ops.size-0) 0 0 E).isSome=true:=by kernel_rfl):Wp P N (.seq (.seq (.region id ops false) y) z) E Q:=qs (wg h hk)
end
section
variable {id:Nat}
theorem qv {z:Code} (h:RW P N ops 0 E (HF (λE'=>Wp P N y E' (HF (λE'=>Wp P N z E' Q) Q)) (HF (λE'=>Wp P N z E' Q) Q))):Wp P N (.seq (.seq (.region id ops false) y) z) E Q:=qs (ws h)
end
theorem wq {id:Nat} (h:Q .ret (M5 P N ops (ops.size-0) 0 0 E)) (hk:(NR P N ops (ops.size-0) 0 0 E).isSome=true:=by kernel_rfl):Wp P N (.seq (.region id ops false) .ret) E Q:=wg (qt h) hk
theorem aq (hp:AU P E (oA ops i)=some s) (h:RW P N ops (i+1) (E.put (oA ops i).dst s) Q) (hk:lT P N ops i E=true:=by kernel_rfl):RW P N ops i E Q:=s5 hp h hk
theorem Cg (k:Nat) (hp:AU P (M5 P N ops k 0 i E) (oA ops (i+k))=some s) (h:RW P N ops (i+k+1) ((M5 P N ops k 0 i E).put (oA ops (i+k)).dst s) Q) (hk:(NR P N ops k 0 i E).isSome=true:=by kernel_rfl) (hq:lT P N ops (i+k) (M5 P N ops k 0 i E)=true:=by kernel_rfl):RW P N ops i E Q:=n9 k 0 (s5 hp h hq) hk
theorem kq {ts:List Nat} (i:Nat) (hp:AU P E (oA ops i)=some s) (h:KW P N ops ts (i::dn) (E.put (oA ops i).dst s) Q) (hk:(lT P N ops i E&&bH ops ts dn i)=true:=by kernel_rfl):KW P N ops ts dn E Q:=wG i hp h hk
theorem ac {l:List AV} {n:Nat} {x:Option α} (h:x.bind kk=some r) {enc:α->SV} (a:∀v,x=some v->A3 P (Pu (oA ops i)) l (enc v) (List.replicate n .gone)) (hk:∀v,kk v=some r->RW P N ops (i+1) ((sN P E (oA ops i) 0).put (oA ops i).dst (enc v)) Q) (b:cY P E (oA ops i) 0=some l:=by kernel_rfl) (hc:rN P E (oA ops i) 0=true\/∀v,BG (enc v)=false:=by exact .inl (by kernel_rfl)) (ho:(PB P ops E i&&Ti P N (oA ops i))=true:=by kernel_rfl):RW P N ops i E Q:=RW.c 0 h a (λv _=>hk v) b hc ho
theorem BB {l:List AV} {n:Nat} {x:Option α} (k:Nat) (h:x.bind kk=some r) {enc:α->SV} (a:∀v,x=some v->A3 P (Pu (oA ops (i+k))) l (enc v) (List.replicate n .gone)) (hk:∀v,kk v=some r->RW P N ops (i+k+1) ((sN P (M5 P N ops k 0 i E) (oA ops (i+k)) 0).put (oA ops (i+k)).dst (enc v)) Q) (hr:(NR P N ops k 0 i E).isSome=true:=by kernel_rfl) (b:cY P (M5 P N ops k 0 i E) (oA ops (i+k)) 0=some l:=by kernel_rfl) (hc:rN P (M5 P N ops k 0 i E) (oA ops (i+k)) 0=true\/∀v,BG (enc v)=false:=by exact .inl (by kernel_rfl)) (ho:(PB P ops (M5 P N ops k 0 i E) (i+k)&&Ti P N (oA ops (i+k)))=true:=by kernel_rfl):RW P N ops i E Q:=n9 k 0 (RW.c 0 h a (λv _=>hk v) b hc ho) hr
section
variable {ts:List Nat}
theorem It {l:List AV} {n:Nat} {x:Option α} (m:Nat) (h:x.bind kk=some r) {enc:α->SV} (a:∀v,x=some v->A3 P (Pu (oA ops i)) l (enc v) (List.replicate n .gone)) (hk:∀v,kk v=some r->KW P N ops ts (i::dn) ((sN P E (oA ops i) m).put (oA ops i).dst (enc v)) Q) (b:cY P E (oA ops i) m=some l:=by kernel_rfl) (hc:rN P E (oA ops i) m=true\/∀v,BG (enc v)=false:=by exact .inl (by kernel_rfl)) (ho:(PB P ops E i&&Ti P N (oA ops i)&&((bits m (Gj (oA ops i))).all (λx=>!x.1)||ts.contains i))=true:=by kernel_rfl):KB P N ops ts dn i E Q:=KB.c m h a (λv _=>hk v) b hc ho
end
theorem qH {l:List AV} {n:Nat} {x:Option α} (h:x.bind kk=some r) {enc:α->SV} {a:List TV} (c:∀v,x=some v->A3 P (Pu (oA ops i)) (.ext a::l) (enc v) (.ext (fin v)::List.replicate n .gone)) (hk:∀v,kk v=some r->RW P N ops (i+1) (((E.setRoot (nL E (oA ops i)) (fin v)).bump (nL E (oA ops i))).put (oA ops i).dst (enc v)) Q) (b:∀v,(fin v).length=a.length:=by exact λ_=>rfl) (d:p8 P E (oA ops i)=some l:=by kernel_rfl) (hb:E.boxes (nL E (oA ops i))=some a:=by kernel_rfl) (hc:u6 P E (oA ops i)=true\/∀v,BG (enc v)=false/\Bb (fin v)=false:=by exact .inl (by kernel_rfl)) (ho:(PB P ops E i&&Ti P N (oA ops i)&&p7 E (oA ops i))=true:=by kernel_rfl):RW P N ops i E Q:=uV h c b (λv _=>hk v) d hb hc ho
theorem C0 (k t:Nat) (h:(bif b then tx else ty)=some r) (ht:tx=some r->RW P N ops (i+k) ((M5 P N ops k 0 i E).rs t true) Q) (hf:ty=some r->RW P N ops (i+k) ((M5 P N ops k 0 i E).rs t false) Q) (hr:(NR P N ops k 0 i E).isSome=true:=by kernel_rfl) (hc:(M5 P N ops k 0 i E).slots t=B b:=by kernel_rfl):RW P N ops i E Q:=n9 k 0 (uT t h ht hf hc) hr
def Vp (fn:Func):Code:=fn.body.getD .skip
theorem Sr (h:fn.body.isSome=true):fn.body=some (Vp fn):=by
 unfold Vp
 cases e:fn.body with
 |none=>rw[e]at h;cases h
 |some c=>rfl
theorem gf {f:FuncId} {a:SV} (hf:P.funcs[f]?=some fn) (hN:fn.ntmps=N) (h:Wp P N (Vp fn) (Dc as) λe E=>(e= .normal\/e= .ret)/\∃ss E',Dg P E fn.results.toList=some (ss,E')/\D6 ss=a) (hb:fn.body.isSome=true:=by kernel_rfl):A3 P f as a (List.replicate as.length .gone):=gk hf (Sr hb) hN h
theorem tH {f:FuncId} {A':Nz} (hf:P.funcs[f]?=some fn) (hN:fn.ntmps=N) (hB:∀l l',(Am l).B=(Am l').B/\(Am l).pin=none) (h:Wp P N (Vp fn) (Dc as (Am xl)) λe E=>(e= .normal\/e= .ret)/\E.amb=A') (hb:fn.body.isSome=true:=by kernel_rfl) (hr:fn.results= #[]:=by rfl):JO P f (Am xl) as A':=jT hf (Sr hb) hr (hB xl xl).2 (by rw[hN];exact h)
theorem vV {f:FuncId} {a cells':List TV} {b:SV} (hf:P.funcs[f]?=some fn) (hN:fn.ntmps=N) (h:Wp P N (Vp fn) (Dc (.ext a::as)) λe E=>(e= .normal\/e= .ret)/\∃ss E',Dg P E fn.results.toList=some (ss,E')/\D6 ss=b/\E'.boxes (.ext 0)=some cells') (hb:fn.body.isSome=true:=by kernel_rfl) (c:cells'.isEmpty=false:=by rfl):A3 P f (.ext a::as) b (.ext cells'::List.replicate as.length .gone):=w4 hf (Sr hb) hN h c
theorem vR (h:Tw X E) {a:List TV} (hc:X.st.boxes (.ext 0)=some a:=by kernel_rfl):(Exit.normal= .normal\/Exit.normal= .ret)/\∃ss E1,Dg P E []=some (ss,E1)/\D6 ss= .tup []/\E1.boxes (.ext 0)=some a:=by
 refine⟨.inl rfl,[],E,rfl,rfl,?_⟩;obtain⟨h1,h2⟩:=h;rw[<-h2]at hc;unfold RS.nf at hc;by_cases hm:(X.b.map Prod.fst).contains (.ext 0)=true
 ·have e:(JH E (X.s.map Prod.fst) (X.b.map Prod.fst)).boxes (.ext 0)=some ((E.boxes (.ext 0)).getD []):=by
   show((X.b.map Prod.fst).map λr=>(r,(E.boxes r).getD [])).lookup (.ext 0)=_;rw[FN (f:=λr=>(E.boxes r).getD []),Ar hm]
  rw[e]at hc;unfold RS.in at h1;have h3:((E.boxes (.ext 0)).isSome)=true:=by
   have h4:=Ca.1 h1;have c:Root.ext 0∈X.b.map Prod.fst:=by simpa using hm
   obtain⟨z,z1,z2⟩:=AG.1 c;have:=h4 z z1;rw[z2,Ai]at this;exact this.2
  cases he:E.boxes (.ext 0)with
  |none=>rw[he]at h3;cases h3
  |some v=>rw[he]at hc;exact hc
 have e:(JH E (X.s.map Prod.fst) (X.b.map Prod.fst)).boxes (.ext 0)=none:=by
  show((X.b.map Prod.fst).map λr=>(r,(E.boxes r).getD [])).lookup (.ext 0)=_;rw[FN (f:=λr=>(E.boxes r).getD []),Au hm]
 rw[e]at hc;cases hc
theorem pD {Am:α->Nz} {v r:α} (h:some v=some r) (hE:Tw X E) (hX:X.st.amb=Am v:=by kernel_rfl):(Exit.normal= .normal\/Exit.normal= .ret)/\E.amb=Am r:=by
 injection h with h
 rw[<-h,<-hX,<-hE.2];exact⟨.inl rfl,rfl⟩
end Go.TI
